/- Steps of the proof: WordB, WordC, WordD, WordE, WordF, OnceA, OnceB, OnceC. -/
import Derived.Test.YtcjdkbgdahgjbaaGreatDoorK0
import Derived.Test.YtcjdkbgdahgjbaaGreatDoorKaa
import Derived.Test.YtcjdkbgdahgjbaaGreatDoorKak
import Derived.Laws.BytesArg
import Derived.Laws.IdiomStrings
import Derived.Deep.RegionLaw
import Derived.Deep.RegionHeld3
import Derived.Defers
import Derived.Laws.Pointers
import Derived.Laws.LoneSync
import Derived.RegionCalls
import Derived.ChangeAlike
import Derived.Deep.WholeRow
import Derived.Lib.SliceRun
set_option maxRecDepth 100000
set_option maxHeartbeats 8000000
set_option linter.all false
namespace Go.Proofs.YtcjdkbgdahgjbaaGreatDoor
open _root_.And renaming intro→AZ
open _root_.Array renaming getElem?_eq_some_iff→Aj,getElem?_setIfInBounds→AL,length_toList→BL,replicate_succ→Bc,replicate_zero→Bd
open Builtin renaming append_→Bo
open Ending renaming returned→dM
open Exit renaming noGoto_normal→AH
open Fence renaming wide→Ba
open Instr renaming findNow→AV,lookup→Dx
open IntKind renaming i64→dN
open Lib renaming run_eql_slice_nil→A2
open _root_.List renaming append_toArray→B0,cons_append→A6,eq_nil_of_length_eq_zero→Er,getElem?_eq_getElem→Au,getElem?_eq_some_iff→Ad,getElem?_take→Ds,length_append→Ag,length_cons→Ao,length_map→BX,length_nil→Eh,length_singleton→AW,length_take→A7,map_cons→Cn,mem_append→AF,mem_cons→Ac,mem_singleton→Am,nil_append→AX,not_mem_nil→Ab,push_toArray→By,size_toArray→Cx,take_succ_eq_append_getElem→AR
open _root_.Nat renaming le_refl→Ap,le_trans→As,zero_add→BI,zero_le→Cy
open _root_.UInt8 renaming toNat_inj→Dr
open Value renaming bool→dL,int→dH,pointer→dJ,slice→dI,string→CZ
open World renaming block_lt_of_cell?→A4,ownsRow_nil→Bz
section
open Go.RowKit Go.Shelf
attribute [local go_sem] Oper.semAt_some
attribute [local go_sem ↓] Go.wp_at_zero Go.wp_at_succ
theorem BA{P:Program}{w:World}{o:Oper}{a:Act}{K:Act→World→Prop}{Q:Exit→Act→World→Prop}(s x:Operand)(t:TypeId)
 (ho:o.op = .call { callee:=.builtin .append,args:=#[s,x],argTypes:=#[t,t] }){d:Nat}(hd:o.dst=some d){v u v':Value}{w':World}(hs:a.eval s=v)(hx:a.eval x=u)
 (hr:(Bo #[t,t] o.type #[v,u]).run P w = .ok v' w')(h:K (a.put (some d) v') w'):o.wp P a w K Q:=by
 rw [← hd] at h;unfold Oper.wp execOp;simp only [ho,resolve,invoke,builtin,Sem.run_bind,Sem.run_pure,Result.andThen_ok,List.map_toArray,Cn,List.map_nil,hs,hx,hr];exact h
theorem DX{w:World}{p:Addr}{v:Value}(h:w.cell? p=some v)(o:Obj):(w.alloc o).cell? p=some v:=((Aa.refl [] w).alloc o).cell (p:=p) (A4 w _ h) bA |>.trans h
theorem NH{w:World}{base n:Nat}{e:TypeId}{sz:Nat}{v:Value}{xs:List Value}(h:w.ownsRow base e sz v (n+1) xs):∃g c,v = dI (some ⟨g,0,none⟩) (n+1) c∧base≤g∧g<w.heap.size:=by
 rcases h.2 with⟨_,h0⟩ | ⟨g,cap,cur,hv,hb,hg,_⟩
 ·omega
 ·exact⟨g,cap,hv,hb,Blk.lt (t:=e) (cs:=cur) hg⟩
theorem Oi{w:World}{base:Nat}{v:Value}{l:List UInt8}(h:w.ownsRow base 5 1 v l.length (l.map fun b=>.int .u8 (b.toNat:Int))):
  (convert 193 9 v).run Tryz.prog w = .ok (CZ (CB l)) w:=by
 rcases h.2 with⟨rfl,h0⟩ | ⟨g,cap,cur,rfl,hb,hg,hle,hc,hs,ht⟩
 ·obtain rfl:=Er h0
  exact run_convert_bytes_nil (P:=Tryz.prog) w 193 5 Tryz.underlying193 Tryz.underlying5 0 0 9 Tryz.underlying9
 ·refine run_convert_bytes_back (P:=Tryz.prog) w 193 9 5 ⟨g,0,none⟩ cap l Tryz.underlying193 Tryz.underlying5 Tryz.underlying9 (fun j hj=>?_)
  rw [Bn,BI,Blk.cell (t:=5) (cs:=cur) hg];have h1:(l.map fun b=>dH .u8 (b.toNat:Int))[j]? = some (.int .u8 (l[j].toNat:Int)):=by rw [List.getElem?_map,Au hj];rfl
  rw [← ht,Ds,if_pos bB] at h1;simpa using h1
theorem Ro(r base:Nat)(dv wv:Value)(R:Bw)(hd:R.done.length<12)(st:WS)(w:World)(h:DT w r base dv wv R):
  Calls Tryz.prog 219 #[dJ (some ⟨r,0,none⟩)] w fun e w'=>e = dM (.tuple #[])∧∃dv',DT w' r base dv' (dI none 0 0) (R.shutW st)∧Aa (DT.S r dv wv) w w':=by
 obtain⟨i0,hi,hz0,hz1,hz2⟩:=info_parts Tp;have c0:=h.blk.cell 0;have c1:=h.blk.cell 1;simp at c0 c1;have hcv:(convert 193 9 wv).run Tryz.prog w.drew = .ok (CZ (CB R.word)) w.drew:=Oi (World.ownsRow.drew h.wd);obtain⟨W,hW⟩:=eX ((w.drew).alloc (.cells #[CZ (CB R.word)] 9));have kW:Aa [] w W:=by rw [← hW];exact((Aa.refl [] w).drew).alloc _
 have bW:Blk W w.heap.size 9 #[CZ (CB R.word)]:=by rw [← hW];exact Blk.new w.drew _ _
 have hdW:W.ownsRow base 9 1 dv R.done.length (R.done.map fun s=>CZ (CB s)):=Ak h.d kW bA;have hcW:(convert 193 9 wv).run Tryz.prog W = .ok (CZ (CB R.word)) W:=Oi (Ak h.wd kW bA);obtain⟨v9,w9,hrun,hown,hgrow,-⟩:=run_append_own (P:=Tryz.prog) W base 41 41 9 i0 _ 1 16 Tryz.underlying41 hi hz0 hz1 hz2 rfl bE dv R.done.length _ hdW ⟨w,0,none⟩ 1 1 [CZ (CB R.word)] rfl (fun j u hj=>by
  match j,hj with
  | 0,hj=>rw [Bn,bW.cell];simpa using hj) YB bZ bB (As h.le kW.size)
 obtain⟨g9,c9,rfl,hb9,hl9⟩:=NH hown;have k9:Aa dv.ownBlock.toList w w9:=(kW.mono bA).grown hgrow (fun j hj=>.inl (by simp [hj]));have hnr:∀j,dv.ownBlock=some j→base≤j∧j<w.heap.size:=fun j hj=>Ec h.d j hj;have hrd:r∉dv.ownBlock.toList:=fun hm=>by have:=(hnr r bT).1;have:=h.lt;omega
 have b9:=h.blk.keeps k9 hrd;have e0:=b9.cell 0;have e1:=b9.cell 1;have f0:=b9.frozen 0;have f1:=b9.frozen 1;simp at e0 e1;have HH:=lH h;have B9:=lH b9;have K9:=lH k9;have HOWN:=lH hown;obtain⟨wd,hwd⟩:=eX (CB R.word);rw [hwd] at hcv hcW hW;rw [← hW] at hcW;have HWD:=lH hwd;have hrun2:(Bo #[41,41] 41 #[dv,dI (some ⟨w,0,none⟩) 1 1]).run Tryz.prog ((w.drew).alloc (.cells #[CZ wd] 9)) = .ok (dI (some ⟨g9,0,none⟩) (R.done.length+1) c9) w9:=by rw [hW];exact hrun
 have HRUN:=lH hrun2;have HCV:=lH hcv;have HCW:=lH hcW;clear h hi hz0 hz1 hz2 bW hdW hrun hown hgrow k9 b9 hnr hrd kW hW hwd hrun2 hcv hcW;obtain⟨n,hn⟩:=eX (R.done.length+1);rw [hn] at HRUN;have hK:Aa [r] w9 ((w9.setCell ⟨r,0,none⟩ (dI (some ⟨g9,0,none⟩) n c9)).setCell ⟨r,1,none⟩ (dI none 0 0)):=((Aa.refl [r] w9).setCell (p:=⟨r,0,none⟩) (.inl bA) _).setCell (p:=⟨r,1,none⟩) (.inl bA) _;have hgr:g9∉[r]:=fun hm=>by
  simp only [Am] at hm;have:=HH.out.lt;omega
 have hfin:dM (.tuple #[]) = dM (.tuple #[])∧∃dv',DT ((w9.setCell ⟨r,0,none⟩ (dI (some ⟨g9,0,none⟩) n c9)).setCell ⟨r,1,none⟩ (dI none 0 0)) r base dv' (dI none 0 0) (R.shutW st)∧Aa (DT.S r dv wv) w ((w9.setCell ⟨r,0,none⟩ (dI (some ⟨g9,0,none⟩) n c9)).setCell ⟨r,1,none⟩ (dI none 0 0)):=by
  have hkk:Aa (DT.S r dv wv) w ((w9.setCell ⟨r,0,none⟩ (dI (some ⟨g9,0,none⟩) n c9)).setCell ⟨r,1,none⟩ (dI none 0 0)):=(K9.out.mono (fun y hy=>by simp [DT.S];exact .inr (.inl bU))).trans (hK.mono (by simp [DT.S]));refine⟨rfl,dI (some ⟨g9,0,none⟩) n c9,⟨(B9.out.set_ 0 _).set_ 1 _,?_,Bz _ _ _ _,HH.out.lt,As HH.out.le hkk.size,(fun g _ he=>by cases he),?_,by simp [Bw.shutW]⟩,hkk⟩
  ·have h9:=Ak HOWN.out hK (fun g hg=>by simp only [Value.ownBlock,Option.some.injEq] at hg;subst hg;exact hgr)
   rw [hn] at h9;simp only [Bw.shutW,Ag,List.map_append,Cn,List.map_nil];rw [show R.done.length + [R.word].length=n from hn];exact h9
  ·simp only [Bw.shutW,Ag,AW];omega
 have HFIN:=lH hfin;clear hfin hK hn hb9 hl9;go_enter Tryz.func219,Tryz.ntmps219;go_wp2;have hcv:=HCV.out;have d0:=DX c0 (.cells #[CZ wd] 9);have d1:=DX c1 (.cells #[CZ wd] 9)
 go_region_law (refine BA _ _ 41 bD bD bD bD HRUN.out ?_)
 all_goals
  go_wp2
  go_end0
  exact⟨rfl,HFIN.out.2⟩
def WL(r sb:Nat):WS→Value
 | .bet=>.func (.func 102) #[dJ (some ⟨r,0,none⟩)] #[]
 | .bare=>.func (.func 161) #[dJ (some ⟨r,0,none⟩)] #[]
 | .quo=>.func (.func 160) #[dJ (some ⟨r,0,none⟩)] #[]
 | .shut=>.func (.func 259) #[] #[dJ (some ⟨sb,0,none⟩)]
 | .esc=>.func (.func 260) #[] #[dJ (some ⟨sb,0,none⟩)]
def dC:WS→Nat
 | .bet=>102
 | .bare=>161
 | .quo=>160
 | .shut=>259
 | .esc=>260
def dB(r sb:Nat)(b:UInt8)(e:Bool):WS→Array Value
 | .bet=>#[dJ (some ⟨r,0,none⟩),.int .u8 (b.toNat:Int),dL e]
 | .bare=>#[dJ (some ⟨r,0,none⟩),.int .u8 (b.toNat:Int),dL e]
 | .quo=>#[dJ (some ⟨r,0,none⟩),.int .u8 (b.toNat:Int),dL e]
 | .shut=>#[.int .u8 (b.toNat:Int),dL e,dJ (some ⟨sb,0,none⟩)]
 | .esc=>#[.int .u8 (b.toNat:Int),dL e,dJ (some ⟨sb,0,none⟩)]
def Ya(w:World)(r sb:Nat)(base:Nat):WS→Prop
 | .shut=>Blk w sb 192 #[dJ (some ⟨r,0,none⟩)]∧base≤sb
 | .esc=>Blk w sb 192 #[dJ (some ⟨r,0,none⟩)]∧base≤sb
 | _=>True
def GC(r base:Nat)(S:List Nat)(w:World)(res:Except Int Bw)(x:Ending)(w':World):Prop:=match res with
 | .error k=>(∃v,x = dM (.tuple #[v,Fb (some k)]))∧Aa S w w'
 | .ok R'=>∃dv' wv' sb',x = dM (.tuple #[WL r sb' R'.st,.nilIface])∧DT w' r base dv' wv' R'∧Ya w' r sb' base R'.st∧Aa S w w'
theorem IL(b k:UInt8):(((b.toNat:Int))==((k.toNat:Nat):Int))=decide (b=k):=by
 rw [Bool.eq_iff_iff,beq_iff_eq,decide_eq_true_eq];constructor
 ·intro h;exact Dr.1 bB
 ·rintro rfl;rfl
theorem TT(r base:Nat)(dv wv:Value)(R:Bw)(b:UInt8)(e:Bool)(hd:R.done.length<12)(w:World)(h:DT w r base dv wv R)(hc:e=true∨b=32):
  Calls Tryz.prog 161 #[dJ (some ⟨r,0,none⟩),.int .u8 (b.toNat:Int),dL e] w (GC r base (DT.S r dv wv) w (.ok (R.shutW .bet))):=by
 have HH:=lH h;have hcc:e=true∨(e=false∧((b.toNat:Int)==32)=true):=by
  cases e with
  | true=>exact .inl rfl
  | false=>exact .inr ⟨rfl,(IL b 32).trans (by simpa using hc)⟩
 obtain⟨bi,hbi⟩:∃bi:Int,(b.toNat:Int)=bi:=⟨_,rfl⟩;rw [hbi] at hcc ⊢;clear h hc hbi;rcases hcc with rfl | ⟨rfl,h32⟩
 all_goals
  go_enter Tryz.func161,Tryz.ntmps161;go_wp2_with (fail);refine(Ro r base dv wv R hd .bet _ HH.out).mono ?_;rintro x w' ⟨rfl,dv',hR,hk⟩;have HR:=lH hR;have HK:=lH hk;clear hR hk;go_wp2;go_ret2;exact⟨dv',dI none 0 0,0,rfl,HR.out,trivial,HK.out⟩
theorem RO(r base:Nat)(dv wv:Value)(b:UInt8)(w:World)(hc:b=34):
  Calls Tryz.prog 161 #[dJ (some ⟨r,0,none⟩),.int .u8 (b.toNat:Int),dL false] w (GC r base (DT.S r dv wv) w (.error 12)):=by
 subst hc;have e1:((UInt8.toNat 34:Nat):Int)=34:=rfl;rw [e1];go_enter Tryz.func161,Tryz.ntmps161;go_wp2_with (fail);refine(Ch (some ⟨w,0,none⟩) 2 [(true,12),(false,13)] 2 rfl bB (some 12) rfl _ (L5 w true false 12 13)).mono ?_;rintro x w' ⟨rfl,k5⟩;have HK:=lH (((Aa.refl [] w).alloc _).trans k5);clear k5;simp only [Fb];go_wp2;go_ret2;exact⟨⟨_,rfl⟩,HK.out.mono bA⟩
theorem RP(r base:Nat)(dv wv:Value)(b:UInt8)(w:World)(hc:b=92):
  Calls Tryz.prog 161 #[dJ (some ⟨r,0,none⟩),.int .u8 (b.toNat:Int),dL false] w (GC r base (DT.S r dv wv) w (.error 13)):=by
 subst hc;have e1:((UInt8.toNat 92:Nat):Int)=92:=rfl;rw [e1];go_enter Tryz.func161,Tryz.ntmps161;go_wp2_with (fail);refine(Ch (some ⟨w,0,none⟩) 2 [(false,12),(true,13)] 2 rfl bB (some 13) rfl _ (L5 w false true 12 13)).mono ?_;rintro x w' ⟨rfl,k5⟩;have HK:=lH (((Aa.refl [] w).alloc _).trans k5);clear k5;simp only [Fb];go_wp2;go_ret2;exact⟨⟨_,rfl⟩,HK.out.mono bA⟩
def TG(R:Bw)(st:WS)(b:UInt8):Except Int Bw:=if 64<R.word.length+1 then .error 14 else .ok ⟨st,R.done,R.word++[b]⟩
theorem K6{r base:Nat}{dv wv:Value}{R:Bw}{st:WS}{b:UInt8}{w w1 w':World}{wv':Value}(sb:Nat)(hk1:Aa [] w w1)(hS:st = .bare∨st = .quo)(h:DT w' r base dv wv' ⟨R.st,R.done,R.word++[b]⟩)(hk:Aa (DT.S r dv wv) w1 w'):
  GC r base (DT.S r dv wv) w (TG R st b) (dM (.tuple #[WL r sb st,Fb (if 64<R.word.length+1 then some 14 else none)])) w':=by
 have hkk:Aa (DT.S r dv wv) w w':=(hk1.mono bA).trans hk;unfold TG;by_cases hc:64<R.word.length+1
 ·rw [if_pos hc,if_pos hc]
  exact⟨⟨_,rfl⟩,hkk⟩
 ·rw [if_neg hc,if_neg hc]
  refine⟨dv,wv',sb,rfl,⟨h.blk,h.d,h.wd,h.lt,h.le,h.ne,h.hd,h.hw⟩,?_,hkk⟩;rcases hS with rfl | rfl<;>trivial
theorem TS(r base:Nat)(dv wv:Value)(R:Bw)(b:UInt8)(hw:R.word.length≤64)(w:World)(h:DT w r base dv wv R)(h1:b≠32)(h2:b≠34)(h3:b≠92):
  Calls Tryz.prog 161 #[dJ (some ⟨r,0,none⟩),.int .u8 (b.toNat:Int),dL false] w (GC r base (DT.S r dv wv) w (TG R .bare b)):=by
 have HH:=lH h;have f1:((b.toNat:Int)==32)=false:=(IL b 32).trans bR;have f2:((b.toNat:Int)==34)=false:=(IL b 34).trans YI;have f3:((b.toNat:Int)==92)=false:=(IL b 92).trans (by simpa using h3);have hadd:=(fun W hW=>Ng r base dv wv R b hw W hW);have hstep:=(fun W1 W' wv' (hk1:Aa [] w W1) h hk=>K6 (r:=r) (base:=base) (dv:=dv) (wv:=wv) (R:=R) (b:=b) (w:=w) (w1:=W1) (w':=W') (wv':=wv') (st:=.bare) 0 hk1 (.inl rfl) h hk);obtain⟨er,her⟩:∃er:Option Int,(if 64<R.word.length+1 then some 14 else none)=er:=⟨_,rfl⟩;rw [her] at hadd hstep;have HADD:=lH hadd;have HSTEP:=lH hstep;clear hadd hstep her;obtain⟨bi,hbi⟩:∃bi:Int,(b.toNat:Int)=bi:=⟨_,rfl⟩;rw [hbi] at f1 f2 f3 HADD ⊢;clear h h1 h2 h3 hbi;go_enter Tryz.func161,Tryz.ntmps161;go_wp2_with (fail);refine(Ch (some ⟨w,0,none⟩) 2 [(false,12),(false,13)] 2 rfl bB none rfl _ (L5 w false false 12 13)).mono ?_;rintro x w1 ⟨rfl,k5⟩;have HK:=lH (((Aa.refl [] w).alloc _).trans k5);clear k5;simp only [Fb];go_wp2_with (fail);refine(HADD.out _ (HH.out.keeps HK.out bA)).mono ?_;rintro x w2 ⟨rfl,wv',hR,hk,-⟩;have HF:=lH (HSTEP.out _ _ _ HK.out hR hk);clear hR hk;go_wp2;go_ret2;exact HF.out
theorem Oa(r base:Nat)(dv wv:Value)(R:Bw)(b:UInt8)(e:Bool)(hd:R.done.length<12)(hw:R.word.length≤64)(w:World)(h:DT w r base dv wv R):
  Calls Tryz.prog 161 #[dJ (some ⟨r,0,none⟩),.int .u8 (b.toNat:Int),dL e] w (GC r base (DT.S r dv wv) w (R.bareS b e)):=by
 unfold Bw.bareS;by_cases hc:e=true∨b=32
 ·rw [if_pos hc];exact TT r base dv wv R b e hd w h hc
 ·rw [if_neg hc]
  obtain rfl:e=false:=by cases e with | true=>exact absurd (.inl rfl) hc | false=>rfl
  by_cases h2:b=34
  ·rw [if_pos h2];exact RO r base dv wv b w h2
  ·rw [if_neg h2]
   by_cases h3:b=92
   ·rw [if_pos h3];exact RP r base dv wv b w h3
   ·rw [if_neg h3];exact TS r base dv wv R b hw w h (fun e=>hc (.inr e)) h2 h3
theorem Ob(r base:Nat)(dv wv:Value)(R:Bw)(b:UInt8)(e:Bool)(hs:R.st = .bet)(hd:R.done.length≤12)(hw:R.word.length≤64)(w:World)(h:DT w r base dv wv R):
  Calls Tryz.prog 102 #[dJ (some ⟨r,0,none⟩),.int .u8 (b.toNat:Int),dL e] w (GC r base (DT.S r dv wv) w (R.step b e)):=by
 have hstep:R.step b e=if e=true∨b=32 then .ok R else if R.done.length=12 then .error 15 else if b=34 then .ok ⟨.quo,R.done,R.word⟩ else R.bareS b false:=by unfold Bw.step;rw [hs]
 rw [hstep];have HH:=lH h;have c0:=h.blk.cell 0;simp at c0;obtain⟨n,hn⟩:=eX (R.done.length);have hdv:(∃a c,dv = dI a n c):=by
  rw [← hn];rcases h.d.2 with⟨rfl,h0⟩ | ⟨g,c,cur,rfl,_⟩
  ·exact⟨none,0,by rw [h0]⟩
  ·exact⟨_,_,rfl⟩
 obtain⟨da,dc,rfl⟩:=hdv;have HS:=lH hs;rw [hn] at hd ⊢;have HN:=lH hn;clear hstep hs hn;by_cases hc:e=true∨b=32
 ·rw [if_pos hc]
  have hcc:e=true∨(e=false∧((b.toNat:Int)==32)=true):=by
   cases e with
   | true=>exact .inl rfl
   | false=>exact .inr ⟨rfl,(IL b 32).trans (by simpa using hc)⟩
  obtain⟨bi,hbi⟩:∃bi:Int,(b.toNat:Int)=bi:=⟨_,rfl⟩;rw [hbi] at hcc ⊢;clear h hc hbi c0;rcases hcc with rfl | ⟨rfl,h32⟩
  all_goals
   go_enter Tryz.func102,Tryz.ntmps102;go_wp2;go_ret2;exact⟨_,wv,0,by rw [HS.out];rfl,HH.out,by rw [HS.out];trivial,Aa.refl _ _⟩
 ·rw [if_neg hc]
  obtain rfl:e=false:=by cases e with | true=>exact absurd (.inl rfl) hc | false=>rfl
  have f1:((b.toNat:Int)==32)=false:=(IL b 32).trans (by simpa using hc);by_cases h12:n=12
  ·rw [if_pos h12]
   subst h12;obtain⟨bi,hbi⟩:∃bi:Int,(b.toNat:Int)=bi:=⟨_,rfl⟩;rw [hbi] at f1 ⊢;clear h hc hbi;go_enter Tryz.func102,Tryz.ntmps102;go_wp2;go_ret2;exact⟨⟨_,rfl⟩,Aa.refl _ _⟩
  ·rw [if_neg h12]
   have f12:((n:Int)==12)=false:=by simpa using(show ¬(n:Int)=12 by omega)
   by_cases h34:b=34
   ·rw [if_pos h34]
    have f2:((b.toNat:Int)==34)=true:=(IL b 34).trans (by simpa using h34);obtain⟨bi,hbi⟩:∃bi:Int,(b.toNat:Int)=bi:=⟨_,rfl⟩;rw [hbi] at f1 f2 ⊢;clear h hc hbi h34 h12;go_enter Tryz.func102,Tryz.ntmps102;go_wp2;go_ret2;exact⟨_,wv,0,rfl,⟨HH.out.blk,HH.out.d,HH.out.wd,HH.out.lt,HH.out.le,HH.out.ne,HH.out.hd,HH.out.hw⟩,trivial,Aa.refl _ _⟩
   ·rw [if_neg h34]
    have f2:((b.toNat:Int)==34)=false:=(IL b 34).trans (by simpa using h34);have hb:=Oa r base (dI da n dc) wv R b false (by have:=HN.out;omega) hw w h;obtain⟨res,hres⟩:=eX (R.bareS b false);rw [hres] at hb ⊢;have HB:=lH hb;obtain⟨bi,hbi⟩:∃bi:Int,(b.toNat:Int)=bi:=⟨_,rfl⟩;rw [hbi] at f1 f2 HB ⊢;clear h hc hbi h34 h12 hb hres;go_enter Tryz.func102,Tryz.ntmps102;go_wp2_with (fail);refine HB.out.mono ?_;intro x w' hx;cases res with
    | error k=>
     obtain⟨⟨v,rfl⟩,hk⟩:=hx;have HK:=lH hk;clear hk;go_wp2;go_ret2;exact⟨⟨_,rfl⟩,HK.out⟩
    | ok R'=>
     obtain⟨dv',wv',sb',rfl,h1,h2,h3⟩:=hx;have H1:=lH h1;have H2:=lH h2;have H3:=lH h3;clear h1 h2 h3;go_wp2;go_ret2;exact⟨dv',wv',sb',rfl,H1.out,H2.out,H3.out⟩
theorem DT.S_lt{w:World}{r base:Nat}{dv wv:Value}{R:Bw}(h:DT w r base dv wv R):∀y∈DT.S r dv wv,y<w.heap.size:=fun y hy=>by
 simp only [DT.S,Ac,AF,Option.mem_toList] at hy;rcases hy with rfl | hy | hy
 ·exact h.blk.lt
 ·exact(h.d.lt y hy).2
 ·exact(h.wd.lt y hy).2
theorem Vz(r base:Nat)(dv wv:Value)(R:Bw)(hd:R.done.length<12)(w:World)(h:DT w r base dv wv R):
  Calls Tryz.prog 216 #[dJ (some ⟨r,0,none⟩)] w fun e w'=>e = dM (WL r w.heap.size .shut)∧Blk w' w.heap.size 192 #[dJ (some ⟨r,0,none⟩)]∧∃dv',DT w' r base dv' (dI none 0 0) (R.shutW .shut)∧Aa (DT.S r dv wv) w w':=by
 have HH:=lH h;have HB:=lH (Blk.new w 192 #[dJ (some ⟨r,0,none⟩)]);have HK:=lH ((Aa.refl [] w).alloc (.cells #[dJ (some ⟨r,0,none⟩)] 192));clear h;go_enter Tryz.func216,Tryz.ntmps216;go_wp2_with (fail);refine(Ro r base dv wv R hd .shut _ (HH.out.keeps HK.out bA)).mono ?_;rintro x w' ⟨rfl,dv',hR,hk⟩;have HR:=lH hR;have HB2:=lH (HB.out.keeps hk (fun hm=>by have:=HH.out.S_lt _ hm;omega));have HK2:=lH ((HK.out.mono bA).trans hk);clear hR hk;go_wp2;go_ret;exact⟨rfl,HB2.out,dv',HR.out,HK2.out⟩
theorem Qh(r:Nat)(w:World):
  Calls Tryz.prog 217 #[dJ (some ⟨r,0,none⟩)] w fun e w'=>e = dM (WL r w.heap.size .esc)∧Blk w' w.heap.size 192 #[dJ (some ⟨r,0,none⟩)]∧Aa [] w w':=by
 have HB:=lH (Blk.new w 192 #[dJ (some ⟨r,0,none⟩)]);have HK:=lH ((Aa.refl [] w).alloc (.cells #[dJ (some ⟨r,0,none⟩)] 192));go_enter Tryz.func217,Tryz.ntmps217;go_wp2;go_ret;exact⟨rfl,HB.out,HK.out⟩
theorem Tb(r base sb:Nat)(dv wv:Value)(R:Bw)(b:UInt8)(e:Bool)(hs:R.st = .shut)(w:World)(h:DT w r base dv wv R)(hb:Blk w sb 192 #[dJ (some ⟨r,0,none⟩)]):
  Calls Tryz.prog 259 #[.int .u8 (b.toNat:Int),dL e,dJ (some ⟨sb,0,none⟩)] w (GC r base (DT.S r dv wv) w (R.step b e)):=by
 have hstep:R.step b e=if e=false∧b≠32 then .error 12 else .ok ⟨.bet,R.done,R.word⟩:=by unfold Bw.step;rw [hs]
 rw [hstep];have HH:=lH h;have c0:=hb.cell 0;simp at c0;have hcase:(e=false∧b≠32)∨(e=true)∨(e=false∧b=32):=by cases e<;>by_cases h32:b=32<;>simp [h32]
 rcases hcase with⟨rfl,h32⟩ | rfl | ⟨rfl,rfl⟩
 ·rw [if_pos ⟨rfl,h32⟩]
  have f1:((b.toNat:Int) != 32)=true:=by rw [bne,show((b.toNat:Int)==32)=false from(IL b 32).trans (by simpa using h32)];rfl
  obtain⟨bi,hbi⟩:∃bi:Int,(b.toNat:Int)=bi:=⟨_,rfl⟩;rw [hbi] at f1 ⊢;clear h hb hstep hs h32 hbi;go_enter Tryz.func259,Tryz.ntmps259;go_wp2_with (fail)
  go_region_held3 (fun w'=>w'.cell? ⟨sb,0,none⟩=some (dJ (some ⟨r,0,none⟩))∧Aa [] w w') (first | exact⟨c0,((Aa.refl [] w).drew)⟩ | exact⟨(Aa.refl [] w).drew.alloc _ |>.cellsV _ _ c0,((Aa.refl [] w).drew).alloc _⟩ | exact⟨hkk.cellsV _ _ c0,hkk⟩) (first | (go_at_call 103;refine(Ch (some ⟨w,0,none⟩) 1 [(true,12)] 1 rfl bB (some 12) rfl _ (Ho w.drew true 12)).mono ?_;rintro e w1 ⟨rfl,hk⟩;have hkk:=(((Aa.refl [] w).drew).alloc _).trans hk;simp only [Fb]))
  all_goals
   have HK:=lH hkk;clear hkk hk c0;go_wp2;go_ret2;exact⟨⟨_,rfl⟩,HK.out.mono bA⟩
 ·rw [if_neg bA]
  obtain⟨bi,hbi⟩:∃bi:Int,(b.toNat:Int)=bi:=⟨_,rfl⟩;rw [hbi];clear h hb hstep hs hbi;go_enter Tryz.func259,Tryz.ntmps259;go_wp2_with (fail);refine wp_region_held_drew (S:=(fun w':World=>w'.cell? ⟨sb,0,none⟩=some (dJ (some ⟨r,0,none⟩))∧Aa [] w w')) bC (by((try dsimp only);(first | exact⟨c0,((Aa.refl [] w).drew)⟩ | exact⟨(Aa.refl [] w).drew.alloc _ |>.cellsV _ _ c0,((Aa.refl [] w).drew).alloc _⟩ | exact⟨hkk.cellsV _ _ c0,hkk⟩))) (fun hHeld=>?_)
  repeat' (first | exact rZ | refine rX ?_ | ((first | (refine rA 1 (fun K hK=>?_) ?_;go_simp) | (refine rA 9 (fun K hK=>?_) ?_;go_simp) | (refine rA 10 (fun K hK=>?_) ?_;go_simp;refine(Ch (some ⟨w,0,none⟩) 1 [(false,12)] 1 rfl bB none rfl _ (Ho w.drew false 12)).mono ?_;rintro e w1 ⟨rfl,hk⟩;have hkk:=(((Aa.refl [] w).drew).alloc _).trans hk;simp only [Fb]));refine rO hK (by((try dsimp only);(first | exact⟨c0,((Aa.refl [] w).drew)⟩ | exact⟨(Aa.refl [] w).drew.alloc _ |>.cellsV _ _ c0,((Aa.refl [] w).drew).alloc _⟩ | exact⟨hkk.cellsV _ _ c0,hkk⟩))) fun hHeld=>?_;clear hK K) | (refine rQ 0 ?_;refine rQ 2 ?_;refine rQ 3 ?_;refine rQ 4 ?_;refine rN 5 ?_;refine rN 6 ?_;refine rQ 7 ?_;refine rQ 8 ?_) | (refine rQ 11 ?_;refine rQ 12 ?_) | refine rB [1,9,10] ?_ | (refine wpAnyH_done bC ?_ _;(have HK:=lH hkk;clear hkk hk c0;go_wp2;go_ret2;have hR:=HH.out.keeps HK.out bA;exact⟨dv,wv,0,rfl,⟨hR.blk,hR.d,hR.wd,hR.lt,hR.le,hR.ne,hR.hd,hR.hw⟩,trivial,HK.out.mono bA⟩)))
 ·rw [if_neg bA]
  have e1:((UInt8.toNat 32:Nat):Int)=32:=rfl;rw [e1];clear h hb hstep hs;go_enter Tryz.func259,Tryz.ntmps259;go_wp2_with (fail)
  go_region_held3 (fun w'=>w'.cell? ⟨sb,0,none⟩=some (dJ (some ⟨r,0,none⟩))∧Aa [] w w') (first | exact⟨c0,((Aa.refl [] w).drew)⟩ | exact⟨(Aa.refl [] w).drew.alloc _ |>.cellsV _ _ c0,((Aa.refl [] w).drew).alloc _⟩ | exact⟨hkk.cellsV _ _ c0,hkk⟩) (first | (go_at_call 103;refine(Ch (some ⟨w,0,none⟩) 1 [(false,12)] 1 rfl bB none rfl _ (Ho w.drew false 12)).mono ?_;rintro e w1 ⟨rfl,hk⟩;have hkk:=(((Aa.refl [] w).drew).alloc _).trans hk;simp only [Fb]))
  all_goals
   have HK:=lH hkk;clear hkk hk c0;go_wp2;go_ret2;have hR:=HH.out.keeps HK.out bA;exact⟨dv,wv,0,rfl,⟨hR.blk,hR.d,hR.wd,hR.lt,hR.le,hR.ne,hR.hd,hR.hw⟩,trivial,HK.out.mono bA⟩
theorem RS{w:World}{g g':Nat}{t t':TypeId}{cs cs':Array Value}(h:Blk w g t cs)(h':w.heap[g']? = some (.cells cs' t' (0,0)))(hne:t≠t'):g≠g':=Blk.ne_ h (show Blk w g' t' cs' from h') hne
theorem DT.S_ne{w:World}{r base:Nat}{dv wv:Value}{R:Bw}(h:DT w r base dv wv R){sb:Nat}{cs:Array Value}(hb:Blk w sb 192 cs):sb∉DT.S r dv wv:=fun hm=>by
 have row:∀ {e:TypeId} {sz k:Nat} {v:Value} {xs:List Value},w.ownsRow base e sz v k xs→192≠e→v.ownBlock≠some sb:=fun hr hne he=>by
  rcases hr.2 with⟨rfl,_⟩ | ⟨g,c,cur,rfl,_,hg,_⟩
  ·cases he
  ·simp only [Value.ownBlock,Option.some.injEq] at he
   subst he;exact RS hb hg hne rfl
 simp only [DT.S,Ac,AF,Option.mem_toList] at hm;rcases hm with hm | hm | hm
 ·exact Blk.ne_ hb h.blk bE hm
 ·exact row h.d bE hm
 ·exact row h.wd bE hm
theorem Ox(r base sb:Nat)(dv wv:Value)(R:Bw)(b:UInt8)(e:Bool)(hs:R.st = .esc)(hw:R.word.length≤64)(w:World)(h:DT w r base dv wv R)(hb:Blk w sb 192 #[dJ (some ⟨r,0,none⟩)]):
  Calls Tryz.prog 260 #[.int .u8 (b.toNat:Int),dL e,dJ (some ⟨sb,0,none⟩)] w (GC r base (DT.S r dv wv) w (R.step b e)):=by
 have hstep:R.step b e=if e=true∨(b≠34∧b≠92) then .error 13 else TG R .quo b:=by unfold Bw.step;rw [hs];rfl
 rw [hstep];have HH:=lH h;have HB:=lH hb;by_cases hc:e=true∨(b≠34∧b≠92)
 ·rw [if_pos hc]
  have hcc:e=true∨(e=false∧((b.toNat:Int) != 34)=true∧((b.toNat:Int) != 92)=true):=by
   cases e with
   | true=>exact .inl rfl
   | false=>
    rcases hc with h1 | ⟨h1,h2⟩
    ·cases h1
    ·exact .inr ⟨rfl,by rw [bne,show((b.toNat:Int)==34)=false from(IL b 34).trans bR];rfl,by rw [bne,show((b.toNat:Int)==92)=false from(IL b 92).trans YI];rfl⟩
  obtain⟨bi,hbi⟩:∃bi:Int,(b.toNat:Int)=bi:=⟨_,rfl⟩;rw [hbi] at hcc ⊢;clear h hb hstep hs hc hbi;rcases hcc with rfl | ⟨rfl,f1,f2⟩
  all_goals
   go_enter Tryz.func260,Tryz.ntmps260;go_wp2_with (fail);refine(Ch (some ⟨w,0,none⟩) 1 [(true,13)] 1 rfl bB (some 13) rfl _ (Ho w true 13)).mono ?_;rintro x w1 ⟨rfl,k5⟩;have HK:=lH (((Aa.refl [] w).alloc _).trans k5);clear k5;simp only [Fb];go_wp2;go_ret2;exact⟨⟨_,rfl⟩,HK.out.mono bA⟩
 ·rw [if_neg hc]
  obtain rfl:e=false:=by cases e with | true=>exact absurd (.inl rfl) hc | false=>rfl
  have hcc:(((b.toNat:Int) != 34)=false)∨(((b.toNat:Int) != 34)=true∧((b.toNat:Int) != 92)=false):=by
   by_cases h34:b=34
   ·exact .inl (by rw [bne,show((b.toNat:Int)==34)=true from(IL b 34).trans (by simpa using h34)];rfl)
   ·have h92:b=92:=by
     apply Classical.byContradiction;intro h92;exact hc (.inr ⟨h34,h92⟩)
    exact .inr ⟨by rw [bne,show((b.toNat:Int)==34)=false from(IL b 34).trans (by simpa using h34)];rfl,by rw [bne,show((b.toNat:Int)==92)=true from(IL b 92).trans (by simpa using h92)];rfl⟩
  have hadd:=(fun W hW=>Ng r base dv wv R b hw W hW);have hstep:=(fun W1 W' wv' (hk1:Aa [] w W1) h hk=>K6 (r:=r) (base:=base) (dv:=dv) (wv:=wv) (R:=R) (b:=b) (w:=w) (w1:=W1) (w':=W') (wv':=wv') (st:=.quo) 0 hk1 (.inr rfl) h hk);obtain⟨er,her⟩:∃er:Option Int,(if 64<R.word.length+1 then some 14 else none)=er:=⟨_,rfl⟩;rw [her] at hadd hstep;have HADD:=lH hadd;have HSTEP:=lH hstep;obtain⟨bi,hbi⟩:∃bi:Int,(b.toNat:Int)=bi:=⟨_,rfl⟩;rw [hbi] at hcc HADD ⊢;clear h hb hadd hstep her hc hbi hs;rcases hcc with f1 | ⟨f1,f2⟩
  all_goals
   go_enter Tryz.func260,Tryz.ntmps260;go_wp2_with (fail);refine(Ch (some ⟨w,0,none⟩) 1 [(false,13)] 1 rfl bB none rfl _ (Ho w false 13)).mono ?_;rintro x w1 ⟨rfl,k5⟩;have HK:=lH (((Aa.refl [] w).alloc _).trans k5);clear k5;simp only [Fb];have c0:w1.cell? ⟨sb,0,none⟩=some (dJ (some ⟨r,0,none⟩)):=(HB.out.keeps HK.out bA).cell 0;have hR1:=(HH.out.keeps HK.out bA);have hB1:=(HB.out.keeps HK.out bA);have HN:=lH (hR1.S_ne hB1);have HR1:=lH hR1;have HB1:=lH hB1;clear hR1 hB1;go_wp2_with (fail)
   go_region_held3 (fun w'=>w'.cell? ⟨sb,0,none⟩=some (dJ (some ⟨r,0,none⟩))) (first | exact c0 | exact ccc) (first | (go_at_call 218;refine(HADD.out _ (HR1.out.keeps ((Aa.refl [] w1).drew) bA)).mono ?_;rintro x w2 ⟨rfl,wv',hR,hk,-⟩;have ccc:w2.cell? ⟨sb,0,none⟩=some (dJ (some ⟨r,0,none⟩)):=(HB1.out.keeps (S:=DT.S r dv wv) ((Aa.refl _ w1).drew.trans hk) HN.out).cell 0))
   all_goals
    have HF:=lH (HSTEP.out _ _ _ (HK.out.trans ((Aa.refl [] w1).drew)) hR hk);clear hR hk c0 ccc;go_wp2;go_ret2;exact HF.out
def OP(k:Int)(f:Nat)(n:Nat):MapEntry:={ key:=.int .u8 k,val:=.func (.func f) #[] #[],born:=n }
def Fc:Array MapEntry:=#[OP 34 216 0,OP 92 217 1]
theorem OR(es:Array MapEntry)(c:Nat)(k:Int)(f:Nat)(hf:AV (.int .u8) (.int .u8 k) es.toList 0=some none)(w:World):
  (Instr.mapUpdate 325 (.map (some w.heap.size)) (.int .u8 k) (.func (.func f) #[] #[])).run Tryz.prog (w.alloc (.map es c)) = .ok () (w.alloc (.map (es.push (OP k f c)) (c+1))):=
 En Tryz.underlying325 Tryz.underlying5 rfl hf
theorem OQ(k:Int)(f i:Nat)(hf:AV (.int .u8) (.int .u8 k) Fc.toList 0=some (some (i,.func (.func f) #[] #[])))(w:World):
  (Dx 325 (.map (some w.heap.size)) (.int .u8 k) true).run Tryz.prog (w.alloc (.map Fc 2)) = .ok (.tuple #[.func (.func f) #[] #[],dL true]) (w.alloc (.map Fc 2)):=
 (CY Tryz.underlying325 Tryz.underlying5 (heap_alloc_new w _) bS hf).1
theorem SE(k:Int)(h1:¬k=34)(h2:¬k=92)(w:World):
  (Dx 325 (.map (some w.heap.size)) (.int .u8 k) true).run Tryz.prog (w.alloc (.map Fc 2)) = .ok (.tuple #[.nilFunc,dL false]) (w.alloc (.map Fc 2)):=by
 have hz:(zeroValue 323).run Tryz.prog (w.alloc (.map Fc 2)) = .ok .nilFunc (w.alloc (.map Fc 2)):=by kernel_rfl
 exact(Eg Tryz.underlying325 Tryz.underlying5 (heap_alloc_new w _) bS (by simp [Fc,OP,AV,Instr.sameNow,beq_eq_false_iff_ne.2 h1,beq_eq_false_iff_ne.2 h2]) hz).1
theorem Y2(b k:UInt8)(h:(b.toNat:Int)=((k.toNat:Nat):Int)):b=k:=Dr.1 bB
theorem QJ(r base:Nat)(dv wv:Value)(R:Bw)(b:UInt8)(e:Bool)(hs:R.st = .quo)(hd:R.done.length<12)(hw:R.word.length≤64)(w:World)(h:DT w r base dv wv R):
  Calls Tryz.prog 160 #[dJ (some ⟨r,0,none⟩),.int .u8 (b.toNat:Int),dL e] w (GC r base (DT.S r dv wv) w (R.step b e)):=by
 have hstep:R.step b e=if e=true then .error 12 else if b=34 then .ok (R.shutW .shut) else if b=92 then .ok ⟨.esc,R.done,R.word⟩ else TG R .quo b:=by unfold Bw.step;rw [hs];rfl
 rw [hstep];clear hstep;have HH:=lH h;cases e with
 | true=>
  rw [if_pos rfl];obtain⟨bi,hbi⟩:∃bi:Int,(b.toNat:Int)=bi:=⟨_,rfl⟩;rw [hbi];clear h hs hbi;go_enter Tryz.func160,Tryz.ntmps160;go_wp2;go_ret2;exact⟨⟨_,rfl⟩,Aa.refl _ _⟩
 | false=>
  rw [if_neg bE];have hm:=fun W=>run_makeMap (P:=Tryz.prog) 325 W;have p1:=OR #[] 0 34 216 rfl w;have p2:=OR #[OP 34 216 0] 1 92 217 rfl w;simp only [By,AX,A6,Nat.reduceAdd] at p1 p2;have HKM:=lH ((Aa.refl [] w).alloc (.map Fc 2));by_cases h34:b=34
  ·subst h34
   rw [if_pos rfl];have e1:((UInt8.toNat 34:Nat):Int)=34:=rfl;rw [e1];have l1:=OQ 34 216 0 rfl w;unfold Fc at l1;have HS:=lH (Vz r base dv wv R hd _ (HH.out.keeps HKM.out bA));clear h hs;go_enter Tryz.func160,Tryz.ntmps160;go_wp2_with (fail);refine HS.out.mono ?_;rintro x w' ⟨rfl,hb,dv',hR,hk⟩;rw [World.size_alloc] at hb;have HB:=lH hb;have HR:=lH hR;have HK:=lH hk;have HLE:Hid (base≤w.heap.size+1):=lH (by have:=HH.out.le;omega);clear hb hR hk p1 p2 l1;go_wp2;go_ret2;exact⟨dv',dI none 0 0,_,rfl,HR.out,⟨HB.out,HLE.out⟩,(HKM.out.mono bA).trans HK.out⟩
  ·rw [if_neg h34]
   by_cases h92:b=92
   ·subst h92
    rw [if_pos rfl];have e1:((UInt8.toNat 92:Nat):Int)=92:=rfl;rw [e1];have l1:=OQ 92 217 1 rfl w;unfold Fc at l1;clear h hs h34;go_enter Tryz.func160,Tryz.ntmps160;go_wp2_with (fail);refine(Qh r _).mono ?_;rintro x w' ⟨rfl,hb,hk⟩;rw [World.size_alloc] at hb;have HB:=lH hb;have HK:=lH (HKM.out.trans hk);have HLE:Hid (base≤w.heap.size+1):=lH (by have:=HH.out.le;omega);clear hb hk p1 p2 l1;go_wp2;go_ret2;have hR:=HH.out.keeps HK.out bA;exact⟨dv,wv,_,rfl,⟨hR.blk,hR.d,hR.wd,hR.lt,hR.le,hR.ne,hR.hd,hR.hw⟩,⟨HB.out,HLE.out⟩,HK.out.mono bA⟩
   ·rw [if_neg h92]
    have l1:=SE (b.toNat:Int) (fun e=>h34 (Y2 b 34 e)) (fun e=>h92 (Y2 b 92 e)) w;unfold Fc at l1;have hadd:=(fun W hW=>Ng r base dv wv R b hw W hW);have hstep:=(fun W1 W' wv' (hk1:Aa [] w W1) h hk=>K6 (r:=r) (base:=base) (dv:=dv) (wv:=wv) (R:=R) (b:=b) (w:=w) (w1:=W1) (w':=W') (wv':=wv') (st:=.quo) 0 hk1 (.inr rfl) h hk);obtain⟨er,her⟩:∃er:Option Int,(if 64<R.word.length+1 then some 14 else none)=er:=⟨_,rfl⟩;rw [her] at hadd hstep;have HADD:=lH hadd;have HSTEP:=lH hstep;obtain⟨bi,hbi⟩:∃bi:Int,(b.toNat:Int)=bi:=⟨_,rfl⟩;rw [hbi] at l1 HADD ⊢;clear h hs h34 h92 hadd hstep her hbi;go_enter Tryz.func160,Tryz.ntmps160;go_wp2_with (fail);refine(HADD.out _ (HH.out.keeps HKM.out bA)).mono ?_;rintro x w2 ⟨rfl,wv',hR,hk,-⟩;have HF:=lH (HSTEP.out _ _ _ HKM.out hR hk);clear hR hk p1 p2 l1;go_wp2;go_ret2;exact HF.out
structure RF(R:Bw):Prop where
 done:R.done.length≤12
 word:R.word.length≤64
 room:R.st≠.bet→R.st≠.shut→R.done.length<12
theorem XX(r base sb:Nat)(dv wv:Value)(R:Bw)(b:UInt8)(e:Bool)(hf:RF R)(w:World)(h:DT w r base dv wv R)(hm:Ya w r sb base R.st):
  Calls Tryz.prog (dC R.st) (dB r sb b e R.st) w (GC r base (DT.S r dv wv) w (R.step b e)):=by
 have hw:=hf.word;cases hs:R.st with
 | bet=>exact Ob r base dv wv R b e hs hf.done hw w h
 | bare=>
  have:=Oa r base dv wv R b e (hf.room bV bV) hw w h;have e2:R.step b e=R.bareS b e:=by unfold Bw.step;rw [hs]
  rw [e2];exact this
 | quo=>exact QJ r base dv wv R b e hs (hf.room bV bV) hw w h
 | shut=>rw [hs] at hm;exact Tb r base sb dv wv R b e hs w h hm.1
 | esc=>rw [hs] at hm;exact Ox r base sb dv wv R b e hs hw w h hm.1
def Na(s:ByteArray):List (UInt8×Bool):=(s.data.toList.map fun b=>(b,false))++[((0:UInt8),true)]
def OF(x:UInt8×Bool):Array Value:=#[.int .u8 (x.1.toNat:Int),dL x.2]
theorem AB{α:Type}{L:List α}{k:Nat}{x:α}(h:L[k]? = some x):L.take (k+1)=L.take k++[x]:=by
 obtain⟨hk,rfl⟩:=Ad.1 h;exact AR hk
theorem VU(s:ByteArray)(k:Nat)(h:k<s.size):(Na s).take (k+1)=(Na s).take k++[(s[k],false)]:=by
 refine AB ?_;have h2:k<s.data.toList.length:=by rw [BL];exact h
 unfold Na;rw [List.getElem?_append_left YI,List.getElem?_map,Au h2];rfl
theorem VT(s:ByteArray):(Na s).take s.size++[((0:UInt8),true)]=Na s:=by
 unfold Na;rw [List.take_left' (by rw [BX,BL];rfl)]
theorem RY(s:ByteArray)(w:World):
  Calls Tryz.prog 105 #[CZ s] w fun r w'=>r = dM (.func (.func 162) #[] #[dJ (some ⟨w,0,none⟩)])∧w.alloc (.cells #[CZ s] 9)=w':=by
 go_enter Tryz.func105,Tryz.ntmps105;go_wp2;go_ret;exact⟨rfl,rfl⟩
theorem RX(n l pb:Nat)(s:ByteArray)(hs:s.size≤1000000)(J Jx:List (UInt8×Bool)→World→Prop)(W:World)(hV:∀z A,J z A→A.cell? ⟨pb,0,none⟩=some (CZ s))
 (hY:∀pre x W1,J pre W1→pre++[x] <+: Na s→YieldAt Ba (n - 1) Tryz.prog l (OF x) W1 fun e W'=>
   (e = dM (dL true)∧J (pre++[x]) W')∨(e = dM (dL false)∧Jx (pre++[x]) W'))
 (h0:J [] W):
  CallsIn Ba n Tryz.prog 162 #[.func (.yield l) #[] #[],dJ (some ⟨pb,0,none⟩)] W fun e W'=>(∃v,e = dM v)∧
   (J (Na s) W'∨(∃pre,pre <+: Na s∧Jx pre W')):=by
 have HV:=lH hV;have HY:=lH hY;have HJ0:=lH h0;have d0:=hV _ _ h0;clear hV hY h0;have hn1:Fence.wide.depth.isSome=true→1≤n:=by intro h;cases h
 have hw1:wrap64 ((s.size:Int)+1)=(s.size:Int)+1:=by unfold wrap64;omega
 refine callsIn_of_wp Tryz.func162 rfl trivial ?_ rfl;simp only [Tryz.ntmps162,Cx,Ao,Eh,Nat.reduceAdd,Nat.reduceSub,Bc,Bd,By,B0,AX,A6];gi_wp2;refine Br (wpIn_seq (wpIn_label ?_));gi_wp2
 gi_loopw [7] (fun i wr=>∃k:Nat,i = dH dN k∧k≤s.size∧Hid (J ((Na s).take k) wr)) (fun i _=>s.size+1 - (intOf i).toNat)
 case atStart=>exact⟨0,rfl,Cy _,HJ0⟩
 case round=>
  obtain⟨k,rfl,hk,HJs⟩:=hrel;have d1:=HV.out _ _ HJs.out;have i1:(0:Int)≤(k:Int):=by omega
  have i3:(k:Int)<(s.size:Int)+1:=by omega
  by_cases hlt:k<s.size
  ·have i2:(k:Int)<(s.size:Int):=by omega
   have i4:((k:Int)==(s.size:Int))=false:=by simp;omega
   have hz:=VU s k hlt;have hpre:(Na s).take k++[(s[k],false)] <+: Na s:=by rw [← hz];exact List.take_prefix _ _
   have hy0:=Cv (HY.out _ _ _ HJs.out hpre);rw [← hz] at hy0;obtain⟨fn,tmps,assign,body,hy,hR⟩:=hy0;simp only [OF] at hy;have HZ:=lH hz;clear hz hpre;gi_wp2;refine⟨hn1,?_⟩;refine hR.mono ?_;rintro e W3 ⟨g,rfl,hT,hF⟩;clear hR hy;cases g with
   | false=>
    have hJx:=lH (hF.out rfl);clear hT hF;gi_wp2;try rw [AH]
    go_end0
    exact⟨⟨_,rfl⟩,.inr ⟨(Na s).take (k+1),List.take_prefix _ _,hJx.out⟩⟩
   | true=>
    have HJ3:=lH (hT.out rfl);clear hT hF;gi_wp2;go_roundw;case rel=>exact⟨k+1,by go_num,by omega,HJ3⟩
    case measure=>simp [intOf];omega
  ·obtain rfl:k=s.size:=by omega
   have i4:((s.size:Int)==(s.size:Int))=true:=by simp
   have hz:=VT s;have hpre:(Na s).take s.size++[((0:UInt8),true)] <+: Na s:=by rw [hz];exact List.prefix_refl _
   have hy0:=Cv (HY.out _ _ _ HJs.out hpre);rw [hz] at hy0;obtain⟨fn,tmps,assign,body,hy,hR⟩:=hy0;have hy1:(_:Prop):=hy;simp only [OF] at hy;have e0:((UInt8.toNat 0:Nat):Int)=0:=rfl;rw [e0] at hy;clear hz hpre hy1;gi_wp2;refine⟨hn1,?_⟩;refine hR.mono ?_;rintro e W3 ⟨g,rfl,hT,hF⟩;clear hR hy;cases g with
   | false=>
    have hJx:=lH (hF.out rfl);clear hT hF;gi_wp2;try rw [AH]
    go_end0
    exact⟨⟨_,rfl⟩,.inr ⟨Na s,List.prefix_refl _,hJx.out⟩⟩
   | true=>
    have HJ3:=lH (hT.out rfl);clear hT hF;gi_wp2;try rw [AH]
    go_end0
    exact⟨⟨_,rfl⟩,.inl HJ3.out⟩
theorem RZ(n pb:Nat)(s:ByteArray)(hs:s.size≤1000000):
  NQ Ba n Tryz.prog 162 #[dJ (some ⟨pb,0,none⟩)] OF (Na s) (fun A=>A.cell? ⟨pb,0,none⟩=some (CZ s)):=fun l J Jx W _ _ hV hY h0=>
 RX n l pb s hs J Jx W hV hY h0
theorem Lp(w:World):(callFunc 359 #[]).run Tryz.prog w = .ok (.value (.tuple #[])) w:=run_call_mark0 Tryz.func359 bC bC bC .disable bC w
theorem MF(w:World):(callFunc 361 #[]).run Tryz.prog w = .ok (.value (.tuple #[])) w:=run_call_mark0 Tryz.func361 bC bC bC .enable bC w
theorem Q6(a:Addr)(w:World):(callFunc 362 #[dJ (some a)]).run Tryz.prog w = .ok (.value (.tuple #[])) w:=run_call_marked Tryz.func362 bC bC bC .acquire bC a w
theorem Q7(a:Addr)(w:World):(callFunc 364 #[dJ (some a)]).run Tryz.prog w = .ok (.value (.tuple #[])) w:=run_call_marked Tryz.func364 bC bC bC .releaseMerge bC a w
theorem TR(w:World):Calls Tryz.prog 349 #[dL true] w fun e w'=>e = dM (.int .u32 1)∧w=w':=by
 go_enter Tryz.func349,Tryz.ntmps349;go_wp2;go_ret;exact⟨rfl,rfl⟩
theorem OM(b off:Nat)(x:Int)(w:World)(hc:w.cell? ⟨b,off,none⟩=some (.int .u32 x)):
  Calls Tryz.prog 280 #[dJ (some ⟨b,off,none⟩)] w fun e w'=>e = dM (dL (x != 0))∧w=w':=by
 have hl:=run_call_load (P:=Tryz.prog) Tryz.func326 bC bC bC .u32 bC hc;go_enter Tryz.func280,Tryz.ntmps280;go_wp2;go_ret;exact⟨rfl,rfl⟩
theorem LH(b off:Nat)(x:Value)(u:FrameMode)(w:World)(hc:w.cell? ⟨b,off,none⟩=some x)(hz:w.frozen? ⟨b,off,none⟩=false):
  CallsD Tryz.prog 329 #[dJ (some ⟨b,off,none⟩),dL true] u w fun e u' w'=>u'=u∧(e = dM (.tuple #[])∧w'=w.drew.setCell ⟨b,off,none⟩ (.int .u32 1)):=by
 have hc':w.drew.cell? ⟨b,off,none⟩=some x:=by go_simp
 have hz':w.drew.frozen? ⟨b,off,none⟩=false:=by go_simp
 have hst:=run_call_store (P:=Tryz.prog) Tryz.func348 bC bC bC bC (k:=.u32) (y:=1) hc' hz'
 go_enter_d Tryz.func329,Tryz.ntmps329
 go_wp2
 go_region_held3 (fun _=>True) (exact trivial) (with_reducible refine(TR _).mono ?_;rintro e wx ⟨rfl,rfl⟩)
 all_goals (go_end0;exact⟨rfl,rfl⟩)
theorem iunlock(b off:Nat)(w:World)(hc:w.cell? ⟨b,off,none⟩=some (.int .i32 1))(hz:w.frozen? ⟨b,off,none⟩=false):
  Calls Tryz.prog 347 #[dJ (some ⟨b,off,none⟩)] w fun e w'=>e = dM (.tuple #[])∧w.setCell ⟨b,off,none⟩ (.int .i32 0)=w':=by
 have hd:=Lp;have he:=MF;have hr:=Q7;have hadd:=run_call_add (P:=Tryz.prog) Tryz.func365 bC bC bC .i32 bC (y:=-1) (s:=0) hc hz (by simp [go_sem];rfl);have hcv:=run_convert_to_unsafe (P:=Tryz.prog) (src:=515) (dst:=267) Tryz.underlying515 Tryz.underlying267 bC hc;go_enter Tryz.func347,Tryz.ntmps347;go_wp2
 go_end0
 exact⟨rfl,rfl⟩
theorem Km(b off:Nat)(u:FrameMode)(w:World)(hc:w.cell? ⟨b,off,none⟩=some (.int .i32 1))(hz:w.frozen? ⟨b,off,none⟩=false):
  CallsD Tryz.prog 328 #[dJ (some ⟨b,off,none⟩)] u w fun e u' w'=>u'=u∧(e = dM (.tuple #[])∧w'=w.setCell ⟨b,off,none⟩ (.int .i32 0)):=by
 go_enter_d Tryz.func328,Tryz.ntmps328
 go_wp2_with (with_reducible refine(iunlock b off _ hc hz).mono ?_;rintro e w' ⟨rfl,rfl⟩)
 go_end0
 exact⟨rfl,rfl⟩
theorem ilock(b off:Nat)(w:World)(hc:w.cell? ⟨b,off,none⟩=some (.int .i32 0))(hz:w.frozen? ⟨b,off,none⟩=false):
  Calls Tryz.prog 346 #[dJ (some ⟨b,off,none⟩)] w fun e w'=>e = dM (.tuple #[])∧w.setCell ⟨b,off,none⟩ (.int .i32 1)=w':=by
 have hd:=Lp;have he:=MF;have ha:=Q6;have hcas:=run_call_cas_hit (P:=Tryz.prog) Tryz.func360 bC bC bC .i32 bC (y:=1) hc hz;have hc':(w.setCell ⟨b,off,none⟩ (.int .i32 1)).cell? ⟨b,off,none⟩=some (.int .i32 1):=World.cell?_setCell_same w _ _ hc;have hcv:=run_convert_to_unsafe (P:=Tryz.prog) (src:=515) (dst:=267) Tryz.underlying515 Tryz.underlying267 bC hc';go_enter Tryz.func346,Tryz.ntmps346;go_wp2;first | go_end0 | (simp only [Exit.inBlock,Exit.then];refine bodyPost_ret (results_none rfl _ _ _) rfl ?_) | refine bodyPost_ret (results_none rfl _ _ _) rfl ?_
 exact⟨rfl,rfl⟩
theorem S9(b off:Nat)(w:World)(hc:w.cell? ⟨b,off,none⟩=some (.int .i32 0))(hz:w.frozen? ⟨b,off,none⟩=false):
  Calls Tryz.prog 327 #[dJ (some ⟨b,off,none⟩)] w fun e w'=>e = dM (.tuple #[])∧w.setCell ⟨b,off,none⟩ (.int .i32 1)=w':=by
 go_enter Tryz.func327,Tryz.ntmps327;go_wp2_with (with_reducible refine(ilock b off _ hc hz).mono ?_;rintro e w' ⟨rfl,rfl⟩)
 go_end0
 exact⟨rfl,rfl⟩
end
section
open Go.RowKit Go.Shelf
attribute [local go_sem] Oper.semAt_some N5 N6 N3 N4
attribute [local go_sem ↓] Go.wp_at_zero Go.wp_at_succ
def z257:Array Value:=Array.replicate 257 (dI none 0 0)
def EP(a b t:Value):Array Value:=((z257.setIfInBounds 92 a).setIfInBounds 34 b).setIfInBounds 256 t
theorem KD:(Tryz.prog.info? 484).map (fun i=>(i.zero,i.size))=some (some (.agg z257),257):=by kernel_rfl
theorem TY(w:World):(zeroValue 484).run Tryz.prog w = .ok (.agg z257) w:=(zero_of_info KD).1 w
theorem RU(ta:Option Addr)(tl tc:Nat)(w:World):(Instr.build 484 #[(1,dI ta tl tc)]).run Tryz.prog w = .ok (.agg (z257.setIfInBounds 256 (dI ta tl tc))) w:=run_build w 484 _ _ bC
theorem Mw(t:Value)(w:World)(h1:t.oneCell'=true):(Instr.storeAt 484 (dJ (some ⟨w,0,none⟩)) (.agg (z257.setIfInBounds 256 t))).run Tryz.prog (w.alloc (.cells z257 484)) = .ok () (w.alloc (.cells (z257.setIfInBounds 256 t) 484)):=by
 refine run_storeAt_new w 484 z257 _ ?_ ?_ ?_
 ·have:=KD
  cases h:Tryz.prog.info? 484 with
  | none=>rw [h] at this;cases this
  | some i=>rw [h] at this;simp at this ⊢;exact this.2
 ·simp
 ·rw [Array.all_eq_true_iff_forall_mem]
  intro v hv;obtain hv | rfl:v∈z257∨v=t:=Array.mem_or_eq_of_mem_setIfInBounds hv
  ·rw [z257] at hv
   have:=Array.eq_of_mem_replicate hv;subst this;rfl
  ·exact h1
theorem PQ(ta:Option Addr)(tl tc:Nat)(w:World)(g:Nat)(hg:g=w.heap.size):(Instr.storeAt 484 (dJ (some ⟨g,0,none⟩)) (.agg (z257.setIfInBounds 256 (dI ta tl tc)))).run Tryz.prog (w.alloc (.cells z257 484)) = .ok () (w.alloc (.cells (z257.setIfInBounds 256 (dI ta tl tc)) 484)):=by
 subst hg;exact Mw _ w rfl
theorem TZ(a:Option Addr)(l c:Nat)(w:World):(binOp .eql 193 (dI a l c) (dI none 0 0)).run Tryz.prog w = .ok (dL a.isNone) w:=A2 w 193 5 a l c 0 0 Tryz.underlying193
theorem Ua(a:Option Addr)(l c:Nat)(w:World):(binOp .neq 193 (dI a l c) (dI none 0 0)).run Tryz.prog w = .ok (dL (!a.isNone)) w:=run_neq_slice_nil_any w 193 5 a l c 0 0 Tryz.underlying193
theorem Nb:z257.size=257:=by simp [z257]
theorem RV(ta:Option Addr)(tl tc:Nat)(w:World)(g:Nat)(hg:g=w.heap.size):(storeCells ⟨g,0,none⟩ (z257.toList.set 256 (dI ta tl tc))).run Tryz.prog (w.alloc (.cells z257 484)) = .ok () (w.alloc (.cells (z257.setIfInBounds 256 (dI ta tl tc)) 484)):=by
 have h:=Mw (dI ta tl tc) w rfl;rw [← hg] at h;have hs:(sizeOf 484).run Tryz.prog (w.alloc (.cells z257 484)) = .ok 257 (w.alloc (.cells z257 484)):=by
  have:=KD;cases hq:Tryz.prog.info? 484 with
  | none=>rw [hq] at this;cases this
  | some i=>rw [hq] at this;simp at this;simp [sizeOf,typeInfo,hq,this.2]
 simpa [Instr.storeAt,Instr.sureAddr,storeVar,hs,Value.cells,Nb] using h
theorem TW(t:Value):EP (dI none 0 0) (dI none 0 0) t=z257.setIfInBounds 256 t:=by
 have h:∀i,z257.setIfInBounds i (dI none 0 0)=z257:=fun i=>by
  apply Array.ext_getElem?;intro j;rw [AL];split
  ·rename_i hij
   subst hij;split
   ·rename_i h;rw [z257,Array.getElem?_replicate,if_pos (by simpa [z257] using h)]
   ·rename_i h;rw [z257,Array.getElem?_replicate,if_neg (by simpa [z257] using h)]
  ·rfl
 rw [EP,h,h]
section
variable (a b t u:Value)
theorem Rk:(EP a b t)[92]? = some a:=by simp [EP,z257,AL]
theorem Rj:(EP a b t)[34]? = some b:=by simp [EP,z257,AL]
theorem Oc:(EP a b t)[256]? = some t:=by simp [EP,z257,AL]
theorem PP:(EP a b t).setIfInBounds 92 u=EP u b t:=by
 apply Array.ext_getElem?;intro i;simp only [EP,AL,Array.size_setIfInBounds];by_cases h1:92=i
 ·subst h1;simp
 ·simp [h1]
theorem PO:(EP a b t).setIfInBounds 34 u=EP a u t:=by
 apply Array.ext_getElem?;intro i;simp only [EP,AL,Array.size_setIfInBounds];by_cases h1:34=i
 ·subst h1;simp
 ·simp [h1]
theorem Od:(EP a b t).setIfInBounds 256 u=EP a b u:=by
 apply Array.ext_getElem?;intro i;simp only [EP,AL,Array.size_setIfInBounds];by_cases h1:256=i
 ·subst h1;simp
 ·simp [h1]
end
def Fg(s:ByteArray):List Value:=[CZ s]
def J3(w:World)(a:Value)(x y:Int):Prop:=∃q c C fr,a = dI (some ⟨q,0,none⟩) 2 c∧w.heap[q]? = some (.cells C 5 fr)∧C[0]? = some (.int .u8 x)∧C[1]? = some (.int .u8 y)
theorem J3.keeps{w w':World}{a:Value}{x y:Int}{S:List Nat}(h:J3 w a x y)(hk:Aa S w w')(hS:∀q C fr,w.heap[q]? = some (.cells C 5 fr)→q∉S):J3 w' a x y:=by
 obtain⟨q,c,C,fr,rfl,h1,h2,h3⟩:=h;exact⟨q,c,C,fr,rfl,(hk.block q (Aj.1 h1).1 (hS q C fr h1)).trans h1,h2,h3⟩
theorem J3.cells{w:World}{a:Value}{x y:Int}(h:J3 w a x y):∃q c,a = dI (some ⟨q,0,none⟩) 2 c∧q<w.heap.size∧w.cell? ⟨q,0,none⟩=some (.int .u8 x)∧w.cell? ⟨q,1,none⟩=some (.int .u8 y):=by
 obtain⟨q,c,C,fr,rfl,h1,h2,h3⟩:=h;exact⟨q,c,rfl,(Aj.1 h1).1,(cell_of_row w q 0 C 5 fr h1).trans h2,(cell_of_row w q 1 C 5 fr h1).trans h3⟩
theorem Lq{w:World}{B n k bb:Nat}{e t:TypeId}{v:Value}{xs:List Value}{cs:Array Value}{fr:Nat×Nat}(h:w.ownsRow B e n v k xs)(hb:w.heap[bb]? = some (.cells cs t fr))(hne:t≠e):bb∉v.ownBlock.toList:=by
 rcases h.2 with⟨rfl,_⟩ | ⟨g,c,cur,rfl,hb',hg,_⟩
 ·simp [Value.ownBlock]
 ·simp only [Value.ownBlock,Option.toList_some,Am]
  rintro rfl;rw [hb] at hg;injection hg with hg
  injection hg with _ ht
  exact hne ht
theorem WY(w:World)(x y:UInt8):∃q c W,(convert 9 193 (CZ ⟨#[x,y]⟩)).run Tryz.prog w = .ok (dI (some ⟨q,0,none⟩) 2 c) W∧J3 W (dI (some ⟨q,0,none⟩) 2 c) x.toNat y.toNat∧Aa [] w W:=by
 exact⟨w,_,_,run_bytes_of_string w 9 193 5 ⟨#[x,y]⟩ Tryz.underlying9 Tryz.underlying193 Tryz.underlying5,⟨w,_,_,_,rfl,heap_alloc_new w.drew _,by rw [bytesRow,Array.getElem?_append_left bA];simp,by rw [bytesRow,Array.getElem?_append_left bA];simp⟩,(Aa.refl [] w).drew.alloc _⟩
end
section
open Go.RowKit Go.Shelf
attribute [local go_sem] Oper.semAt_some Rk Rj Oc Nb
attribute [local go_sem ↓] Go.wp_at_zero Go.wp_at_succ RU PQ RV
theorem Y4(h):(⟨#[92]⟩:ByteArray)[0]'h=92:=rfl
theorem Y3(h):(⟨#[34]⟩:ByteArray)[0]'h=34:=rfl
theorem dE:(92:UInt8).toNat=92:=rfl
theorem dD:(34:UInt8).toNat=34:=rfl
attribute [local go_sem] Y4 Y3 dE dD TZ Ua
theorem Wz:Dj (Tryz.prog.info? 9) 1=true:=by kernel_rfl
theorem Ka:∃i,Tryz.prog.info? 9=some i∧i.zero=some (CZ ⟨#[]⟩)∧i.size=1∧i.bytes=16:=by
 have h:(Tryz.prog.info? 9).map (fun i=>(i.zero,i.size,i.bytes))=some (some (CZ ⟨#[]⟩),1,16):=by kernel_rfl
 cases hq:Tryz.prog.info? 9 with
 | none=>rw [hq] at h;cases h
 | some i=>rw [hq] at h;simp at h;exact⟨i,rfl,h.1,h.2.1,h.2.2⟩
theorem R0(w:World)(x:UInt8)(n:Int)(hn:(x.toNat:Int)=n):(convert 193 9 (dI (some ⟨w,0,none⟩) 1 1)).run Tryz.prog (w.alloc (.cells #[.int .u8 n] 5)) = .ok (CZ ⟨#[x]⟩) (w.alloc (.cells #[.int .u8 n] 5)):=by
 subst hn;exact run_convert_bytes_back (P:=Tryz.prog) _ 193 9 5 ⟨w,0,none⟩ 1 [x] Tryz.underlying193 Tryz.underlying5 Tryz.underlying9 (fun j hj=>by
  have:j=0:=by simpa using hj
  subst this;rw [Bn,(Blk.new w 5 _).cell];rfl)
def QK:List ByteArray:=[⟨#[92]⟩,⟨#[34]⟩]
def RC(w wr:World)(bb:Nat)(a b v:Value)(m:Nat):Prop:=Blk wr bb 484 (EP a b v)∧wr.ownsRow w.heap.size 9 1 v (QK.take m).length ((QK.take m).flatMap Fg)∧Aa [] w wr∧w.heap.size≤bb∧
 (if 1≤m then J3 wr a 92 92 else a = dI none 0 0)∧(if 2≤m then J3 wr b 92 34 else b = dI none 0 0)
theorem RC.push{w wr:World}{bb:Nat}{a b v:Value}{m:Nat}(h:RC w wr bb a b v m)(x:ByteArray)(hx:QK[m]? = some x)(y z:UInt8):
  ∃g c W3 q c5 W5,(Bo #[41,41] 41 #[v,dI (some ⟨wr.heap.size+1,0,none⟩) 1 1]).run Tryz.prog ((wr.alloc (.cells #[.int .u8 (x.data[0]!).toNat] 5)).alloc (.cells #[CZ x] 9)) = .ok (dI (some ⟨g,0,none⟩) (m+1) c) W3∧
   Blk W3 bb 484 (EP a b v)∧
   (convert 9 193 (CZ ⟨#[y,z]⟩)).run Tryz.prog (W3.setCell ⟨bb,256,none⟩ (dI (some ⟨g,0,none⟩) (m+1) c)) = .ok (dI (some ⟨q,0,none⟩) 2 c5) W5∧
   Blk W5 bb 484 (EP a b (dI (some ⟨g,0,none⟩) (m+1) c))∧W5.ownsRow w.heap.size 9 1 (dI (some ⟨g,0,none⟩) (m+1) c) (m+1) ((QK.take (m+1)).flatMap Fg)∧Aa [] w W5∧
   J3 W5 (dI (some ⟨q,0,none⟩) 2 c5) y.toNat z.toNat∧(∀u s t,J3 wr u s t→J3 W5 u s t):=by
 obtain⟨h1,h2,h3,h4,-⟩:=h;have hm:m<QK.length:=(Ad.1 hx).1;have hlen:(QK.take m).length=m:=by rw [A7];omega
 have htk:QK.take (m+1)=QK.take m++[x]:=by rw [List.take_add_one,hx];rfl
 have hrow:=h2.alloc (.cells #[.int .u8 (x.data[0]!).toNat] 5);obtain⟨g,c,W3,hrun,hrow3,hk3,hge⟩:=C8 (enc:=Fg) Tryz.prog (t:=41) Tryz.underlying41 Wz bE (fun _=>rfl) (fun x u hu=>by unfold Fg at hu;simp only [Ac,Ab,or_false] at hu;subst hu;rfl) hrow (As h3.size bA) x (by rw [hlen];simp [QK] at hm;omega) 41;rw [hlen] at hrun;rw [show(QK.take m++[x]).length=m+1 by rw [Ag,hlen];rfl,← htk,hlen] at hrow3;have hkw:Aa v.ownBlock.toList wr W3:=(((Aa.refl _ wr).alloc _)).trans hk3;have hb3:Blk W3 bb 484 (EP a b v):=h1.keeps hkw (Lq h2 h1 bE);have hb4:=hb3.set_ 256 (dI (some ⟨g,0,none⟩) (m+1) c);rw [Od] at hb4;obtain⟨q,c5,W5,hcv,htw,hk5⟩:=WY (W3.setCell ⟨bb,256,none⟩ (dI (some ⟨g,0,none⟩) (m+1) c)) y z;refine⟨g,c,W3,q,c5,W5,by simpa [Fg] using hrun,hb3,hcv,hb4.keeps hk5 bA,?_,?_,htw,?_⟩
 ·refine Ak (Ak hrow3 ((Aa.refl [bb] W3).setCell (p:=⟨bb,256,none⟩) (.inl bA) _) (fun g' hg' hm'=>?_)) hk5 (fun _ _=>by simp)
  have:=Lq hrow3 hb3 bE;simp only [Ac,Ab,or_false] at hm';subst hm';exact this (by simp [hg'])
 ·refine Aa.trans (Aa.setCell (h3.own hkw (fun y hy=>?_)) (p:=⟨bb,256,none⟩) (.inr h4) _) hk5
  exact(h2.lt y bU).1
 ·intro u s t hu
  refine((hu.keeps hkw (fun q C fr hq=>Lq h2 hq bE)).keeps ((Aa.refl [bb] W3).setCell (p:=⟨bb,256,none⟩) (.inl bA) _) (fun q C fr hq hm=>?_)).keeps hk5 (fun _ _ _ _=>by simp);simp only [Ac,Ab,or_false] at hm;subst hm;unfold Blk at hb3;rw [hq] at hb3;injection hb3 with hb3
  injection hb3 with _ ht
  exact absurd ht bE
theorem RW(rb og oo oc:Nat)(x0 x1 x2 x3:Value)(w:World)(hb:Blk w rb 369 #[x0,x1,x2,x3,dI (some ⟨og,oo,none⟩) 4 oc])
 (c0:w.cell? ⟨og,oo,none⟩=some (CZ ⟨#[34]⟩))(c1:w.cell? ⟨og,oo+1,none⟩=some (CZ ⟨#[92,34]⟩))(c2:w.cell? ⟨og,oo+2,none⟩=some (CZ ⟨#[92]⟩))(c3:w.cell? ⟨og,oo+3,none⟩=some (CZ ⟨#[92,92]⟩))(hog:og<w.heap.size):
  Calls Tryz.prog 282 #[dJ (some ⟨rb,0,none⟩)] w fun e w'=>∃bb a b v,e = dM (.iface 485 (dJ (some ⟨bb,0,none⟩)))∧w.heap.size≤bb∧RC w w' bb a b v 2:=by
 have q:=hb.rl;have HB:=lH hb;clear hb;have hz:=TY;obtain⟨i0,hi1,hi2,hi3,hi4⟩:=Ka;have hmk:∀W:World,(Instr.makeSlice 41 (dH dN 0) (dH dN 2)).run Tryz.prog W = .ok (dI (some ⟨W,0,none⟩) 0 2) (W.alloc (.cells #[CZ ⟨#[]⟩,CZ ⟨#[]⟩] 9)):=fun W=>by
  have:=FT (P:=Tryz.prog) 41 9 i0 (CZ ⟨#[]⟩) Tryz.underlying41 hi1 hi2 .i64 .i64 0 2 bB (by rw [hi4];decide) bE W;rw [hi3,show madeCells (CZ ⟨#[]⟩).cells (2*1)=#[CZ ⟨#[]⟩,CZ ⟨#[]⟩] by unfold madeCells;rw [show Array.range (2*1)=#[0,1] by decide];simp [Value.cells]] at this;exact this
 clear hi1 hi2 hi3 hi4;go_enter Tryz.func282,Tryz.ntmps282;go_wp2;go_loopw [4,5] (fun al i wr=>w=wr∧((i = dH dN 0∧al = dL true)∨(i = dH dN 2∧al = dL false)∨(i = dH dN 4∧al = dL false))) (fun _ i _=>(4 - intOf i).toNat)
 case atStart=>exact⟨rfl,.inl ⟨rfl,rfl⟩⟩
 case round=>
  obtain⟨rfl,⟨rfl,rfl⟩ | ⟨rfl,rfl⟩ | ⟨rfl,rfl⟩⟩:=hrel
  ·go_wp2
   go_roundw;case rel=>simp
   case measure=>simp [intOf]
  ·go_wp2
   go_roundw;case rel=>simp
   case measure=>simp [intOf]
  ·go_wp2
   obtain⟨W2,hW2⟩:=eX ((w.alloc (.cells #[CZ ⟨#[]⟩,CZ ⟨#[]⟩] 9)).alloc (.cells (z257.setIfInBounds 256 (dI (some ⟨w,0,none⟩) 0 2)) 484));have HI:Hid (RC w W2 (w.heap.size+1) (dI none 0 0) (dI none 0 0) (dI (some ⟨w,0,none⟩) 0 2) 0):=lH (by
    rw [← hW2];refine⟨?_,?_,((Aa.refl [] w).alloc _).alloc _,by omega,rfl,rfl⟩
    ·rw [TW]
     have:=Blk.new (w.alloc (.cells #[CZ ⟨#[]⟩,CZ ⟨#[]⟩] 9)) 484 (z257.setIfInBounds 256 (dI (some ⟨w,0,none⟩) 0 2));simpa using this
    ·refine World.ownsRow.alloc ?_ _
     have:=World.ownsRow_made (base:=w.heap.size) (e:=9) (size:=1) w #[CZ ⟨#[]⟩,CZ ⟨#[]⟩] 2 (Ap _) bZ rfl;simpa [QK] using this)
   rw [hW2];clear hW2 q hmk hz;have HC:=lH (AZ c0 (AZ c1 (AZ c2 c3)));clear c0 c1 c2 c3 HB;go_loopw [12] (fun i w2=>∃a b v,(i = dH dN 2∧Hid (RC w w2 (w.heap.size+1) a b v 0))∨(i = dH dN 0∧Hid (RC w w2 (w.heap.size+1) a b v 1))∨(i = dH dN (-2)∧Hid (RC w w2 (w.heap.size+1) a b v 2))) (fun i _=>(intOf i+2).toNat)
   case atStart=>exact⟨_,_,_,.inl ⟨rfl,HI⟩⟩
   case round=>
    clear HI;obtain⟨a,b,v,⟨rfl,HS⟩ | ⟨rfl,HS⟩ | ⟨rfl,HS⟩⟩:=hrel
    ·obtain⟨hb,hrow,hk,hge,ha,hb'⟩:=HS.out
     simp only [show ¬1≤0 from by decide,show 1≤1 from by decide,show ¬2≤0 from by decide,show ¬2≤1 from by decide,if_false,if_true] at ha hb';subst ha hb';have q:=hb.rl;have kr:=hk.rl;obtain⟨c0,c1,c2,c3⟩:=HC.out;obtain⟨g,c,W3,q5,c5,W5,hrun,hb3,hcv,hb5,hrow5,hk5,htw,hmono⟩:=RC.push HS.out ⟨#[92]⟩ rfl 92 92;rw [show((((⟨#[92]⟩:ByteArray).data[0]!).toNat:Nat):Int)=92 from rfl] at hrun;have hone:=R0 wr 92 92 rfl;have r3:=hb3.rl;have r5:=hb5.rl;have HN:Hid (RC w (W5.setCell ⟨w.heap.size+1,92,none⟩ (dI (some ⟨q5,0,none⟩) 2 c5)) (w.heap.size+1) (dI (some ⟨q5,0,none⟩) 2 c5) (dI none 0 0) (dI (some ⟨g,0,none⟩) (0+1) c) 1):=lH (by
      have hk6:Aa [w.heap.size+1] W5 (W5.setCell ⟨w.heap.size+1,92,none⟩ (dI (some ⟨q5,0,none⟩) 2 c5)):=(Aa.refl _ _).setCell (.inl bA) _;have hS:∀q C fr,W5.heap[q]? = some (.cells C 5 fr)→q∉[w.heap.size+1]:=fun q C fr hq hm=>by
       simp only [Ac,Ab,or_false] at hm;subst hm;unfold Blk at hb5;rw [hq] at hb5;injection hb5 with hb5
       injection hb5 with _ ht
       exact absurd ht bE
      refine⟨?_,Ak hrow5 hk6 (fun g' hg' hm'=>Lq hrow5 hb5 bE (by simp only [Ac,Ab,or_false] at hm';subst hm';simp [hg'])),hk5.own hk6 bF,hge,?_,?_⟩
      ·have:=hb5.set_ 92 (dI (some ⟨q5,0,none⟩) 2 c5)
       rw [PP] at this;exact this
      ·exact htw.keeps hk6 hS
      ·rfl)
     clear hb hrow hk hge HS hb3 hb5 hrow5 hk5 htw hmono;go_wp2_with (at_builtin;refine Ar _ rfl _ _ 41 rfl rfl rfl hrun ?_);go_roundw;case rel=>exact⟨_,_,_,.inr (.inl ⟨rfl,HN⟩)⟩
     case measure=>simp [intOf]
    ·obtain⟨hb,hrow,hk,hge,ha,hb'⟩:=HS.out
     simp only [show ¬1≤0 from by decide,show 1≤1 from by decide,show ¬2≤0 from by decide,show ¬2≤1 from by decide,if_false,if_true] at ha hb';subst hb';have q:=hb.rl;have kr:=hk.rl;obtain⟨c0,c1,c2,c3⟩:=HC.out;obtain⟨g,c,W3,q5,c5,W5,hrun,hb3,hcv,hb5,hrow5,hk5,htw,hmono⟩:=RC.push HS.out ⟨#[34]⟩ rfl 92 34;rw [show((((⟨#[34]⟩:ByteArray).data[0]!).toNat:Nat):Int)=34 from rfl] at hrun;have hone:=R0 wr 34 34 rfl;have r3:=hb3.rl;have r5:=hb5.rl;have HN:Hid (RC w (W5.setCell ⟨w.heap.size+1,34,none⟩ (dI (some ⟨q5,0,none⟩) 2 c5)) (w.heap.size+1) a (dI (some ⟨q5,0,none⟩) 2 c5) (dI (some ⟨g,0,none⟩) (1+1) c) 2):=lH (by
      have hk6:Aa [w.heap.size+1] W5 (W5.setCell ⟨w.heap.size+1,34,none⟩ (dI (some ⟨q5,0,none⟩) 2 c5)):=(Aa.refl _ _).setCell (.inl bA) _;have hS:∀q C fr,W5.heap[q]? = some (.cells C 5 fr)→q∉[w.heap.size+1]:=fun q C fr hq hm=>by
       simp only [Ac,Ab,or_false] at hm;subst hm;unfold Blk at hb5;rw [hq] at hb5;injection hb5 with hb5
       injection hb5 with _ ht
       exact absurd ht bE
      refine⟨?_,Ak hrow5 hk6 (fun g' hg' hm'=>Lq hrow5 hb5 bE (by simp only [Ac,Ab,or_false] at hm';subst hm';simp [hg'])),hk5.own hk6 bF,hge,?_,?_⟩
      ·have:=hb5.set_ 34 (dI (some ⟨q5,0,none⟩) 2 c5)
       rw [PO] at this;exact this
      ·exact(hmono _ _ _ ha).keeps hk6 hS
      ·exact htw.keeps hk6 hS)
     clear hb hrow hk hge ha HS hb3 hb5 hrow5 hk5 htw hmono;go_wp2_with (at_builtin;refine Ar _ rfl _ _ 41 rfl rfl rfl hrun ?_);go_roundw;case rel=>exact⟨_,_,_,.inr (.inr ⟨rfl,HN⟩)⟩
     case measure=>simp [intOf]
    ·go_wp2
     go_ret;exact⟨_,a,b,v,rfl,by omega,HS.out⟩
end
end Go.Proofs.YtcjdkbgdahgjbaaGreatDoor
