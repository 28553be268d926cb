/- Steps of the proof: CtN, CtO, CtP, CtQ. -/
import Derived.Test.YtcjdkbgdahgjbaaGreatDoorK0
import Derived.Test.YtcjdkbgdahgjbaaGreatDoorKah
import Derived.Test.YtcjdkbgdahgjbaaGreatDoorKak
import Derived.Test.YtcjdkbgdahgjbaaGreatDoorKal
import Derived.Test.YtcjdkbgdahgjbaaGreatDoorKaw
import Derived.Test.YtcjdkbgdahgjbaaGreatDoorKaz
import Derived.Test.YtcjdkbgdahgjbaaGreatDoorKba
import Derived.Test.YtcjdkbgdahgjbaaGreatDoorKbc
import Derived.Deep.RegionHeld3
set_option maxRecDepth 100000
set_option maxHeartbeats 8000000
set_option linter.all false
namespace Go.Proofs.YtcjdkbgdahgjbaaGreatDoor
open _root_.Array renaming getElem?_eq_some_iff→Aj,length_toList→BL
open _root_.Bool renaming and_eq_true→Af
open Builtin renaming append_→Bo
open Ending renaming returned→dM
open Instr renaming slice→AG
open IntKind renaming i64→dN
open _root_.List renaming getElem?_cons_zero→Ah,getElem?_eq_getElem→Au,length_drop→Bi,length_take→A7,mem_cons→Ac,mem_singleton→Am,not_mem_nil→Ab
open _root_.Nat renaming add_zero→CG,le_trans→As,zero_le→Cy
open Value renaming agg→dK,bool→dL,int→dH,pointer→dJ,slice→dI,string→CZ
section
open Go.RowKit Go.Shelf
attribute [local go_sem] Oper.semAt_some N5 N6 N3 N4
attribute [local go_sem ↓] Go.wp_at_zero Go.wp_at_succ
theorem Xu(s t:ByteArray)(i k:Int)(x:ByteArray)(w:World):(binOp .eql 89 (dK #[CZ s,dH dN i,CZ x]) (dK #[CZ t,dH dN k,CZ x])).run Tryz.prog w = .ok (dL (decide ((⟨s,i,x⟩:Mn)=⟨t,k,x⟩))) w:=by
 rw [run_eql_struct,Nq];rfl
def VX(l:List Mn)(who:ByteArray)(id:Int)(k:Nat):Prop:=∀j<k,∀a,l[j]? = some a→¬(a.who=who∧a.id=id)
theorem O1{α:Type}{p:α→Bool}: ∀ {l:List α} {k:Nat} {a:α},(∀j<k,∀b,l[j]? = some b→p b=false)→l[k]? = some a→p a=true→l.find? p=some a
 | x::l,0,a,_,h1,h2=>by
  simp only [Ah,Option.some.injEq] at h1;subst h1;rw [List.find?_cons,h2]
 | x::l,k+1,a,h0,h1,h2=>by
  rw [List.find?_cons,h0 0 bB x rfl];exact O1 (fun j hj b hb=>h0 (j+1) (Nat.succ_lt_succ hj) b (by simpa using hb)) bR h2
 | [],_,_,_,h1,_=>by simp at h1
theorem NT{l:List Mn}{who:ByteArray}{id:Int}{k:Nat}{a:Mn}(h:VX l who id k)(ha:l[k]? = some a)(h1:a.who=who)(h2:a.id=id):Cg l who id=some a.text:=by
 unfold Cg;rw [O1 (k:=k) (a:=a) (fun j hj b hb=>?_) ha (by simp [h1,h2])]
 ·rfl
 ·have:=h j hj b hb
  rw [Bool.and_eq_false_iff];by_cases h3:b.who=who
  ·right;exact beq_eq_false_iff_ne.2 (fun h4=>this ⟨h3,h4⟩)
  ·left;exact beq_eq_false_iff_ne.2 h3
theorem LV{l:List Mn}{who:ByteArray}{id:Int}(h:VX l who id l.length):Cg l who id=none:=by
 unfold Cg;rw [List.find?_eq_none.2]
 ·rfl
 ·intro a ha
  obtain⟨j,hj,rfl⟩:=List.getElem_of_mem ha;have:=h j hj _ (Au hj);simp only [Af,beq_iff_eq];exact this
theorem IJ(sb:Nat)(j:BC)(v:CV)(c:D2)(now left:Int)(e:Gm)(w:World)(hm:Cm w v c)(h:A1 w sb j v now left e):
  Calls Tryz.prog 180 #[dJ (some ⟨sb,0,none⟩)] w fun r w'=>r = dM (.tuple #[CZ ((Cg c.done j.req.who j.req.id).getD ⟨#[]⟩),dL (Cg c.done j.req.who j.req.id).isSome])∧Aa [] w w':=by
 have HB:=lH h;have HD:=lH hm.d;have HN:=lH hm.dn;have hdl:=hm.dl;obtain⟨l,hl⟩:=eX (c.done);rw [hl] at HD HN ⊢;obtain⟨n,hn⟩:=eX (v.dn);rw [hn] at HN hdl;obtain⟨R,hR⟩:=eX (Cg l j.req.who j.req.id);rw [hR];have HR:=lH hR;have r:=(A1.lit h).rl;rw [hn] at r;have HDN:=lH hn;clear h hm hl hn hR;go_enter Tryz.func180,Tryz.ntmps180;go_wp2;clear r;go_loopw [13] (fun i wr=>∃k:Nat,k≤n∧i = dH dN k∧Hid (VX l j.req.who j.req.id k)∧Hid (Aa [] w wr)) (fun i _=>n - (intOf i).toNat)
 case atStart=>exact⟨0,Cy _,rfl,lH (fun j hj=>by omega),lH (Aa.refl [] w)⟩
 case round=>
  obtain⟨k,hk,rfl,HA,HK⟩:=hrel;by_cases hlt:k<n
  ·obtain⟨g1,o1,y,hda,hg1,hx1,hat1⟩:=(HD.out.keeps HK.out).at_k (k:=k) bO
   have q0:=hat1 0 _ rfl;have q1:=hat1 1 _ rfl;have q2:=hat1 2 _ rfl;rw [CG] at q0;have i1:(0:Int)≤(k:Int):=by omega
   have i2:(k:Int)<(n:Int):=by omega
   obtain⟨wa,hwa⟩:=eX (wr.alloc (.cells #[CZ y.who,dH dN y.id,CZ y.text] 89));have hka:Aa [] wr wa:=by rw [← hwa];exact(Aa.refl [] wr).alloc _
   have HBA:Hid (Blk wa wr.heap.size 89 #[CZ y.who,dH dN y.id,CZ y.text]):=lH (by rw [← hwa];exact Blk.new wr _ _);have HKA:=lH (HK.out.trans hka);have HSA:Hid (A1 wa sb j v now left e):=lH (HB.out.keeps HKA.out bA);have HX:=lH hx1;have HDA:=lH hda;rw [hda];clear hat1 hx1 hka hg1;go_upto_region 4 with(fail)
   clear hwa q0 q1 q2;have r:=(A1.lit HSA.out).rl;have ra:=HBA.out.rl;go_cut [6] (fun x wc=>∃g,x = dJ (some ⟨g,0,none⟩)∧Hid (Blk wc g 89 #[CZ j.req.who,dH dN j.req.id,CZ y.text])∧Hid (Aa [] wa wc))
   case first=>
    refine CD (b:=16) (S:=(Aa [] wa)) bC (by((try dsimp only);((try with_reducible refine Aa.drew ?_);(try with_reducible refine Aa.alloc ?_ _);with_reducible exact Aa.refl _ _))) (fun hHeld=>?_);refine tK 0 ?_;refine tK 1 ?_;refine tK 2 ?_;refine tK 3 ?_;refine tK 4 ?_;refine tK 5 ?_;refine tK 6 ?_;refine tK 7 ?_;refine tK 8 ?_;refine tK 9 ?_;refine tK 10 ?_;refine tK 11 ?_;refine tK 12 ?_;refine tK 13 ?_;refine tK 14 ?_;refine tC 15 fun K hK=>?_;go_simp
    (try clear rH);refine tP hK (by((try dsimp only);((try with_reducible refine Aa.drew ?_);(try with_reducible refine Aa.alloc ?_ _);with_reducible exact Aa.refl _ _))) fun rH hHeld=>?_;clear hK K
    refine tS fun K hK=>?_;go_simp
    (try clear rH);(try clear hHeld);refine tT hK fun hHeld=>?_;clear hK K
    refine wpAnyH_done bC ?_ _
    (go_wp2_with (fail);go_meet;exact⟨_,rfl,lH (by first | exact Blk.new _ _ _ | exact(((Blk.new wa.drew 89 #[CZ ⟨#[]⟩,dH dN 0,CZ ⟨#[]⟩]).set_ 0 (CZ j.req.who)).set_ 1 (dH dN j.req.id)).set_ 2 (CZ y.text)),lH (by first | exact((Aa.refl [] wa).drew).alloc _ | exact(((((Aa.refl [] wa).drew).alloc _).setCell (.inr bA) _).setCell (.inr bA) _).setCell (.inr bA) _)⟩)
   case rest=>
    obtain⟨g,rfl,HG,HKG⟩:=hcut
    rename World=>wc
    clear r ra;have rg:=HG.out.rl;have ra:=(HBA.out.keeps HKG.out bA).rl;have heq:=fun W=>Xu y.who j.req.who y.id j.req.id y.text W;by_cases hh:y.who=j.req.who∧y.id=j.req.id
    ·obtain rfl:R=some y.text:=by rw [← HR.out];exact NT HA.out HX.out hh.1 hh.2
     rw [hh.1,hh.2,decide_eq_true rfl] at heq;rw [hh.1,hh.2] at ra;clear hh;go_wp2_with (fail);go_ret2;exact⟨rfl,HKA.out.trans HKG.out⟩
    ·have hd:decide ((⟨y.who,y.id,y.text⟩:Mn)=⟨j.req.who,j.req.id,y.text⟩)=false:=decide_eq_false (fun e=>by injection e with e1 e2 _;exact hh ⟨e1,e2⟩)
     rw [hd] at heq;have HA2:Hid (VX l j.req.who j.req.id (k+1)):=lH (fun i hi a ha=>by
      rcases Nat.lt_or_ge i k with h | h
      ·exact HA.out i h a ha
      ·obtain rfl:i=k:=by omega
       rw [HX.out] at ha;injection ha with ha
       rw [← ha];exact hh)
     clear hh hd;go_wp2_with (fail);go_roundw;case rel=>exact⟨k+1,by omega,by go_num,HA2,lH (HKA.out.trans HKG.out)⟩
     case measure=>simp [intOf];omega
  ·obtain rfl:k=n:=by omega
   obtain rfl:R=none:=by rw [← HR.out];exact LV (by rw [HN.out];exact HA.out)
   go_wp2;go_ret2;exact⟨rfl,HK.out⟩
end
section
open Go.RowKit Go.Shelf
structure SI(wb:World)(sb:Nat)(w:World)(v:CV)(c:D2):Prop where
 kw:Aa [] wb w
 lo:wb.heap.size+3≤sb
 m:Cm w v c
 no:FV (fun y=>y=sb∨y<wb.heap.size+3) v c
 nj:EA (fun y=>y=sb∨y<wb.heap.size+3) v.ja v.jn
theorem SI.keeps{wb w w':World}{sb:Nat}{v:CV}{c:D2}(h:SI wb sb w v c)(hk:Aa [] w w'):SI wb sb w' v c:=⟨h.kw.trans hk,h.lo,h.m.keeps hk,h.no,h.nj⟩
theorem SI.put{wb w w':World}{sb:Nat}{v u:CV}{c:D2}{j:BC}{now left:Int}{e:Gm}(h:SI wb sb w v c)(hs:A1 w sb j u now left e)(hk:Aa [sb] w w'):SI wb sb w' v c:=
 ⟨h.kw.own hk (fun y hy=>by obtain rfl:=Am.1 hy;have:=h.lo;omega),h.lo,h.m.stay h.no h.nj hk (fun y hy=>.inl bU) (Jy.blk hs bE bE),h.no,h.nj⟩
def J2(wb:World)(sb:Nat)(w:World)(now left:Int)(R:BC×D2×Gm):Ending→World→Prop:=fun r w'=>∃v',r = dM (.tuple #[])∧A1 w' sb R.1 v' now left R.2.2∧SI wb sb w' v' R.2.1∧Aa [sb] w w'
theorem VD{w:World}{a:Option Addr}{c:Nat}{xs:List ByteArray}(h:BR w a c xs):IF w a c xs:=
 ⟨h.le,h.nil,fun h0=>by
  obtain⟨g,off,cs,fz,ha,hb,hat⟩:=h.at_ (by intro e;rw [e] at h0;simp at h0);refine⟨g,off,ha,(Aj.1 hb).1,fun i hi j u hj=>?_⟩;cases j with
  | zero=>
   simp only [EZ,Ah,Option.some.injEq] at hj;rw [← hj,Nat.mul_one,CG];exact hat i hi
  | succ j=>simp [EZ] at hj⟩
theorem Su(l:List ByteArray):l.flatMap EZ=l.map CZ:=by
 induction l with
 | nil=>rfl
 | cons x l ih=>rw [List.flatMap_cons,ih];rfl
theorem Th{w:World}{B n c:Nat}{a:Option Addr}{xs:List ByteArray}(h:w.ownsRow B 9 1 (dI a n c) xs.length (xs.flatMap EZ))(hsm:xs.length≤1000000)(hsz:∀x∈xs,x.size≤maxLen):BR w a c xs:=by
 rw [Su] at h;obtain⟨a',c',h1,h2⟩:=Ke h hsm hsz;injection h1 with e1 _ e3
 rw [e1,e3];exact h2
theorem UU{p:Po}{cursor f n now:Int}{q:Po}{page:List ByteArray}{nx:Int}(h:GH p cursor f n now=(q,page,nx,0)):page.length≤64∧1≤cursor∧cursor≤1000000000000∧-1≤nx∧nx≤64:=by
 rcases MI h with⟨_,_,_,h4⟩ | ⟨l1,l2,s,hl,hm,h2,_,h3,h4,h5,h6,_,h7,h8,_⟩
 ·exact absurd rfl h4
 ·have hs:s∈p.l:=by rw [hl];simp
  have h10:=hm.ok.cur s hs;have h11:=hm.ok.wh s hs;have h12:=hm.ok.n2;simp only [Dl,Af,decide_eq_true_eq] at h11;have hp:page.length≤s.items.length:=by rw [h7];unfold cY;rw [A7,Bi];omega
  refine⟨by omega,by omega,by omega,?_,?_⟩;all_goals
   rw [h8];unfold cZ Jd
   repeat' split
   all_goals omega
theorem Vd{p:Po}{xs:List ByteArray}{now:Int}{q:Po}{cur err:Int}(h:I7 p xs now=(q,cur,err)): -9223372036854775808≤err∧err≤9223372036854775807:=by
 unfold I7 at h;split at h<;>cases h<;>decide
theorem UT{p:Po}{cursor f n now:Int}{q:Po}{page:List ByteArray}{nx err:Int}(h:GH p cursor f n now=(q,page,nx,err)): -9223372036854775808≤err∧err≤9223372036854775807:=by
 unfold GH at h
 repeat' split at h
 all_goals (cases h;decide)
end
section
open Go.RowKit Go.Shelf
attribute [local go_sem] Oper.semAt_some N5 N6 N3 N4
attribute [local go_sem ↓] Go.wp_at_zero Go.wp_at_succ
theorem FP{P:Program}{op:Oper}{a:Act}{w:World}(ty:TypeId)(x:Operand)(ho:op.op = .load ty x)(b o:Nat)(hx:a.eval x = dJ (some ⟨b,o,none⟩))(cs:Array Value)(d:TypeDesc)(hc:w.rangeAt b o cs.toList)
 (hu:P.underlying ty=some d)(hd:d.isRow=true)(hi:(P.info? ty).map (·.size)=some cs.toList.length):(execOp a.eval op).run P w = .ok (.value (.agg cs)) w:=by
 unfold execOp;simp only [ho,hx,Instr.loadAt,Instr.sureAddr,Sem.run_bind,Sem.run_pure,Result.andThen_ok,run_loadVar_mid w b o ty cs.toList d hc hu hd hi]
theorem A1.reqs{w:World}{sb:Nat}{j:BC}{v:CV}{now left:Int}{e:Gm}(h:A1 w sb j v now left e):w.rangeAt sb 3 (reqA j.req).toList:=fun i u hu=>by
 have:=(A1.lit h).cell (3+i);rw [this];simp only [reqA] at hu
 match i,hu with
 | 0,hu=>exact hu
 | 1,hu=>exact hu
 | 2,hu=>exact hu
 | 3,hu=>exact hu
 | 4,hu=>exact hu
 | 5,hu=>exact hu
 | 6,hu=>exact hu
 | 7,hu=>exact hu
 | 8,hu=>exact hu
 | 9,hu=>exact hu
 | 10,hu=>exact hu
 | 11,hu=>exact hu
 | 12,hu=>exact hu
 | 13,hu=>exact hu
 | 14,hu=>exact hu
 | 15,hu=>exact hu
 | 16,hu=>exact hu
 | i+17,hu=>simp at hu
theorem S6{j:BC}{p P:Po}{xs:List ByteArray}{seq now cur err:Int}(h:(if j.req.cursor=0 then I7 p xs now else(p,j.req.cursor,0))=(P,cur,err))(h0:¬err=0):F4 j p xs seq now=(j.refuses j.req.id err,p):=by
 unfold F4;simp only [h];rw [if_pos h0]
theorem S7{j:BC}{p P Q:Po}{xs page:List ByteArray}{seq now cur nx err:Int}(h:(if j.req.cursor=0 then I7 p xs now else(p,j.req.cursor,0))=(P,cur,0))(h2:GH P cur j.req.from_ j.req.count now=(Q,page,nx,err))(h0:¬err=0):F4 j p xs seq now=(j.refuses j.req.id err,p):=by
 unfold F4;simp only [h,h2];rw [if_neg bA,if_pos h0]
theorem S8{j:BC}{p P Q:Po}{xs page:List ByteArray}{seq now cur nx:Int}(h:(if j.req.cursor=0 then I7 p xs now else(p,j.req.cursor,0))=(P,cur,0))(h2:GH P cur j.req.from_ j.req.count now=(Q,page,nx,0)):
  F4 j p xs seq now=(j.answers (Gf (okT::AU j.req.id::AU seq::AU cur::(if 0≤nx then AU nx else Uu)::page)),Q):=by
 unfold F4;simp only [h,h2];rw [if_neg bA,if_neg bA];simp
theorem UV{p:Po}{cursor f n now:Int}{q:Po}{page:List ByteArray}{nx:Int}(h:GH p cursor f n now=(q,page,nx,0)):q.l.length≤3:=by
 rcases MI h with⟨_,_,_,h4⟩ | ⟨l1,l2,s,hl,hm,_,_,_,_,_,_,hq,_⟩
 ·exact absurd rfl h4
 ·have:=hm.ok.len
  rw [hl] at this;rw [hq];simp at this ⊢;omega
theorem Cm.pool{w:World}{v:CV}{c:D2}(h:Cm w v c){a:Option Addr}{n k:Nat}{V:List SV}{P:Po}(hP:BF w a k V P)(hn:V.length=n)(hl:n≤1000):Cm w { v with pa:=a,pn:=n,pc:=k,pv:=V,nx:=P.next } { c with pool:=P }:=
 { h with p:=hP,pn:=hn,pl:=hl,nx:=rfl }
theorem SI.pool{wb w:World}{sb:Nat}{v:CV}{c:D2}(h:SI wb sb w v c){a:Option Addr}{n k:Nat}{V:List SV}{P:Po}(hP:BF w a k V P)(hn:V.length=n)(hl:n≤1000):SI wb sb w { v with pa:=a,pn:=n,pc:=k,pv:=V,nx:=P.next } { c with pool:=P }:=
 ⟨h.kw,h.lo,h.m.pool hP hn hl,⟨h.no.o,h.no.r,h.no.d⟩,h.nj⟩
theorem A1.pool{w:World}{sb:Nat}{j:BC}{v:CV}{now left:Int}{e:Gm}(h:A1 w sb j v now left e)(a:Option Addr)(n k:Nat)(V:List SV)(x:Int):A1 ((w.setCell ⟨sb,30,none⟩ (dI a n k)).setCell ⟨sb,31,none⟩ (dH dN x)) sb j { v with pa:=a,pn:=n,pc:=k,pv:=V,nx:=x } now left e:=
 (Blk.set_ h 30 (dI a n k)).set_ 31 (dH dN x)
theorem Lm{w:World}{sb:Nat}{j:BC}{v:CV}{now left:Int}{e:Gm}(h:A1 w sb j v now left e):Jy w [sb]:=Jy.blk h bE bE
theorem Ll{w:World}{g:Nat}{cs:Array Value}(h:Blk w g 32 cs):Jy w [g]:=Jy.blk h bE bE
theorem UL(sb:Nat)(j:BC)(v:CV)(c:D2)(now left:Int)(e:Gm)(seq:Int)(hid : -9223372036854775808≤j.req.id∧j.req.id≤9223372036854775807)(hsq : -9223372036854775808≤seq∧seq≤9223372036854775807)(hnm:∀x∈BN c.reg,x.size≤maxLen)
 (wb w:World)(eN:Nat→Addr)(hE:IE wb)(hN:Kn wb eN)(hI:SI wb sb w v c)(h:A1 w sb j v now left e):
  Calls Tryz.prog 182 #[.pointer (some ⟨sb,0,none⟩),.int .i64 seq] w (J2 wb sb w now left ((F4 j c.pool (BN c.reg) seq now).1,{ c with pool:=(F4 j c.pool (BN c.reg) seq now).2 },e)):=by
 have HE:Hid (∀W,Aa [] wb W→IE W):=lH fun W hk=>hE.keeps hk;have HN:Hid (∀W,Aa [] wb W→Kn W eN):=lH fun W hk=>Kn.keep hN hk;have HI:=lH hI;have HB:=lH h;have HID:=lH hid;have HSQ:=lH hsq;have HNM:=lH hnm;have hnl:(BN c.reg).length=v.ln:=by rw [← hI.m.l];unfold BN;exact List.length_map ..
 have hnz:v.ln≤1000:=by rw [← hI.m.l];exact hI.m.r.sl
 have HNL:=lH (show(BN c.reg).length=v.ln∧v.ln≤1000 from⟨hnl,hnz⟩);obtain⟨LC,hLC⟩:=eX (F4 j c.pool (BN c.reg) seq now);rw [hLC];have HLC:=lH hLC;have HNA:Hid (∀W,Aa [] w W→Calls Tryz.prog 16 #[.agg (R_ v.r v.gn v.un v.fn v.ln v.seq)] W fun x w'=>∃a k,x = .returned (.slice a v.ln k)∧BR w' a k (BN c.reg)∧Aa [] W w'):=lH fun W hk=>
  (RI v.r c.reg v.gn v.un v.fn v.ln hI.m.lv hnz v.seq hI.m.q W (hI.m.r.l.keeps hk) (hI.m.r.t.keeps hk)).mono fun x w' ⟨a,k,h1,_,h3,h4⟩=>⟨a,k,h1,Th h3 (by rw [hnl];omega) hnm,h4⟩
 have HRQ:Hid (∀W,Aa [] w W→W.rangeAt sb 3 (reqA j.req).toList):=lH fun W hk=>A1.reqs (A1.keeps HB.out hk bA);have HSB:Hid (sb<w.heap.size):=lH (Blk.lt h);have r:=(A1.lit h).rl;clear hE hN hI h hid hsq hnm hLC hnl hnz;go_enter Tryz.func182,Tryz.ntmps182;go_upto_region 0 with(fail)
 go_cut [4,5,6] (fun x y z wc=>∃pb qb,x = .pointer (some ⟨pb,0,none⟩)∧y = .int .i64 j.req.cursor∧z = .pointer (some ⟨qb,0,none⟩)∧Hid (Blk wc pb 32 #[.slice v.pa v.pn v.pc,.int .i64 v.nx])∧Hid (Blk wc qb 63 (reqA j.req))∧Hid (Aa [] w wc)∧Hid (w.heap.size≤pb∧pb≠qb∧w.heap.size≤qb))
 case first=>
  refine CD (b:=20) (S:=(Aa [] w)) bC Xz (fun hHeld=>?_);refine tK 0 ?_;refine tK 1 ?_;refine tK 2 ?_;refine tK 3 ?_;refine tK 4 ?_;refine tK 5 ?_;refine tK 6 ?_;refine tK 7 ?_;refine tK 8 ?_;refine tK 9 ?_;refine tK 10 ?_;refine tK 11 ?_;refine tK 12 ?_;refine tK 13 ?_;refine tK 14 ?_;refine tQ 15 ?_ (hy:=by(intro wS hSw;refine(FP (P:=Tryz.prog) 63 _ bD sb 3 bD (reqA j.req) _ (HRQ.out wS hSw) Tryz.underlying63 rfl (B1 _)).trans ?_;with_reducible rfl));refine G5 (rs:=[16,17]) bC bA ?_;refine Ct.cons rfl bE (fun K hK=>?_) ?_
  ·go_simp
   (try clear rH);refine tP hK Xz fun rH hHeld=>?_;clear hK K
   refine tC 17 fun K hK=>?_;go_simp
   (try clear rH);refine tP hK Xz fun rH hHeld=>?_;clear hK K
   refine tC 18 fun K hK=>?_;go_simp
   (try clear rH);refine tP hK Xz fun rH hHeld=>?_;clear hK K
   refine tK 19 ?_;refine tS fun K hK=>?_
   (first | refine wp_store_mid 63 _ _ bD (w.heap.size+1) 0 (reqA j.req) bD bD (Blk.there (Aq _ _ _ _ bA) 0 17 bE) (B1 _) (CQ _) ?_ | refine wp_store_mid 63 _ _ bD w.heap.size 0 (reqA j.req) bD bD (Blk.there ((Aq _ _ _ _ bA).alloc _) 0 17 bE) (B1 _) (CQ _) ?_)
   (try clear rH);(try clear hHeld);refine tT hK fun hHeld=>?_;clear hK K
   refine wpAnyH_done bC ?_ _
   (go_wp2_with (fail);go_meet;refine⟨_,_,rfl,rfl,rfl,lH ?_,lH ?_,lH ?_,lH ⟨by simp,by simp,by simp⟩⟩;(· refine Blk.keeps ?_ (AM _ 0 _ _) bA;(repeat(with_reducible first | exact Blk.new _ _ _ | exact Aq _ _ _ _ bA | refine Blk.alloc ?_ _ | refine Blk.drew ?_)));(· refine Blk.putAll (cs:=Xt.k) ?_ rfl;(repeat(with_reducible first | exact Blk.new _ _ _ | exact Aq _ _ _ _ bA | refine Blk.alloc ?_ _ | refine Blk.drew ?_)));(· refine Aa.setCells (.inr bA) _ 0 ?_;repeat(with_reducible first | exact Aa.refl _ _ | refine Aa.drew ?_ | refine Aa.alloc ?_ _)))
  refine Ct.cons rfl bE (fun K hK=>?_) ?_
  ·go_simp
   (try clear rH);refine tP hK Xz fun rH hHeld=>?_;clear hK K
   refine tC 16 fun K hK=>?_;go_simp
   (try clear rH);refine tP hK Xz fun rH hHeld=>?_;clear hK K
   refine tC 18 fun K hK=>?_;go_simp
   (try clear rH);refine tP hK Xz fun rH hHeld=>?_;clear hK K
   refine tK 19 ?_;refine tS fun K hK=>?_
   (first | refine wp_store_mid 63 _ _ bD (w.heap.size+1) 0 (reqA j.req) bD bD (Blk.there (Aq _ _ _ _ bA) 0 17 bE) (B1 _) (CQ _) ?_ | refine wp_store_mid 63 _ _ bD w.heap.size 0 (reqA j.req) bD bD (Blk.there ((Aq _ _ _ _ bA).alloc _) 0 17 bE) (B1 _) (CQ _) ?_)
   (try clear rH);(try clear hHeld);refine tT hK fun hHeld=>?_;clear hK K
   refine wpAnyH_done bC ?_ _
   (go_wp2_with (fail);go_meet;refine⟨_,_,rfl,rfl,rfl,lH ?_,lH ?_,lH ?_,lH ⟨by simp,by simp,by simp⟩⟩;(· refine Blk.keeps ?_ (AM _ 0 _ _) bA;(repeat(with_reducible first | exact Blk.new _ _ _ | exact Aq _ _ _ _ bA | refine Blk.alloc ?_ _ | refine Blk.drew ?_)));(· refine Blk.putAll (cs:=Xt.k) ?_ rfl;(repeat(with_reducible first | exact Blk.new _ _ _ | exact Aq _ _ _ _ bA | refine Blk.alloc ?_ _ | refine Blk.drew ?_)));(· refine Aa.setCells (.inr bA) _ 0 ?_;repeat(with_reducible first | exact Aa.refl _ _ | refine Aa.drew ?_ | refine Aa.alloc ?_ _)))
  exact Ct.nil
 case rest=>
  obtain⟨pb,qb,rfl,rfl,rfl,HPB,HQB,HK,HPQ⟩:=hcut
  rename World=>wc
  clear r;have HIC:=lH (HI.out.keeps HK.out);have HBC:Hid (A1 wc sb j v now left e):=lH (A1.keeps HB.out HK.out bA);have r:=(A1.lit HBC.out).rl;have rp:=HPB.out.rl;have ne1:¬sb=pb:=by have:=HPQ.out.1;have:=HSB.out;omega
  have ne2:¬qb=pb:=by have:=HPQ.out.2.1;omega
  obtain⟨bc,hbc⟩:=eX ((j.req.cursor==0));have HBC:=lH hbc;go_upto_if 28 with(fail)
  clear hbc;go_cut [5,7] (fun x y wd=>∃a n k V P cur,x = .int .i64 cur∧y = .int .i64 0∧Hid ((if j.req.cursor=0 then I7 c.pool (BN c.reg) now else(c.pool,j.req.cursor,0))=(P,cur,0))∧Hid (V.length=n)∧Hid (BF wd a k V P)∧Hid (Blk wd pb 32 #[.slice a n k,.int .i64 P.next])∧Hid (Blk wd qb 63 (Q_ j.req))∧Hid (Aa [] w wd))
  case first=>
   cases bc;rotate_left
   ·have h0:j.req.cursor=0:=by simpa using HBC.out
    obtain⟨P,cur,err,hP⟩:∃P cur err,I7 c.pool (BN c.reg) now=(P,cur,err):=⟨_,_,_,rfl⟩;have HP1:Hid ((if j.req.cursor=0 then I7 c.pool (BN c.reg) now else(c.pool,j.req.cursor,0))=(P,cur,err)):=lH (by rw [if_pos h0];exact hP);have HER:=lH (Vd hP);have HPN:Hid (∀W a m,Aa [] wc W→BR W a m (BN c.reg)→Calls Tryz.prog 238 #[.agg #[.slice v.pa v.pn v.pc,.int .i64 v.nx],.slice a v.ln m,.int .i64 now] W (Re W P cur err)):=lH fun W a m hk hs=>by
     rw [← HI.out.m.nx];exact XN v.pa v.pc v.pv c.pool v.pn HI.out.m.pn a m v.ln (BN c.reg) HNL.out.1 now W (HI.out.m.p.keeps (HK.out.trans hk)) hs eN (HN.out W (HI.out.kw.trans (HK.out.trans hk))) P cur err hP
    clear hP h0;go_upto_region 3 with(fail)
    go_cut [5,7] (fun x y wd=>∃a n k V,x = .int .i64 cur∧y = .int .i64 err∧Hid (V.length=n)∧Hid (BF wd a k V P)∧Hid (Blk wd pb 32 #[.slice a n k,.int .i64 P.next])∧Hid (Aa [pb] wc wd))
    case first=>
     refine wp_region_held_drew (S:=(Aa [pb] wc)) bC (by((try dsimp only);((try with_reducible refine Aa.drew ?_);(repeat with_reducible refine Aa.setCell ?_ (.inl bA) _);with_reducible (first | exact hkm2 | exact hkm1 | exact Aa.refl _ _)))) (fun hHeld=>?_)
     repeat' (first | exact rZ | refine rX ?_ | ((first | (refine rA 0 (fun K hK=>?_) ?_;go_simp) | (refine rA 6 (fun K hK=>?_) ?_;go_simp;(refine(HNA.out _ (HK.out.trans ((Aa.refl [] wc).drew))).mono ?_;rintro e1 w1 ⟨na,nk,rfl,hs1,hk1⟩;have hk1:=((Aa.refl [] wc).drew).trans hk1;have hkm1:=hk1.mono (S':=[pb]) bA;have rk:=(HPB.out.keeps hk1 bA).rl)) | (refine rA 11 (fun K hK=>?_) ?_;go_simp;(refine(HPN.out _ _ _ hk1 hs1).mono ?_;rintro e1 w2 ⟨a,n,k,V,rfl,hn,hp,hk2,hfr⟩;have hk2:=hk1.trans hk2;have hkm2:=hk2.mono (S':=[pb]) bA;have rk2:=(HPB.out.keeps hk2 bA).rl)) | (refine rA 16 (fun K hK=>?_) ?_;go_simp));(try clear rH);refine rP hK ((by((try dsimp only);((try with_reducible refine Aa.drew ?_);(repeat with_reducible refine Aa.setCell ?_ (.inl bA) _);with_reducible (first | exact hkm2 | exact hkm1 | exact Aa.refl _ _))))) fun rH hHeld=>?_;clear hK K) | (refine rK 1 ?_;refine rK 2 ?_;refine rK 3 ?_;refine rK 4 ?_;refine rK 5 ?_;refine rK 7 ?_;refine rK 8 ?_;refine rK 9 ?_;refine rK 10 ?_) | (refine rK 12 ?_;refine rK 13 ?_;refine rK 14 ?_;refine rK 15 ?_) | (refine rK 17 ?_;refine rK 18 ?_) | refine rB [0,6,11,16] ?_ | (refine wpAnyH_done bC ?_ _;(go_wp2_with (fail);go_meet;exact⟨a,n,k,V,rfl,rfl,lH hn,lH (hp.off ((Ae _ pb 0 _).trans (Ae _ pb 1 _)) (Ll (HPB.out.keeps hk2 bA))),lH (((HPB.out.keeps hk2 bA).set_ 0 (.slice a n k)).set_ 1 (.int .i64 P.next)),lH ((hk2.mono bA).trans ((Ae _ pb 0 _).trans (Ae _ pb 1 _)))⟩)))
    case rest=>
     obtain⟨a,n,k,V,rfl,rfl,HVN,HPV,HPB2,HKD⟩:=hcut
     rename World=>wd
     clear r rp;have HKW:Hid (Aa [] w wd):=lH (HK.out.own HKD.out (fun y hy=>by obtain rfl:=List.mem_singleton.1 hy;exact HPQ.out.1));have HBD:Hid (A1 wd sb j v now left e):=lH (A1.keeps HB.out HKW.out bA);have HQD:Hid (Blk wd qb 63 (Q_ j.req)):=lH (HQB.out.keeps HKD.out (by have:=HPQ.out.2.1;simp;omega));by_cases h1:err=0
     ·subst h1
      go_wp2_with (fail);go_meet;exact⟨a,n,k,V,P,cur,rfl,rfl,HP1,HVN,HPV,HPB2,HQD,HKW⟩
     ·have f1:(err != 0)=true:=by simpa using h1
      obtain rfl:LC=(j.refuses j.req.id err,c.pool):=by rw [← HLC.out];exact S6 HP1.out h1
      have rq:=HQD.out.rl;clear h1;go_wp2_with (fail);refine(ES sb j v now left e j.req.id err HID.out HER.out _ (HE.out _ (HI.out.kw.trans HKW.out)) HBD.out).mono ?_;rintro r w4 ⟨rfl,hb4,hk4⟩;have HB4:=lH hb4;have HK4:=lH hk4;clear hb4 hk4;go_wp2_with (fail);exact bodyPost_ret (results_none rfl _ _ _) rfl ⟨v,rfl,HB4.out,(HI.out.keeps HKW.out).put HBD.out HK4.out,(HKW.out.mono bA).trans HK4.out⟩
   ·have h0:¬j.req.cursor=0:=by simpa using HBC.out
    have H0:=lH h0;clear h0;go_wp2_with (fail);go_meet;exact⟨v.pa,v.pn,v.pc,v.pv,c.pool,j.req.cursor,rfl,rfl,lH (if_neg H0.out),lH HI.out.m.pn,lH HIC.out.m.p,lH (by rw [HI.out.m.nx];exact HPB.out),lH HQB.out,HK⟩
  case rest=>
   obtain⟨a,n,k,V,P,cur,rfl,rfl,HP1,HVN,HPV,HPD,HQD,HKW⟩:=hcut
   rename World=>wd
   clear r rp;have HBD:Hid (A1 wd sb j v now left e):=lH (A1.keeps HB.out HKW.out bA);obtain⟨Q,page,nx,err,hG⟩:∃Q page nx err,GH P cur j.req.from_ j.req.count now=(Q,page,nx,err):=⟨_,_,_,_,rfl⟩;have HG:=lH hG;have HER:=lH (UT hG);have HPG:Hid (∀W,Aa [] wd W→Calls Tryz.prog 239 #[.agg #[.slice a n k,.int .i64 P.next],.int .i64 cur,.int .i64 j.req.from_,.int .i64 j.req.count,.int .i64 now] W (Nd W Q page nx err)):=lH fun W hk=>
    W7 a k V P n HVN.out cur j.req.from_ j.req.count now W (HPV.out.keeps hk) eN (HN.out W (HI.out.kw.trans (HKW.out.trans hk))) Q page nx err hG
   have r:=(A1.lit HBD.out).rl;have rp:=HPD.out.rl;have rq:=HQD.out.rl;clear hG;go_upto_region 6 with(fail)
   go_cut [7,8,9] (fun x y z we=>∃a n k V pa m pk,x = .int .i64 err∧y = .slice pa m pk∧z = .int .i64 nx∧Hid (V.length=n)∧Hid (BF we a k V Q)∧Hid (page.length=m)∧Hid (BR we pa pk page)∧Hid (Blk we pb 32 #[.slice a n k,.int .i64 Q.next])∧Hid (Aa [pb] wd we))
   case first=>
    refine wp_region_held_drew (S:=(Aa [pb] wd)) bC Zk (fun hHeld=>?_);refine rK 1 ?_;refine rK 2 ?_;refine rK 3 ?_;refine rK 4 ?_;refine rK 5 ?_;refine rK 6 ?_;refine rK 7 ?_;refine rK 8 ?_;refine rK 9 ?_;refine rC 0 fun K hK=>?_;go_simp
    (try clear rH);refine rP hK Zk fun rH hHeld=>?_;clear hK K
    refine rC 10 fun K hK=>?_;go_simp
    (refine(HPG.out _ ((Aa.refl [] wd).drew)).mono ?_;rintro e1 w2 ⟨a,n,k,V,pa,m,pk,rfl,hn,hp,hm,hst,hk2,hfr,hfr2⟩;have hk2:=((Aa.refl [] wd).drew).trans hk2;have hkm2:=hk2.mono (S':=[pb]) bA;have rk2:=(HPD.out.keeps hk2 bA).rl)
    (try clear rH);refine rP hK Zk fun rH hHeld=>?_;clear hK K
    refine rK 11 ?_;refine rK 12 ?_;refine rK 13 ?_;refine rK 14 ?_;refine rK 15 ?_;refine rC 16 fun K hK=>?_;go_simp
    (try clear rH);refine rP hK Zk fun rH hHeld=>?_;clear hK K
    refine rK 17 ?_;refine rK 18 ?_;refine rK 19 ?_;refine wpAnyH_done bC ?_ _
    (go_wp2_with (fail);go_meet;exact⟨a,n,k,V,pa,m,pk,rfl,rfl,rfl,lH hn,lH (hp.off ((Ae _ pb 0 _).trans (Ae _ pb 1 _)) (Ll (HPD.out.keeps hk2 bA))),lH hm,lH (hst.keepsS ((Ae _ pb 0 _).trans (Ae _ pb 1 _)) (Ll (HPD.out.keeps hk2 bA)).str),lH (((HPD.out.keeps hk2 bA).set_ 0 (.slice a n k)).set_ 1 (.int .i64 Q.next)),lH ((hk2.mono bA).trans ((Ae _ pb 0 _).trans (Ae _ pb 1 _)))⟩)
   case rest=>
    obtain⟨a,n,k,V,pa,m,pk,rfl,rfl,rfl,HVN,HPV,HM,HST,HPE,HKE⟩:=hcut
    rename World=>we
    clear r rp rq;have HKV:Hid (Aa [] w we):=lH (HKW.out.own HKE.out (fun y hy=>by obtain rfl:=List.mem_singleton.1 hy;exact HPQ.out.1));have HBE:Hid (A1 we sb j v now left e):=lH (A1.keeps HB.out HKV.out bA);have HQE:Hid (Blk we qb 63 (Q_ j.req)):=lH (HQD.out.keeps HKE.out (by have:=HPQ.out.2.1;simp;omega));have rq:=HQE.out.rl;have rp:=HPE.out.rl;by_cases h1:err=0;rotate_left
    ·have f1:(err != 0)=true:=by simpa using h1
     obtain rfl:LC=(j.refuses j.req.id err,c.pool):=by rw [← HLC.out];exact S7 HP1.out HG.out h1
     clear h1;go_wp2_with (fail);refine(ES sb j v now left e j.req.id err HID.out HER.out _ (HE.out _ (HI.out.kw.trans HKV.out)) HBE.out).mono ?_;rintro r w4 ⟨rfl,hb4,hk4⟩;have HB4:=lH hb4;have HK4:=lH hk4;clear hb4 hk4;go_wp2_with (fail);exact bodyPost_ret (results_none rfl _ _ _) rfl ⟨v,rfl,HB4.out,(HI.out.keeps HKV.out).put HBE.out HK4.out,(HKV.out.mono bA).trans HK4.out⟩
    ·subst h1
     have HLE:Hid (LC=(j.answers (Gf (okT::AU j.req.id::AU seq::AU cur::(if 0≤nx then AU nx else Uu)::page)),Q)):=lH (by rw [← HLC.out];exact S8 HP1.out HG.out);have HPF:=lH (UU HG.out);have hn3:n≤1000:=by have:=HVN.out;have:=HPV.out.mt.len;have:=UV HG.out;omega
     obtain⟨v2,hv2⟩:∃v2:CV,{ v with pa:=a,pn:=n,pc:=k,pv:=V,nx:=Q.next } = v2:=⟨_,rfl⟩;obtain⟨wf,hwf⟩:=eX ((we.setCell ⟨sb,30,none⟩ (.slice a n k)).setCell ⟨sb,31,none⟩ (.int .i64 Q.next));have hkf:Aa [sb] we wf:=by rw [← hwf];exact(Ae _ sb 30 _).trans (Ae _ sb 31 _)
     have HBF:Hid (A1 wf sb j v2 now left e):=lH (by rw [← hwf,← hv2];exact A1.pool HBE.out a n k V Q.next);have HSI:Hid (SI wb sb wf v2 { c with pool:=Q }):=lH (by rw [← hv2];exact((HI.out.keeps HKV.out).put HBE.out hkf).pool (HPV.out.off hkf (Lm HBE.out)) HVN.out hn3);have HSF:Hid (BR wf pa pk page):=lH (HST.out.keepsS hkf (Lm HBE.out).str);have HQF:Hid (Blk wf qb 63 (Q_ j.req)):=lH (HQE.out.keeps hkf (by have:=HPQ.out.2.2;have:=HSB.out;simp;omega));have HKF:Hid (Aa [sb] w wf):=lH ((HKV.out.mono bA).trans hkf);obtain⟨en,hen⟩:=eX ((if 0≤nx then AU nx else Uu));have HEN:=lH hen;have r:=(A1.lit HBE.out).rl;clear hn3 hv2 hkf hen HPB HPD HPE HQB HQD HQE;obtain⟨bn,hbn⟩:=eX (decide (nx≥0));have HBN:=lH hbn;go_upto_if 81 with(fail)
     clear hbn;clear hwf r rp rq;go_cut [10] (fun x wg=>x = .string en∧Hid (Aa [] wf wg))
     case first=>
      cases bn;rotate_left
      ·have h2:0≤nx:=by simpa using HBN.out
       obtain rfl:en=AU nx:=by rw [← HEN.out,if_pos h2]
       go_wp2_with (fail);refine(F0 nx bB (by have:=HPF.out.2.2.2.2;omega) _ (HE.out _ HSI.out.kw).tab).mono ?_;rintro e1 w2 ⟨rfl,hk2⟩;have hk2:=lH hk2;go_wp2_with (fail);go_meet;exact⟨rfl,hk2⟩
      ·have h2:¬0≤nx:=by simpa using HBN.out
       obtain rfl:en=Uu:=by rw [← HEN.out,if_neg h2]
       go_wp2_with (fail);go_meet;exact⟨rfl,lH (Aa.refl _ _)⟩
     case rest=>
      obtain⟨rfl,HKG⟩:=hcut
      rename World=>wg
      have HBG:Hid (A1 wg sb j v2 now left e):=lH (A1.keeps HBF.out HKG.out bA);have rq:=(HQF.out.keeps HKG.out bA).rl;obtain⟨wh,hwh⟩:=eX (wg.alloc (.cells #[.iface 9 (.string okT),.iface 3 (.int .i64 j.req.id),.iface 3 (.int .i64 seq),.iface 3 (.int .i64 cur),.iface 9 (.string en),.iface 41 (.slice pa m pk)] 20));have hkh:Aa [] wg wh:=by rw [← hwh];exact(Aa.refl [] wg).alloc _
      have hV:NN wh (some ⟨wg.heap.size,0,none⟩) 6 [.iface 9 (.string okT),.iface 3 (.int .i64 j.req.id),.iface 3 (.int .i64 seq),.iface 3 (.int .i64 cur),.iface 9 (.string en),.iface 41 (.slice pa m pk)]:=by rw [← hwh];exact K7 wg _ 6 rfl 20
      have HS:=L8 (some ⟨wg.heap.size,0,none⟩) 6 6 _ [[okT],[AU j.req.id],[AU seq],[AU cur],[en],page] rfl bE (by have:=HPF.out.1;simp;omega) wh (HE.out _ (HSI.out.kw.trans (HKG.out.trans hkh))) hV
       ⟨.inl ⟨_,rfl,rfl⟩,.inr (.inl ⟨_,rfl,rfl,HID.out⟩),.inr (.inl ⟨_,rfl,rfl,HSQ.out⟩),.inr (.inl ⟨_,rfl,rfl,by have:=HPF.out.2.1;omega,by have:=HPF.out.2.2.1;omega⟩),.inl ⟨_,rfl,rfl⟩,.inr (.inr ⟨pa,m,pk,rfl,HM.out,VD (HSF.out.keeps (HKG.out.trans hkh))⟩),trivial⟩
      have HKH:=lH (HKG.out.trans hkh);have HBH:Hid (A1 wh sb j v2 now left e):=lH (A1.keeps HBG.out hkh bA);have hew:okT=⟨#[111,107]⟩:=rfl;rw [hew] at hwh;clear hkh hV hew;go_wp2_with (fail);clear hwh rq;refine HS.mono ?_;rintro r w1 ⟨rfl,hk1⟩;have HB1:Hid (A1 w1 sb j v2 now left e):=lH (A1.keeps HBH.out hk1 bA);have HK1:=lH (HKH.out.trans hk1);clear hk1 HS;go_wp2_with (fail);refine(FG sb j _ _ _ _ _ _ _ _ _ _ now left e _ _ HB1.out).mono ?_;rintro r w2 ⟨rfl,hb2,hk2⟩;have HB2:=lH hb2;have HK2:=lH hk2;clear hb2 hk2;go_wp2_with (fail);rw [HLE.out,HEN.out];exact bodyPost_ret (results_none rfl _ _ _) rfl ⟨v2,rfl,HB2.out,(HSI.out.keeps HK1.out).put HB1.out HK2.out,(HKF.out.trans (HK1.out.mono bA)).trans HK2.out⟩
end
section
open Go.RowKit Go.Shelf
def Ug(j:BC)(c:D2)(now:Int):CE:=if(Bu c.reg j.role j.req.com now).2.err≠150 then(Bu c.reg j.role j.req.com now).1 else c.reg
def Wl(j:BC)(c:D2)(now:Int):BC×Po:=
 if(Bu c.reg j.role j.req.com now).2.err≠0 then(j.refuses j.req.id (Bu c.reg j.role j.req.com now).2.err,c.pool)
 else if j.req.com.verb=9 then F4 j c.pool (BN (Ug j c now)) (Bu c.reg j.role j.req.com now).2.seq now
 else(if Jo j.req.com.verb then { j.answers (Gf [okT,AU j.req.id,AU (Bu c.reg j.role j.req.com now).2.seq,AU (Bu c.reg j.role j.req.com now).2.slot,AU (Bu c.reg j.role j.req.com now).2.gen,AU (Bu c.reg j.role j.req.com now).2.version,AU (Bu c.reg j.role j.req.com now).2.state]) with phase:=4,slot:=(Bu c.reg j.role j.req.com now).2.slot,gen:=(Bu c.reg j.role j.req.com now).2.gen }
  else j.answers (Gf [okT,AU j.req.id,AU (Bu c.reg j.role j.req.com now).2.seq,AU (Bu c.reg j.role j.req.com now).2.slot,AU (Bu c.reg j.role j.req.com now).2.gen,AU (Bu c.reg j.role j.req.com now).2.version,AU (Bu c.reg j.role j.req.com now).2.state]),c.pool)
theorem Oh{j:BC}{c:D2}{now:Int}{t:ByteArray}(h:Cg c.done j.req.who j.req.id=some t):Df j c now=(j.answers t,c):=by unfold Df;rw [h]
theorem Og{j:BC}{c:D2}{now:Int}(h:Cg c.done j.req.who j.req.id=none):
  Df j c now=((Wl j c now).1,{ c with reg:=Ug j c now,pool:=(Wl j c now).2,done:=EH (c.done++[⟨j.req.who,j.req.id,(Wl j c now).1.reply⟩]) }):=by
 unfold Df;rw [h];rfl
theorem Wk{j:BC}{c:D2}{now:Int}(h:Cz c.reg):Cz (Ug j c now):=by
 unfold Ug;split
 ·rename_i h0;exact TK h _ _ _ h0
 ·exact h
theorem SB{r:CE}(h:Cz r):∀x∈BN r,x.size≤maxLen:=fun x hx=>by
 have:=((OO h).2 x hx).1;have h3:x.size=x.data.toList.length:=by rw [BL];rfl
 unfold maxLen;omega
theorem A1.reg{w:World}{sb:Nat}{j:BC}{v:CV}{now left:Int}{e:Gm}(h:A1 w sb j v now left e)(rv:Bm)(gn un fn ln:Nat)(q:Int):
  A1 (((((w.setCell ⟨sb,25,none⟩ (dI rv.s.ga gn rv.s.gc)).setCell ⟨sb,26,none⟩ (dI rv.s.ua un rv.s.uc)).setCell ⟨sb,27,none⟩ (dI rv.s.fa fn rv.s.fc)).setCell ⟨sb,28,none⟩ (dI rv.la ln rv.lc)).setCell ⟨sb,29,none⟩ (dH dN q)) sb j { v with r:=rv,gn:=gn,un:=un,fn:=fn,ln:=ln,seq:=q } now left e:=
 ((((Blk.set_ h 25 (dI rv.s.ga gn rv.s.gc)).set_ 26 (dI rv.s.ua un rv.s.uc)).set_ 27 (dI rv.s.fa fn rv.s.fc)).set_ 28 (dI rv.la ln rv.lc)).set_ 29 (dH dN q)
theorem Aa.two{a b:Nat}{w w1 w2 w3:World}(h:Aa [] w w1)(h1:Aa [a] w1 w2)(h2:Aa [b] w2 w3):Aa [a,b] w w3:=((h.mono bA).trans (h1.mono bA)).trans (h2.mono bA)
theorem A1.done{w:World}{sb:Nat}{j:BC}{v:CV}{now left:Int}{e:Gm}(h:A1 w sb j v now left e)(a:Option Addr)(n k:Nat):A1 (w.setCell ⟨sb,33,none⟩ (dI a n k)) sb j { v with da:=a,dn:=n,dc:=k } now left e:=Blk.set_ h 33 (dI a n k)
theorem A1.sweep{w:World}{sb:Nat}{j:BC}{v:CV}{now left:Int}{e:Gm}(h:A1 w sb j v now left e)(s g:Int):A1 (((w.setCell ⟨sb,1,none⟩ (dH dN 4)).setCell ⟨sb,22,none⟩ (dH dN s)).setCell ⟨sb,23,none⟩ (dH dN g)) sb { j with phase:=4,slot:=s,gen:=g } v now left e:=
 ((Blk.set_ h 1 (dH dN 4)).set_ 22 (dH dN s)).set_ 23 (dH dN g)
theorem SI.reg{wb w:World}{sb:Nat}{v:CV}{c:D2}(h:SI wb sb w v c){rv:Bm}{R:CE}(hm:Co w rv R)(hn:CK (fun y=>y=sb∨y<wb.heap.size+3) rv R){gn un fn ln:Nat}{q:Int}(hq:q=R.seq)(hg:R.slots.gens.length=gn)(hu:R.slots.used.length=un)(hf:R.slots.free.length=fn)(hl:R.l.length=ln):
  SI wb sb w { v with r:=rv,gn:=gn,un:=un,fn:=fn,ln:=ln,seq:=q } { c with reg:=R }:=
 ⟨h.kw,h.lo,{ h.m with r:=hm,g:=hg,u:=hu,f:=hf,l:=hl,q:=hq.symm },⟨h.no.o,hn,h.no.d⟩,h.nj⟩
theorem SI.done{wb w:World}{sb:Nat}{v:CV}{c:D2}(h:SI wb sb w v c){a:Option Addr}{n k:Nat}{d:List Mn}(hd:NM w a k d)(hn:d.length=n)(hl:n≤900)(hq:EA (fun y=>y=sb∨y<wb.heap.size+3) a n):SI wb sb w { v with da:=a,dn:=n,dc:=k } { c with done:=d }:=
 ⟨h.kw,h.lo,{ h.m with d:=hd,dn:=hn,dl:=hl },⟨h.no.o,h.no.r,hq⟩,h.nj⟩
theorem Co.stayO{w W':World}{v:Bm}{r:CE}{B:Nat}{S:List Nat}(h:Co w v r)(hn:CK (· < B) v r)(hk:Aa S w W')(hS:∀y∈S,y<B∨w.heap.size≤y):Co W' v r:=
 h.stay (Q:=fun y=>y<B∨w.heap.size≤y) (hn.and2 (h.later (Q:=fun y=>w.heap.size≤y) (fun _ hy=>hy)) (fun _ hy=>hy)) hk hS
theorem NS{W:World}{B n k:Nat}{a:Option Addr}{xs:List Mn}(h:W.ownsRow B 89 3 (dI a n k) n (xs.flatMap D7))(hn:xs.length=n)(hl:n≤900)(hB:B≤W.heap.size){g:Nat}{x:Mn}(hx:AJ D7 3 W (some ⟨g,0,none⟩) 1 [x])(ty:TypeId):
  ∃g' k' w',(Bo #[34,34] ty #[dI a n k,dI (some ⟨g,0,none⟩) 1 1]).run Tryz.prog W = .ok (dI (some ⟨g',0,none⟩) (n+1) k') w'∧w'.ownsRow B 89 3 (dI (some ⟨g',0,none⟩) (n+1) k') (n+1) ((xs++[x]).flatMap D7)∧(∀w0,Aa [] w0 W→w0.heap.size≤B→Aa [] w0 w'):=by
 obtain⟨i0,z,hi1,hi2,hi3,hi4,hi5⟩:=BK GY;subst hn;obtain⟨v',w',h1,h2,h3⟩:=AJ.app (c:=1) Tryz.prog (t:=34) Tryz.underlying34 hi1 hi2 hi3 rfl hi4 bE EE KM h hB hx bG hi5 ty;rw [show(xs++[x]).length=xs.length+1 by simp] at h2;obtain⟨g',k',rfl,hb,hg⟩:=NH h2;exact⟨g',k',w',h1,h2,fun w0 hk hs=>hk.grown h3 (fun y hy=>.inr (As hs (h.lt y hy).1))⟩
theorem Ou:Jw Tryz.prog 34 89 3 (dK #[CZ ⟨#[]⟩,dH dN 0,CZ ⟨#[]⟩]):=⟨by kernel_rfl,by kernel_rfl,by kernel_rfl,fun W=>by kernel_rfl,fun W=>by kernel_rfl,by kernel_rfl,by
 intro u hu;simp only [Value.cells,Ac,Ab,or_false] at hu;rcases hu with rfl | rfl | rfl<;>rfl⟩
theorem Uq{w:World}{B m g k:Nat}{xs:List Mn}(hm:xs.length=m)(hp:0<m)(h:w.ownsRow B 89 3 (dI (some ⟨g,0,none⟩) m k) m (xs.flatMap D7)):
  ∃o rc,(∀W,(AG 34 (dI (some ⟨g,0,none⟩) m k) (some (dH dN ((m - 8:Nat):Int))) none none).run Tryz.prog W = .ok (dI (some ⟨g,o,none⟩) (m - (m - 8)) rc) W)∧NM w (some ⟨g,o,none⟩) rc (EH xs):=by
 have hS:NM w (some ⟨g,0,none⟩) k xs:=AJ.row (xs:=xs) EE (by rw [hm];exact h);have hle:=hS.le;have hne:¬k=m - 8:=by omega
 refine⟨0+(m - 8)*3,k - (m - 8),fun W=>(Ou.s_l W g 0 m k (m - 8) bB bB).trans (by rw [if_neg hne]),?_⟩;unfold EH;rw [hm];refine⟨by rw [Bi];omega,(fun e=>by cases e),fun _=>?_⟩;obtain⟨g',off,e,hg,hat⟩:=hS.at_ bB;injection e with e
 injection e with e1 e2 _
 subst e1;subst e2;refine⟨g,0+(m - 8)*3,rfl,hg,fun i hi j u hj=>?_⟩;rw [List.getElem_drop] at hj;have:=hat (m - 8+i) (by rw [Bi] at hi;omega) j u hj
 rwa [show 0+(m - 8+i)*3+j=0+(m - 8)*3+i*3+j by omega] at this
end
end Go.Proofs.YtcjdkbgdahgjbaaGreatDoor
