/- Steps of the proof: RegJ, RegK, RegN, RegO, RegR. -/
import Derived.Test.YtcjdkbgdahgjbaaGreatDoorK0
import Derived.Test.YtcjdkbgdahgjbaaGreatDoorKaj
import Derived.Test.YtcjdkbgdahgjbaaGreatDoorKak
import Derived.Test.YtcjdkbgdahgjbaaGreatDoorKam
set_option maxRecDepth 100000
set_option maxHeartbeats 8000000
set_option linter.all false
namespace Go.Proofs.YtcjdkbgdahgjbaaGreatDoor
open _root_.Array renaming replicate_succ→Bc,replicate_zero→Bd
open Builtin renaming append_→Bo
open Ending renaming returned→dM
open Instr renaming findNow→AV,lookup→Dx,slice→AG
open IntKind renaming i64→dN
open _root_.List renaming append_assoc→CO,append_toArray→B0,cons_append→A6,eq_nil_of_length_eq_zero→Er,getD_eq_getElem?_getD→AE,getElem?_cons_succ→Al,getElem?_cons_zero→Ah,getElem?_eq_getElem→Au,getElem?_eq_some_iff→Ad,getElem?_toArray→Ai,length_append→Ag,length_cons→Ao,length_drop→Bi,length_nil→Eh,length_range→A8,length_singleton→AW,length_take→A7,mem_cons→Ac,mem_of_getElem?→Ex,nil_append→AX,not_mem_nil→Ab,push_toArray→By,range→A0,size_toArray→Cx,take_of_length_le→Ax
open _root_.Nat renaming add_assoc→CM,add_zero→CG,le_trans→As,lt_of_lt_of_le→AT,min_eq_left→DP,zero_le→Cy
open Value renaming agg→dK,int→dH,pointer→dJ,slice→dI,string→CZ
open World renaming ownsRow_nil→Bz
section
open Go.RowKit Go.Shelf
attribute [local go_sem] Oper.semAt_some
attribute [local go_sem ↓] Go.wp_at_zero Go.wp_at_succ
def CX(l:List TV)(u:TV):List TV:=l.take (l.takeWhile fun x=>decide (x.slot<u.slot)).length++[u]++(match l.drop (l.takeWhile fun x=>decide (x.slot<u.slot)).length with
 | x::m=>if x.slot=u.slot then m else x::m
 | []=>[])
theorem Zb{V:List TV}{s:Int}{k:Nat}(hk:k≤V.length)(h:∀j<k,∀x,V[j]? = some x→x.slot<s)(he:∀x,V[k]? = some x→¬x.slot<s):(V.takeWhile fun x=>decide (x.slot<s)).length=k:=by
 induction V generalizing k with
 | nil=>
  have hk:k≤0:=hk;simp;omega
 | cons y V ih=>
  cases k with
  | zero=>
   have:=he y rfl;simp [this]
  | succ k=>
   have h1:=h 0 bB y rfl;rw [List.takeWhile_cons,if_pos bR,Ao,ih (by simpa using hk) (fun j hj x hx=>h (j+1) bB x Yh) (fun x hx=>he x Yh)]
theorem R9{w:World}(s:Int):∀ {V:List TV} {L:List Ten},AC w V L→(V.takeWhile fun x=>decide (x.slot<s)).length=(L.takeWhile fun x=>decide (x.slot<s)).length
 | [],[],_=>rfl
 | v::V,t::L,h=>by
  rw [List.takeWhile_cons,List.takeWhile_cons,h.1.slot];split
  ·rw [Ao,Ao,R9 s h.2]
  ·rfl
 | [],_::_,h=>h.elim
 | _::_,[],h=>h.elim
theorem Vj{w:World}{V:List TV}{L:List Ten}{u:TV}{t:Ten}(h:AC w V L)(hu:BU w u t):AC w (CX V u) (FD L t):=by
 unfold CX FD;dsimp only;rw [← hu.slot,R9 u.slot h,CO];refine AC.app (AC.take _ h) ?_;have hd:=AC.drop (L.takeWhile fun x=>decide (x.slot<u.slot)).length h;refine⟨hu,?_⟩;generalize V.drop (L.takeWhile fun x=>decide (x.slot<u.slot)).length=A at hd;generalize L.drop (L.takeWhile fun x=>decide (x.slot<u.slot)).length=B at hd;cases A with
 | nil=>
  cases B with
  | nil=>trivial
  | cons b B=>exact hd.elim
 | cons a A=>
  cases B with
  | nil=>exact hd.elim
  | cons b B=>
   dsimp only;rw [hd.1.slot];split
   ·exact hd.2
   ·exact hd
theorem AJ.drop_run{α:Type}{enc:α→List Value}{n:Nat}{t e:TypeId}{z:Value}(hE:Jw Tryz.prog t e n z)(hnil:∀W,(AG t (dI none 0 0) (some (dH dN 0)) none none).run Tryz.prog W = .ok (dI none 0 0) W){w:World}{a:Option Addr}{c:Nat}{xs:List α}(h:AJ enc n w a c xs)(k:Nat)(hk:k≤xs.length):
  ∃ra rc,(∀W,(AG t (dI a xs.length c) (some (dH dN (k:Int))) none none).run Tryz.prog W = .ok (dI ra (xs.length - k) rc) W)∧AJ enc n w ra rc (xs.drop k):=by
 cases a with
 | none=>
  obtain⟨rfl,rfl⟩:=h.isNil;obtain rfl:k=0:=by simpa using hk
  exact⟨none,0,hnil,AJ.none_⟩
 | some p=>
  rcases Nat.eq_zero_or_pos xs.length with h0 | h0
  ·obtain rfl:=Er h0
   obtain rfl:k=0:=by simpa using hk
   have hh:=fun W=>run_slice_l (P:=Tryz.prog) W t (some p) 0 c hE.ht' .i64 0 bB bB;simp only [hE.el,hE.sz] at hh;refine⟨_,c - 0,fun W=>(hh W).trans rfl,⟨by simp,?_,fun h=>by simp at h⟩⟩;intro e;split at e<;>cases e
  ·obtain⟨g,off,e,hg,hat⟩:=h.at_ h0
   injection e with e
   subst e;refine⟨_,c - k,fun W=>hE.s_l W g off xs.length c k hk h.le,⟨by have:=h.le;simp;omega,(fun e=>by cases e),fun hp=>?_⟩⟩;have hkl:k<xs.length:=by simp at hp;omega
   have hck:c≠k:=by have:=h.le;omega
   refine⟨g,off+k*n,by rw [if_neg hck],hg,fun i hi j u hj=>?_⟩;rw [List.getElem_drop] at hj;have:=hat (k+i) (by simp at hi;omega) j u hj
   rwa [show off+(k+i)*n+j=off+k*n+i*n+j by rw [Nat.add_mul];omega] at this
theorem AJ.take_run{α:Type}{enc:α→List Value}{n:Nat}{t e:TypeId}{z:Value}(hE:Jw Tryz.prog t e n z){w:World}{a:Option Addr}{c:Nat}{xs:List α}(h:AJ enc n w a c xs)(k:Nat)(hk:k≤xs.length):
  ∃ta tc,(∀W,(AG t (dI a xs.length c) none (some (dH dN (k:Int))) (some (dH dN (k:Int)))).run Tryz.prog W = .ok (dI ta k tc) W)∧AJ enc n w ta tc (xs.take k):=by
 have hh:=fun W=>run_slice_hm (P:=Tryz.prog) W t a xs.length c hE.ht' .i64 .i64 k k bB bB (by have:=h.le;omega);simp only [hE.el,hE.sz,Result.andThen_ok,Int.toNat_natCast] at hh;cases a with
 | none=>
  obtain⟨rfl,rfl⟩:=h.isNil;obtain rfl:k=0:=by simpa using hk
  exact⟨none,0,fun W=>(hh W).trans rfl,AJ.none_⟩
 | some q=>
  rcases Nat.eq_zero_or_pos xs.length with h0 | h0
  ·obtain rfl:=Er h0
   obtain rfl:k=0:=by simpa using hk
   exact⟨some q,0,fun W=>(hh W).trans (by simp [sliced]),⟨by simp,(fun e=>by cases e),fun h=>by simp at h⟩⟩
  ·obtain⟨g,off,e,hg,hat⟩:=h.at_ h0
   injection e with e
   subst e;refine⟨some ⟨g,off,none⟩,k,fun W=>(hh W).trans (by simp [sliced,Bn]),⟨by simp;omega,(fun e=>by cases e),fun hp=>⟨g,off,rfl,hg,fun i hi j u hj=>?_⟩⟩⟩;rw [List.getElem_take] at hj;exact hat i (by simp at hi;omega) j u hj
theorem JE(w w9:World)(b0 b2:Nat)(x y0 y1 y2 y3 y4:Value):Aa [b0,b2] w9 ((((((w9.setCell ⟨b0,3,none⟩ x).setCell ⟨b2,0,none⟩ y0).setCell ⟨b2,1,none⟩ y1).setCell ⟨b2,2,none⟩ y2).setCell ⟨b2,3,none⟩ y3).setCell ⟨b2,4,none⟩ y4):=
 ((Ae w9 b0 3 x).mono bA).trans ((((((Ae _ b2 0 y0).trans (Ae _ b2 1 y1)).trans (Ae _ b2 2 y2)).trans (Ae _ b2 3 y3)).trans (Ae _ b2 4 y4)).mono bA)
theorem NC{w wz w9 WF:World}{v:Bm}{u:TV}{gn un fn m xc:Nat}{seq:Int}{xa:Option Addr}{M:List TV}(hpv:CX v.lv u=M)(hpl:(CX v.lv u).length=m)(hxs:AJ BM 8 w9 xa xc M)(hkq:Aa [] wz w9)(hz:Aa [] w wz){B:Nat}(hx9:∀g o,xa=some ⟨g,o,none⟩→B≤g)(hB:w.heap.size+1+1<B)(hk:Aa [w.heap.size,w.heap.size+1+1] w9 WF):
  ∃a c,dM (dK #[dI v.s.ga gn v.s.gc,dI v.s.ua un v.s.uc,dI v.s.fa fn v.s.fc,dI xa (m) xc,dH dN seq]) = dM (dK #[dI v.s.ga gn v.s.gc,dI v.s.ua un v.s.uc,dI v.s.fa fn v.s.fc,dI a (CX v.lv u).length c,dH dN seq])∧AJ BM 8 WF a c (CX v.lv u)∧Cp w.heap.size a∧Aa [] w WF:=by
 rw [hpl,hpv];refine⟨xa,xc,rfl,AJ.keepsS hxs hk (fun g o e hm=>?_),fun g o e=>by have:=hx9 g o e;omega,(hz.trans hkq).own hk (fun y hy=>?_)⟩
 ·have:=hx9 g o e
  simp only [Ac,Ab,or_false] at hm;omega
 ·simp only [Ac,Ab,or_false] at hy
  omega
theorem NB(v:Bm)(gn un fn ln:Nat)(hln:v.lv.length=ln)(h1000:ln≤1000)(seq:Int)(u:TV)(w:World)(hl:AJ BM 8 w v.la v.lc v.lv):
  Calls Tryz.prog 81 #[dK (R_ v gn un fn ln seq),dK (T_ u)] w fun e w'=>∃a c,e = dM (dK #[dI v.s.ga gn v.s.gc,dI v.s.ua un v.s.uc,dI v.s.fa fn v.s.fc,dI a (CX v.lv u).length c,dH dN seq])∧AJ BM 8 w' a c (CX v.lv u)∧Cp w.heap.size a∧Aa [] w w':=by
 obtain⟨wz,hwz⟩:=eX (((w.alloc (.cells (R_ v gn un fn ln seq) 29)).alloc (.cells (T_ u) 124)).alloc (.cells LU.k 29));have hz:Aa [] w wz:=by rw [← hwz];exact(((Aa.refl [] w).alloc _).alloc _).alloc _
 have HB0:Hid (Blk wz w.heap.size 29 (R_ v gn un fn ln seq)):=lH (by rw [← hwz];exact((Blk.new w _ _).alloc _).alloc _);have HB1:Hid (Blk wz (w.heap.size+1) 124 (T_ u)):=lH Y6;have HB2:Hid (Blk wz (w.heap.size+1+1) 29 LU.k):=lH Xe;have HL:=lH (hl.keeps hz);have HZ:=lH hz;have HLN:=lH hln;clear hl hz hln;go_enter Tryz.func81,Tryz.ntmps81;go_wp2;clear hwz;go_loopw [5] (fun i wr=>∃k:Nat,i = dH dN k∧k≤ln∧Hid (∀j<k,∀x,v.lv[j]? = some x→x.slot<u.slot)∧Hid (Aa [] wz wr)) (fun i _=>ln - (intOf i).toNat)
 case atStart=>exact⟨0,rfl,Cy _,lH (fun j hj=>by omega),lH (Aa.refl _ _)⟩
 case round=>
  obtain⟨k,rfl,hk,HP,HK⟩:=hrel;have d3:=(HB0.out.keeps HK.out bA).ce 3;have e0:=(HB1.out.keeps HK.out bA).ce 0;have hgo:(∃x,v.lv[k]? = some x∧x.slot<u.slot)∨(∀x,v.lv[k]? = some x→¬x.slot<u.slot):=by
   cases hx:v.lv[k]? with
   | none=>exact .inr (fun x hx=>by cases hx)
   | some y=>
    by_cases hy:y.slot<u.slot
    ·exact .inl ⟨y,rfl,hy⟩
    ·exact .inr (fun x hx=>by injection hx with hx;rw [← hx];exact hy)
  rcases hgo with⟨x,hx,hlt⟩ | hno
  ·have hkl:k<ln:=by rw [← HLN.out];exact(Ad.1 hx).1
   obtain⟨g,off,x',ha,hg,hx',hat⟩:=(HL.out.keeps HK.out).at_k (k:=k) (by rw [HLN.out];exact hkl);rw [hx] at hx';injection hx' with hx'
   subst hx';have q0:=hat 0 _ rfl;rw [CG] at q0;rw [ha] at d3;have i1:(0:Int)≤(k:Int):=by omega
   have i2:(k:Int)<(ln:Int):=by omega
   have HP2:Hid (∀j<k+1,∀x,v.lv[j]? = some x→x.slot<u.slot):=lH (fun j hj y hy=>by
    rcases Nat.lt_or_ge j k with h | h
    ·exact HP.out j h y hy
    ·obtain rfl:j=k:=by omega
     rw [hx] at hy;injection hy with hy
     rw [← hy];exact hlt)
   clear hat hg hx ha;go_wp2;go_quiet (fail);go_wp2;go_roundw;case rel=>exact⟨k+1,by go_num,by omega,HP2,lH (HK.out.drewN _)⟩
   case measure=>simp [intOf];omega
  ·have htw:(v.lv.takeWhile fun x=>decide (x.slot<u.slot)).length=k:=Zb (by rw [HLN.out];exact hk) HP.out hno
   have HTW:=lH htw;clear htw;obtain⟨ra,rc,hr4,hrs⟩:=AJ.drop_run CT (fun W=>by kernel_rfl) (HL.out.keeps HK.out) k (by rw [HLN.out];exact hk);obtain⟨ta,tc,hr7,hts⟩:=AJ.take_run CT (HL.out.keeps HK.out) k (by rw [HLN.out];exact hk);rw [HLN.out] at hr4 hr7;have HRS:=lH hrs;have HTS:=lH hts;by_cases hkl:k<ln
   ·obtain⟨g,off,x,ha,hg,hx,hat⟩:=(HL.out.keeps HK.out).at_k (k:=k) (by rw [HLN.out];exact hkl)
    have hns:=hno x hx;have q0:=hat 0 _ rfl;rw [CG] at q0;obtain⟨g2,off2,x2,ha2,hg2,hx2,hat2⟩:=hrs.at_k (k:=0) (by rw [Bi,HLN.out];omega);have q2:=hat2 0 _ rfl;simp only [CG,Nat.zero_mul] at q2;have hxx:x2=x:=by
     rw [List.getElem?_drop,CG,hx] at hx2;injection hx2 with hx2
     exact hx2.symm
    subst hxx;subst ha2;rw [ha] at d3 hr4 hr7;have i1:(0:Int)≤(k:Int):=by omega
    have i2:(k:Int)<(ln:Int):=by omega
    have i3:(0:Int)<((ln - k:Nat):Int):=by omega
    have i4:decide (x2.slot<u.slot)=false:=decide_eq_false hns;have HX:=lH hx;clear hat hat2 hg hg2 hx hx2 hrs hts hns;have HDR:Hid (v.lv.drop k=x2::v.lv.drop (k+1)):=lH (by
     have hl:=(Ad.1 HX.out);obtain⟨h1,h2⟩:=hl;rw [List.drop_eq_getElem_cons h1,h2])
    have i5:(0:Int)<((ln:Int) - (k:Int)):=by omega
    by_cases hq:x2.slot=u.slot
    ·have f7:(x2.slot==u.slot)=true:=by simpa using hq
     obtain⟨rb,rd,hr6,hr6s⟩:=AJ.drop_run CT (fun W=>by kernel_rfl) HRS.out 1 (by rw [Bi,HLN.out];omega);rw [Bi,HLN.out] at hr6;obtain⟨nr,hnr⟩:=eX (ln - k - 1);obtain⟨nk,hnk⟩:=eX (ln - k);rw [hnr] at hr6;rw [hnk] at hr6 hr4 i3;have HR6:Hid (AJ BM 8 wr rb rd (v.lv.drop (k+1))):=lH (by rw [List.drop_drop] at hr6s;exact hr6s);have HNR:=lH hnr;have HNK:=lH hnk;have i3n:0<nk:=by omega
     have i3d:decide (0<nk)=true:=decide_eq_true i3n;have i3e:decide ((0:Int)<(nk:Int))=true:=decide_eq_true i3;have i3f:((1:Int)≤(nk:Int)):=by omega
     have i3g:1≤nk:=i3n;clear hr6s hnr hnk;have hr6':∀W,(AG 27 (dI (some ⟨g2,off2,none⟩) nk rc) (some (dH dN 1)) none none).run Tryz.prog W = .ok (dI rb nr rd) W:=fun W=>hr6 W;clear hr6;go_wp2;go_quiet (fail);go_wp2_with (fail);go_quiet (fail);go_upto_region 7 with(fail)
     have TB:=lH ((HB1.out.keeps HK.out bA));have b0:=TB.out.ce 0;have b1:=TB.out.ce 1;have b2:=TB.out.ce 2;have b3:=TB.out.ce 3;have b4:=TB.out.ce 4;have b5:=TB.out.ce 5;have b6:=TB.out.ce 6;have b7:=TB.out.ce 7;have d3n:∀n,((wr.drewN n).alloc (.cells (T_ u) 124)).cell? ⟨w,3,none⟩=some (dI (some ⟨g,off,none⟩) ln v.lc):=fun n=>DX (w:=wr.drewN n) d3 _;have KC:∀n,Aa [] wr (((wr.drewN n).alloc (.cells (T_ u) 124)).alloc (.cells #[dI ta k tc,dI (some ⟨wr,0,none⟩) 1 1,dI rb nr rd] 27)):=fun n=>(((Aa.refl [] wr).drewN n).alloc _).alloc _;have HTL:Hid ((v.lv.take k).length=k):=lH (by rw [A7,HLN.out,DP bB]);have HDL:Hid ((v.lv.drop (k+1)).length=nr):=lH (by rw [Bi,HLN.out];have:=HNR.out;omega);have HNRL:Hid (nr≤1000):=lH (by have h1:=HNR.out;omega);have hszr:w.heap.size+1+1<wr.heap.size:=AT HB2.out.lt HK.out.size;have HPV:Hid (CX v.lv u=v.lv.take k++[u]++v.lv.drop (k+1)):=lH (by
      unfold CX;rw [HTW.out,HDR.out];dsimp only;rw [if_pos hq])
     have HPL:Hid ((CX v.lv u).length=k+1+nr):=lH (by
      rw [HPV.out,Ag,Ag,HTL.out,HDL.out];rfl)
     refine wp_region_held_drew (S:=(fun _:World=>True)) bC trivial (fun hHeld=>?_)
     repeat' (first | exact rZ | refine rX ?_ | ((first | (refine rA 1 (fun K hK=>?_) ?_;go_simp) | (refine rA 5 (fun K hK=>?_) ?_;go_simp) | (refine rA 6 (fun K hK=>?_) ?_;go_simp) | (refine rA 8 (fun K hK=>?_) ?_;go_simp) | (refine rA 9 (fun K hK=>?_) ?_;go_simp;(refine(Iw (wr.heap.size+1) 27 ta (some ⟨wr,0,none⟩) rb tc 1 rd k 1 nr (v.lv.take k) [u] (v.lv.drop (k+1)) HTL.out rfl HDL.out bB (by have:=HNRL.out;omega) _ (Aq _ _ _ _ bA) (HTS.out.keeps (KC _)) (AJ.of_cells CU (Blk.alloc (Aq _ 124 (T_ u) wr.heap.size bA) _) bA (by simp [BM])) (HR6.out.keeps (KC _))).mono ?_;rintro e w9 ⟨xa,xc,rfl,hxs,hk9,hx9⟩;have hkq:Aa [] wz w9:=(HK.out.trans (KC _)).trans hk9;have hx9:∀g o,xa=some ⟨g,o,none⟩→wr.heap.size≤g:=(fun g o e=>by(have:=hx9 g o e;simp at this;omega));have e3:=(HB0.out.keeps hkq bA).cell 3;have f3:=(HB0.out.keeps hkq bA).frozen 3;simp only [Ai,Ah,Al] at e3)) | (refine rA 11 (fun K hK=>?_) ?_;go_simp));refine rO hK trivial fun hHeld=>?_;clear hK K) | (refine rQ 0 ?_;refine rQ 2 ?_;refine rQ 3 ?_;refine rQ 7 ?_) | (refine rQ 4 ?_) | (refine rQ 10 ?_) | refine rB [1,5,6,8,9,11] ?_ | (refine wpAnyH_done bC ?_ _;(have g0:=(HB0.out.keeps hkq bA).cell 0;have g1:=(HB0.out.keeps hkq bA).cell 1;have g2:=(HB0.out.keeps hkq bA).cell 2;have g4:=(HB0.out.keeps hkq bA).cell 4;have z0:=(HB2.out.keeps hkq bA).cell 0;have z1:=(HB2.out.keeps hkq bA).cell 1;have z2:=(HB2.out.keeps hkq bA).cell 2;have z3:=(HB2.out.keeps hkq bA).cell 3;have z4:=(HB2.out.keeps hkq bA).cell 4;have y0:=(HB2.out.keeps hkq bA).frozen 0;have y1:=(HB2.out.keeps hkq bA).frozen 1;have y2:=(HB2.out.keeps hkq bA).frozen 2;have y3:=(HB2.out.keeps hkq bA).frozen 3;have y4:=(HB2.out.keeps hkq bA).frozen 4;simp only [Ai,Ah,Al] at g0 g1 g2 g4 z0 z1 z2 z3 z4;go_wp2_with (fail);exact bodyPost_ret (v:=dK #[dI v.s.ga gn v.s.gc,dI v.s.ua un v.s.uc,dI v.s.fa fn v.s.fc,dI xa (k+1+nr) xc,dH dN seq]) (by simp [results,Tryz.results81,go_sem,z0,z1,z2,z3,z4]) rfl (NC HPV.out HPL.out hxs hkq HZ.out hx9 hszr (JE w w9 _ _ _ _ _ _ _ _)))))
    ·have f7:(x2.slot==u.slot)=false:=by simpa using hq
     obtain⟨nk,hnk⟩:=eX (ln - k);rw [hnk] at hr4 i3;have HNK:=lH hnk;have i3n:0<nk:=by omega
     have i3g:1≤nk:=i3n;clear hnk;go_wp2;go_quiet (fail);go_wp2_with (fail);go_quiet (fail);go_upto_region 7 with(fail)
     have TB:=lH ((HB1.out.keeps HK.out bA));have b0:=TB.out.ce 0;have b1:=TB.out.ce 1;have b2:=TB.out.ce 2;have b3:=TB.out.ce 3;have b4:=TB.out.ce 4;have b5:=TB.out.ce 5;have b6:=TB.out.ce 6;have b7:=TB.out.ce 7;have d3n:∀n,((wr.drewN n).alloc (.cells (T_ u) 124)).cell? ⟨w,3,none⟩=some (dI (some ⟨g,off,none⟩) ln v.lc):=fun n=>DX (w:=wr.drewN n) d3 _;have KC:∀n,Aa [] wr (((wr.drewN n).alloc (.cells (T_ u) 124)).alloc (.cells #[dI ta k tc,dI (some ⟨wr,0,none⟩) 1 1,dI (some ⟨g2,off2,none⟩) nk rc] 27)):=fun n=>(((Aa.refl [] wr).drewN n).alloc _).alloc _;have HTL:Hid ((v.lv.take k).length=k):=lH (by rw [A7,HLN.out,DP bB]);have HDL:Hid ((v.lv.drop k).length=nk):=lH (by rw [Bi,HLN.out];have:=HNK.out;omega);have HNRL:Hid (nk≤1000):=lH (by have h1:=HNK.out;omega);have hszr:w.heap.size+1+1<wr.heap.size:=AT HB2.out.lt HK.out.size;have HPV:Hid (CX v.lv u=v.lv.take k++[u]++v.lv.drop k):=lH (by
      unfold CX;rw [HTW.out,HDR.out];dsimp only;rw [if_neg hq])
     have HPL:Hid ((CX v.lv u).length=k+1+nk):=lH (by
      rw [HPV.out,Ag,Ag,HTL.out,HDL.out];rfl)
     refine wp_region_held_drew (S:=(fun _:World=>True)) bC trivial (fun hHeld=>?_)
     repeat' (first | exact rZ | refine rX ?_ | ((first | (refine rA 1 (fun K hK=>?_) ?_;go_simp) | (refine rA 5 (fun K hK=>?_) ?_;go_simp) | (refine rA 6 (fun K hK=>?_) ?_;go_simp) | (refine rA 8 (fun K hK=>?_) ?_;go_simp) | (refine rA 9 (fun K hK=>?_) ?_;go_simp;(refine(Iw (wr.heap.size+1) 27 ta (some ⟨wr,0,none⟩) (some ⟨g2,off2,none⟩) tc 1 rc k 1 nk (v.lv.take k) [u] (v.lv.drop k) HTL.out rfl HDL.out bB (by have:=HNRL.out;omega) _ (Aq _ _ _ _ bA) (HTS.out.keeps (KC _)) (AJ.of_cells CU (Blk.alloc (Aq _ 124 (T_ u) wr.heap.size bA) _) bA (by simp [BM])) (HRS.out.keeps (KC _))).mono ?_;rintro e w9 ⟨xa,xc,rfl,hxs,hk9,hx9⟩;have hkq:Aa [] wz w9:=(HK.out.trans (KC _)).trans hk9;have hx9:∀g o,xa=some ⟨g,o,none⟩→wr.heap.size≤g:=(fun g o e=>by(have:=hx9 g o e;simp at this;omega));have e3:=(HB0.out.keeps hkq bA).cell 3;have f3:=(HB0.out.keeps hkq bA).frozen 3;simp only [Ai,Ah,Al] at e3)) | (refine rA 11 (fun K hK=>?_) ?_;go_simp));refine rO hK trivial fun hHeld=>?_;clear hK K) | (refine rQ 0 ?_;refine rQ 2 ?_;refine rQ 3 ?_;refine rQ 7 ?_) | (refine rQ 4 ?_) | (refine rQ 10 ?_) | refine rB [1,5,6,8,9,11] ?_ | (refine wpAnyH_done bC ?_ _;(have g0:=(HB0.out.keeps hkq bA).cell 0;have g1:=(HB0.out.keeps hkq bA).cell 1;have g2:=(HB0.out.keeps hkq bA).cell 2;have g4:=(HB0.out.keeps hkq bA).cell 4;have z0:=(HB2.out.keeps hkq bA).cell 0;have z1:=(HB2.out.keeps hkq bA).cell 1;have z2:=(HB2.out.keeps hkq bA).cell 2;have z3:=(HB2.out.keeps hkq bA).cell 3;have z4:=(HB2.out.keeps hkq bA).cell 4;have y0:=(HB2.out.keeps hkq bA).frozen 0;have y1:=(HB2.out.keeps hkq bA).frozen 1;have y2:=(HB2.out.keeps hkq bA).frozen 2;have y3:=(HB2.out.keeps hkq bA).frozen 3;have y4:=(HB2.out.keeps hkq bA).frozen 4;simp only [Ai,Ah,Al] at g0 g1 g2 g4 z0 z1 z2 z3 z4;go_wp2_with (fail);exact bodyPost_ret (v:=dK #[dI v.s.ga gn v.s.gc,dI v.s.ua un v.s.uc,dI v.s.fa fn v.s.fc,dI xa (k+1+nk) xc,dH dN seq]) (by simp [results,Tryz.results81,go_sem,z0,z1,z2,z3,z4]) rfl (NC HPV.out HPL.out hxs hkq HZ.out hx9 hszr (JE w w9 _ _ _ _ _ _ _ _)))))
   ·obtain rfl:k=ln:=by omega
    have hz0:k - k=0:=by omega
    rw [hz0] at hr4;have i2:¬(k:Int)<(k:Int):=by omega
    clear hrs hts hno hkl hz0;go_wp2;go_quiet (fail);go_wp2_with (fail);go_quiet (fail);go_upto_region 7 with(fail)
    have TB:=lH ((HB1.out.keeps HK.out bA));have b0:=TB.out.ce 0;have b1:=TB.out.ce 1;have b2:=TB.out.ce 2;have b3:=TB.out.ce 3;have b4:=TB.out.ce 4;have b5:=TB.out.ce 5;have b6:=TB.out.ce 6;have b7:=TB.out.ce 7;have d3n:∀n,((wr.drewN n).alloc (.cells (T_ u) 124)).cell? ⟨w,3,none⟩=some (dI v.la k v.lc):=fun n=>DX (w:=wr.drewN n) d3 _;have KC:∀n,Aa [] wr (((wr.drewN n).alloc (.cells (T_ u) 124)).alloc (.cells #[dI ta k tc,dI (some ⟨wr,0,none⟩) 1 1,dI ra 0 rc] 27)):=fun n=>(((Aa.refl [] wr).drewN n).alloc _).alloc _;have HTL:Hid ((v.lv.take k).length=k):=lH (by rw [A7,HLN.out,Nat.min_self]);have hszr:w.heap.size+1+1<wr.heap.size:=AT HB2.out.lt HK.out.size;have HPV:Hid (CX v.lv u=v.lv.take k++[u]++v.lv.drop k):=lH (by
     unfold CX;rw [HTW.out,List.drop_of_length_le Zv])
    have HPL:Hid ((CX v.lv u).length=k+1):=lH (by
     rw [HPV.out,Ag,Ag,A7,Bi,HLN.out];simp)
    have HDL:Hid ((v.lv.drop k).length=0):=lH (by rw [Bi,HLN.out,Nat.sub_self]);refine wp_region_held_drew (S:=(fun _:World=>True)) bC trivial (fun hHeld=>?_)
    repeat' (first | exact rZ | refine rX ?_ | ((first | (refine rA 1 (fun K hK=>?_) ?_;go_simp) | (refine rA 5 (fun K hK=>?_) ?_;go_simp) | (refine rA 6 (fun K hK=>?_) ?_;go_simp) | (refine rA 8 (fun K hK=>?_) ?_;go_simp) | (refine rA 9 (fun K hK=>?_) ?_;go_simp;(refine(Iw (wr.heap.size+1) 27 ta (some ⟨wr,0,none⟩) ra tc 1 rc k 1 0 (v.lv.take k) [u] (v.lv.drop k) HTL.out rfl HDL.out bB bB _ (Aq _ _ _ _ bA) (HTS.out.keeps (KC _)) (AJ.of_cells CU (Blk.alloc (Aq _ 124 (T_ u) wr.heap.size bA) _) bA (by simp [BM])) (HRS.out.keeps (KC _))).mono ?_;rintro e w9 ⟨xa,xc,rfl,hxs,hk9,hx9⟩;have hkq:Aa [] wz w9:=(HK.out.trans (KC _)).trans hk9;have hx9:∀g o,xa=some ⟨g,o,none⟩→wr.heap.size≤g:=(fun g o e=>by(have:=hx9 g o e;simp at this;omega));have e3:=(HB0.out.keeps hkq bA).cell 3;have f3:=(HB0.out.keeps hkq bA).frozen 3;simp only [Ai,Ah,Al] at e3)) | (refine rA 11 (fun K hK=>?_) ?_;go_simp));refine rO hK trivial fun hHeld=>?_;clear hK K) | (refine rQ 0 ?_;refine rQ 2 ?_;refine rQ 3 ?_;refine rQ 7 ?_) | (refine rQ 4 ?_) | (refine rQ 10 ?_) | refine rB [1,5,6,8,9,11] ?_ | (refine wpAnyH_done bC ?_ _;(have g0:=(HB0.out.keeps hkq bA).cell 0;have g1:=(HB0.out.keeps hkq bA).cell 1;have g2:=(HB0.out.keeps hkq bA).cell 2;have g4:=(HB0.out.keeps hkq bA).cell 4;have z0:=(HB2.out.keeps hkq bA).cell 0;have z1:=(HB2.out.keeps hkq bA).cell 1;have z2:=(HB2.out.keeps hkq bA).cell 2;have z3:=(HB2.out.keeps hkq bA).cell 3;have z4:=(HB2.out.keeps hkq bA).cell 4;have y0:=(HB2.out.keeps hkq bA).frozen 0;have y1:=(HB2.out.keeps hkq bA).frozen 1;have y2:=(HB2.out.keeps hkq bA).frozen 2;have y3:=(HB2.out.keeps hkq bA).frozen 3;have y4:=(HB2.out.keeps hkq bA).frozen 4;simp only [Ai,Ah,Al] at g0 g1 g2 g4 z0 z1 z2 z3 z4;go_wp2_with (fail);exact bodyPost_ret (v:=dK #[dI v.s.ga gn v.s.gc,dI v.s.ua un v.s.uc,dI v.s.fa fn v.s.fc,dI xa (k+1) xc,dH dN seq]) (by simp [results,Tryz.results81,go_sem,z0,z1,z2,z3,z4]) rfl (NC HPV.out HPL.out hxs hkq HZ.out hx9 hszr (JE w w9 _ _ _ _ _ _ _ _)))))
theorem Blk.put5{w:World}{g:Nat}{t:TypeId}{x0 x1 x2 x3 x4:Value}(h:Blk w g t #[x0,x1,x2,x3,x4])(a b c d e:Value):Blk (((((w.setCell ⟨g,0,none⟩ a).setCell ⟨g,1,none⟩ b).setCell ⟨g,2,none⟩ c).setCell ⟨g,3,none⟩ d).setCell ⟨g,4,none⟩ e) g t #[a,b,c,d,e]:=((((h.set_ 0 a).set_ 1 b).set_ 2 c).set_ 3 d).set_ 4 e
theorem F3(w:World)(g:Nat)(a b c d e:Value):Aa [g] w (((((w.setCell ⟨g,0,none⟩ a).setCell ⟨g,1,none⟩ b).setCell ⟨g,2,none⟩ c).setCell ⟨g,3,none⟩ d).setCell ⟨g,4,none⟩ e):=((((Ae w g 0 a).trans (Ae _ g 1 b)).trans (Ae _ g 2 c)).trans (Ae _ g 3 d)).trans (Ae _ g 4 e)
structure GA(B:Nat)(v:Bm):Prop where
 s:GV B v.s
 l:Cp B v.la
 t:∀u∈v.lv,K2 B u
theorem GV.mono{B B':Nat}{v:D3}(h:GV B v)(hb:B'≤B):GV B' v:=⟨Cp.mono h.1 hb,Cp.mono h.2.1 hb,Cp.mono h.2.2 hb⟩
theorem GA.mono{B B':Nat}{v:Bm}(h:GA B v)(hb:B'≤B):GA B' v:=⟨h.s.mono hb,h.l.mono hb,fun u hu=>(h.t u hu).mono hb⟩
theorem BU.ge{w w':World}{u:TV}{t:Ten}{B:Nat}{S:List Nat}(h:BU w u t)(hg:K2 B u)(hk:Aa S w w')(hS:∀y∈S,y<B):BU w' u t:=h.keepsS hk (Cp.out hg.1 hS) (Cp.out hg.2 hS)
theorem AC.ge{w w':World}{B:Nat}{S:List Nat}(hk:Aa S w w')(hS:∀y∈S,y<B):∀ {V:List TV} {L:List Ten},AC w V L→(∀u∈V,K2 B u)→AC w' V L
 | [],[],_,_=>trivial
 | _::_,_::_,h,hg=>⟨h.1.ge (hg _ bA) hk hS,AC.ge hk hS h.2 (fun u hu=>hg u (by simp [hu]))⟩
 | [],_::_,h,_=>h.elim
 | _::_,[],h,_=>h.elim
theorem Dp.ge{w w':World}{v:D3}{s:Ff}{B:Nat}{S:List Nat}(h:Dp w v s)(hg:GV B v)(hk:Aa S w w')(hS:∀y∈S,y<B):Dp w' v s:=h.keepsS hk (Cp.out hg.1 hS) (Cp.out hg.2.1 hS) (Cp.out hg.2.2 hS)
theorem Co.ge{w w':World}{v:Bm}{r:CE}{B:Nat}{S:List Nat}(h:Co w v r)(hg:GA B v)(hk:Aa S w w')(hS:∀y∈S,y<B):Co w' v r:=
 { h with s:=h.s.ge hg.s hk hS,l:=h.l.keepsS hk (Cp.out hg.l hS),t:=AC.ge hk hS h.t hg.t }
theorem U6(n:Int)(w:World):Calls Tryz.prog 77 #[dH dN n] w fun e w'=>∃v gn un fn,e = dM (.tuple #[dK #[dI v.ga gn v.gc,dI v.ua un v.uc,dI v.fa fn v.fc,dI none 0 0,dH dN 0],dH dN (GQ n).2])∧(GQ n).1.gens.length=gn∧(GQ n).1.used.length=un∧(GQ n).1.free.length=fn∧Dp w' v (GQ n).1∧GV w.heap.size v∧Aa [] w w':=by
 obtain⟨wz,hwz⟩:=eX (w.alloc (.cells LU.k 29));have HZ:Hid (Aa [] w wz):=lH Y7;have HSZ:Hid (wz.heap.size=w.heap.size+1):=lH X4;have HB:Hid (Blk wz w.heap.size 29 LU.k):=lH aD;go_enter Tryz.func77,Tryz.ntmps77;go_wp2_with (fail);clear hwz;refine(Wa n wz).mono ?_;rintro e w1 ⟨x,rfl,⟨v,gn,un,fn,rfl,h1,h2,h3,hm,hge⟩,hk⟩;obtain⟨wa,hwa⟩:=eX (w1.alloc (.cells (S_ v gn un fn) 26));have hka:Aa [] w1 wa:=by rw [← hwa];exact(Aa.refl [] w1).alloc _
 have hb:=HB.out.keeps (hk.trans hka) bA;have hs:Blk wa w1.heap.size 26 (S_ v gn un fn):=by rw [← hwa];exact Blk.new w1 _ _
 have z:=hb.cell;have y:=hb.frozen;have s:=hs.cell;have HFIN:Hid (∀WF,Aa [w.heap.size] wa WF→Dp WF v (GQ n).1∧GV w.heap.size v∧Aa [] w WF):=lH fun WF hkf=>by
  have hx:=(HZ.out.trans hk).trans hka;have hsz:=HSZ.out;exact⟨(hm.keeps hka).ge hge hkf bF,hge.mono bB,hx.own hkf bF⟩
 clear hm hk hge hka hb hs;go_wp2_with (fail);refine bodyPost_ret (v:=.tuple #[dK #[dI v.ga gn v.gc,dI v.ua un v.uc,dI v.fa fn v.fc,dI none 0 0,dH dN 0],dH dN (GQ n).2]) (by simp [results,Tryz.results77,go_sem,z]) rfl ⟨v,gn,un,fn,rfl,h1,h2,h3,HFIN.out _ bJ⟩
theorem Fo{w:World}{B k n c sz:Nat}{e:TypeId}{a:Option Addr}{xs:List Value}(h:w.ownsRow B e sz (dI a n c) k xs):Cp B a:=fun g o e=>(h.lt g (by rw [e];rfl)).1
theorem VI(u:TV)(t:Ten)(seq:Int)(w:World)(ht:BU w u t)(hr:u.rl≤1000)(hc:u.cl≤1000):
  Calls Tryz.prog 138 #[dK (U_ u seq)] w fun e w'=>∃ra rc ca cc,e = dM (dK #[dH dN u.slot,dH dN u.gen,CZ u.name,dH dN u.state,dH dN u.version,dI ra u.rl rc,dI ca u.cl cc,dH dN u.deadline])∧w'.ownsRow w.heap.size 59 5 (dI ra u.rl rc) u.rl (t.rules.flatMap B7)∧w'.ownsRow w.heap.size 233 4 (dI ca u.cl cc) u.cl (t.creds.flatMap CH)∧Aa [] w w':=by
 obtain⟨wz,hwz⟩:=eX ((w.alloc (.cells (U_ u seq) 126)).alloc (.cells Mr.k 124));have hz:Aa [] w wz:=by rw [← hwz];exact((Aa.refl [] w).alloc _).alloc _
 have HB0:Hid (Blk wz w.heap.size 126 (U_ u seq)):=lH ZW;have HB1:Hid (Blk wz (w.heap.size+1) 124 Mr.k):=lH Xe;have HSZ:Hid (wz.heap.size=w.heap.size+1+1):=lH X4;have HR:=lH (fun W (hk:Aa [] wz W)=>IR u.ra u.rc t.rules u.rl ht.rl bB W (ht.rs.keeps (hz.trans hk)));have HC:=lH (fun W (hk:Aa [] wz W)=>Ue u.ca u.cc t.creds u.cl ht.cl bB W (ht.cs.keeps (hz.trans hk)));have HZ:=lH hz;have HRL:=lH ht.rl;have HCL:=lH ht.cl;have b:=HB0.out.cell;have HFIN:Hid (∀(w2 WF:World) (ra ca:Option Addr) (rc cc:Nat),w2.ownsRow wz.heap.size 59 5 (dI ra u.rl rc) u.rl (t.rules.flatMap B7)→w2.ownsRow wz.heap.size 233 4 (dI ca u.cl cc) u.cl (t.creds.flatMap CH)→Aa [] wz w2→Aa [w.heap.size,w.heap.size+1] w2 WF→
   ∃a c b d,dM (dK #[dH dN u.slot,dH dN u.gen,CZ u.name,dH dN u.state,dH dN u.version,dI ra u.rl rc,dI ca u.cl cc,dH dN u.deadline]) = dM (dK #[dH dN u.slot,dH dN u.gen,CZ u.name,dH dN u.state,dH dN u.version,dI a u.rl c,dI b u.cl d,dH dN u.deadline])∧WF.ownsRow w.heap.size 59 5 (dI a u.rl c) u.rl (t.rules.flatMap B7)∧WF.ownsRow w.heap.size 233 4 (dI b u.cl d) u.cl (t.creds.flatMap CH)∧Aa [] w WF):=lH fun w2 WF ra ca rc cc h1 h2 h5 h6=>by
  have hs:=HSZ.out;have hS:∀y∈[w.heap.size,w.heap.size+1],y<wz.heap.size:=fun y hy=>by simp only [Ac,Ab,or_false] at hy;omega
  have hn:∀y,wz.heap.size≤y→y∉[w.heap.size,w.heap.size+1]:=fun y hy hm=>by have:=hS y hm;omega
  exact⟨ra,rc,ca,cc,rfl,Bg (Ak h1 h6 (fun g hg=>hn g (h1.lt g hg).1)) bB,Bg (Ak h2 h6 (fun g hg=>hn g (h2.lt g hg).1)) bB,(hz.trans h5).own h6 bF⟩
 clear hz ht hr hc;go_enter Tryz.func138,Tryz.ntmps138;go_wp2;clear hwz;refine wp_region_held_drew (S:=(fun W:World=>True)) bC trivial (fun hHeld=>?_)
 repeat' (first | exact rZ | refine rX ?_ | ((first | (refine rA 2 (fun K hK=>?_) ?_;go_simp) | (refine rA 3 (fun K hK=>?_) ?_;go_simp;(refine(HR.out _ ((Aa.refl [] wz).drew)).mono ?_;rintro e w1 ⟨ra,rc,rfl,hrs,hro,hrk⟩;have hk1:Aa [] wz w1:=((Aa.refl [] wz).drew).trans hrk;have c:=(HB0.out.keeps hk1 bA).cell)) | (refine rA 6 (fun K hK=>?_) ?_;go_simp) | (refine rA 7 (fun K hK=>?_) ?_;go_simp;(refine(HC.out _ hk1).mono ?_;rintro e w2 ⟨ca,cc,rfl,hcs,hco,hck⟩;have hk2:Aa [] wz w2:=hk1.trans hck;have f:=(HB0.out.keeps hk2 bA).frozen;have d:=(HB0.out.keeps hk2 bA).cell)) | (refine rA 10 (fun K hK=>?_) ?_;go_simp) | (refine rA 13 (fun K hK=>?_) ?_;go_simp));refine rO hK trivial fun hHeld=>?_;clear hK K) | (refine rQ 0 ?_;refine rQ 1 ?_;refine rQ 4 ?_;refine rQ 5 ?_) | (refine rQ 8 ?_;refine rQ 9 ?_) | (refine rQ 11 ?_;refine rQ 12 ?_) | refine rB [2,3,6,7,10,13] ?_ | (refine wpAnyH_done bC ?_ _;(have x:=(HB1.out.keeps hk2 bA).cell;have y:=(HB1.out.keeps hk2 bA).frozen;go_wp2_with (fail);exact bodyPost_ret (v:=dK #[dH dN u.slot,dH dN u.gen,CZ u.name,dH dN u.state,dH dN u.version,dI ra u.rl rc,dI ca u.cl cc,dH dN u.deadline]) (by simp [results,Tryz.results138,go_sem,x]) rfl (HFIN.out w2 _ ra ca rc cc (Ak hro hck (fun g hg=>by simp)) (Bg hco hk1.size) hk2 bJ))))
structure PH(w:World)(B:Nat)(v:TV)(t:Ten):Prop where
 m:BU w v t
 r:w.ownsRow B 59 5 (dI v.ra v.rl v.rc) v.rl (t.rules.flatMap B7)
 c:w.ownsRow B 233 4 (dI v.ca v.cl v.cc) v.cl (t.creds.flatMap CH)
def E6(w:World)(B:Nat):List TV→List Ten→Prop
 | [],[]=>True
 | v::V,t::L=>PH w B v t∧E6 w B V L
 | _,_=>False
def T8(w:World)(B:Nat)(S:List Nat):Prop:=∀y∈S,y<B∨∃cs,Blk w y 124 cs
theorem PH.keeps{w w':World}{B:Nat}{v:TV}{t:Ten}{S:List Nat}(h:PH w B v t)(hk:Aa S w w')(hS:T8 w B S):PH w' B v t:=by
 have hr:∀g,(dI v.ra v.rl v.rc).ownBlock=some g→g∉S:=fun g hg hm=>by
  rcases hS g hm with h1 | ⟨cs,h1⟩
  ·have:=(h.r.lt g hg).1
   omega
  ·exact C9 h.r h1 bE g hg rfl
 have hc:∀g,(dI v.ca v.cl v.cc).ownBlock=some g→g∉S:=fun g hg hm=>by
  rcases hS g hm with h1 | ⟨cs,h1⟩
  ·have:=(h.c.lt g hg).1
   omega
  ·exact C9 h.c h1 bE g hg rfl
 have r2:=Ak h.r hk hr;have c2:=Ak h.c hk hc;exact⟨{ h.m with rs:=AJ.row Di (by rw [h.m.rl];exact r2),cs:=AJ.row EF (by rw [h.m.cl];exact c2) },r2,c2⟩
theorem E6.keeps{w w':World}{B:Nat}{S:List Nat}(hk:Aa S w w')(hS:T8 w B S):∀ {V:List TV} {L:List Ten},E6 w B V L→E6 w' B V L
 | [],[],_=>trivial
 | _::_,_::_,h=>⟨h.1.keeps hk hS,E6.keeps hk hS h.2⟩
 | [],_::_,h=>h.elim
 | _::_,[],h=>h.elim
theorem E6.m{w:World}{B:Nat}: ∀ {V:List TV} {L:List Ten},E6 w B V L→AC w V L
 | [],[],_=>trivial
 | _::_,_::_,h=>⟨h.1.m,E6.m h.2⟩
 | [],_::_,h=>h.elim
 | _::_,[],h=>h.elim
theorem E6.ge{w:World}{B:Nat}: ∀ {V:List TV} {L:List Ten},E6 w B V L→∀u∈V,K2 B u
 | [],[],_,u,hu=>by simp at hu
 | _::_,_::_,h,u,hu=>by
  rcases Ac.1 hu with rfl | hu
  ·exact⟨fun g o e=>(h.1.r.lt g (by rw [e];rfl)).1,fun g o e=>(h.1.c.lt g (by rw [e];rfl)).1⟩
  ·exact E6.ge h.2 u hu
 | [],_::_,h,_,_=>h.elim
 | _::_,[],h,_,_=>h.elim
theorem E6.snoc{w:World}{B:Nat}{x:TV}{t:Ten}(hx:PH w B x t):∀ {V:List TV} {L:List Ten},E6 w B V L→E6 w B (V++[x]) (L++[t])
 | [],[],_=>⟨hx,trivial⟩
 | _::_,_::_,h=>⟨h.1,E6.snoc hx h.2⟩
 | [],_::_,h=>h.elim
 | _::_,[],h=>h.elim
theorem E6.len{w:World}{B:Nat}{V:List TV}{L:List Ten}(h:E6 w B V L):V.length=L.length:=AC.len h.m
structure Xk(w:World)(v:Bm)(gn un fn ln:Nat)(seq:Int)(L:List Ten)(xa:Option Addr)(xc:Nat)(xs:List TV)(A:World):Prop where
 row:A.ownsRow (w.heap.size+6) 124 8 (dI xa xs.length xc) xs.length (xs.flatMap BM)
 ob:Blk A (w.heap.size+1+1) 27 #[dI xa xs.length xc]
 t:E6 A (w.heap.size+6) xs L
 rb:Blk A w.heap.size 29 (R_ v gn un fn ln seq)
 r2:Blk A (w.heap.size+1) 29 LU.k
 pb:Blk A (w.heap.size+3) 29 (R_ v gn un fn ln seq)
 kw:Aa [] w A
def Xj(w:World)(v:Bm)(gn un fn ln:Nat)(seq:Int)(L:List Ten)(A:World):Prop:=∃xa xc xs,Xk w v gn un fn ln seq L xa xc xs A
theorem Xk.keeps{w:World}{v:Bm}{gn un fn ln:Nat}{seq:Int}{L:List Ten}{xa:Option Addr}{xc:Nat}{xs:List TV}{A A':World}{S:List Nat}(h:Xk w v gn un fn ln seq L xa xc xs A)(hk:Aa S A A')(hS:∀y∈S,w.heap.size+4≤y∧y<w.heap.size+6):Xk w v gn un fn ln seq L xa xc xs A':=by
 have hn:∀y,y<w.heap.size+4→y∉S:=fun y hy hm=>by have:=hS y hm;omega
 exact⟨Ak h.row hk (fun g hg2 hm=>by have:=(h.row.lt g hg2).1;have:=hS g hm;omega),h.ob.keeps hk (hn _ bB),h.t.keeps hk (fun y hy=>.inl (hS y hy).2),h.rb.keeps hk (hn _ bB),h.r2.keeps hk (hn _ bB),h.pb.keeps hk (hn _ bB),h.kw.own hk bM⟩
theorem Xj.keeps{w:World}{v:Bm}{gn un fn ln:Nat}{seq:Int}{L:List Ten}{A A':World}{S:List Nat}(h:Xj w v gn un fn ln seq L A)(hk:Aa S A A')(hS:∀y∈S,w.heap.size+4≤y∧y<w.heap.size+6):Xj w v gn un fn ln seq L A':=by
 obtain⟨xa,xc,xs,h⟩:=h;exact⟨xa,xc,xs,h.keeps hk hS⟩
theorem Xk.push{w:World}{v:Bm}{gn un fn ln:Nat}{seq:Int}{L:List Ten}{xa:Option Addr}{xc:Nat}{xs:List TV}{A:World}(h:Xk w v gn un fn ln seq L xa xc xs A)(hl:L.length≤1000)(hA:w.heap.size+6≤A.heap.size){z:TV}{t:Ten}(hz:PH A (w.heap.size+6) z t):
  ∃g n c W3,(Bo #[27,27] 27 #[dI xa xs.length xc,dI (some ⟨A,0,none⟩) 1 1]).run Tryz.prog (A.alloc (.cells (BM z).toArray 124)) = .ok (dI (some ⟨g,0,none⟩) n c) W3∧
   Blk W3 (w.heap.size+1+1) 27 #[dI xa xs.length xc]∧Xj w v gn un fn ln seq (L++[t]) (W3.setCell ⟨w.heap.size+1+1,0,none⟩ (dI (some ⟨g,0,none⟩) n c))∧
   A.heap.size≤(W3.setCell ⟨w.heap.size+1+1,0,none⟩ (dI (some ⟨g,0,none⟩) n c)).heap.size∧∀y∈[w.heap.size+4,w.heap.size+5],(W3.setCell ⟨w.heap.size+1+1,0,none⟩ (dI (some ⟨g,0,none⟩) n c)).heap[y]? = A.heap[y]?:=by
 obtain⟨g,c,W3,hrun,hrow3,hk3,hge⟩:=C8 (enc:=BM) Tryz.prog (t:=27) Tryz.underlying27 IN bE CU Fp h.row hA z (by have:=h.t.len;omega) 27;have hgeS:=AP h.row;have hne:∀y,y<w.heap.size+6→y∉(dI xa xs.length xc).ownBlock.toList:=fun y hy hm=>by have:=hgeS y hm;omega
 have hob3:=h.ob.keeps hk3 (hne _ bB);have hN:T8 A (w.heap.size+6) (dI xa xs.length xc).ownBlock.toList:=fun y hy=>.inr (Em h.row bU);have hk4:Aa [w.heap.size+1+1] W3 (W3.setCell ⟨w.heap.size+1+1,0,none⟩ (dI (some ⟨g,0,none⟩) (xs.length+1) c)):=Ae _ _ _ _;have hlow:∀y∈[w.heap.size+1+1],y<w.heap.size+6:=fun y hy=>by simp only [Ac,Ab,or_false] at hy;omega
 refine⟨g,_,c,W3,hrun,hob3,⟨some ⟨g,0,none⟩,c,xs++[z],?_⟩,?_,?_⟩
 ·have h9:=Ak hrow3 hk4 (fun g' hg' hm'=>by have:=(hrow3.lt g' hg').1;have:=hlow _ hm';omega)
  rw [Ag,AW] at h9;refine⟨by rw [Ag,AW];exact h9,by rw [Ag,AW];exact hob3.set_ 0 _,((h.t.snoc hz).keeps hk3 hN).keeps hk4 (fun y hy=>.inl (hlow y hy)),(h.rb.keeps hk3 (hne _ bB)).keeps hk4 bI,(h.r2.keeps hk3 (hne _ bB)).keeps hk4 bA,(h.pb.keeps hk3 (hne _ bB)).keeps hk4 bA,(h.kw.own hk3 Y8).own hk4 bF⟩
 ·exact As hk3.size hk4.size
 ·intro y hy
  have hy2:y<w.heap.size+6∧y≠w.heap.size+1+1:=by simp only [Ac,Ab,or_false] at hy;omega
  exact(hk4.block y (by have:=hk3.size;omega) (by simpa using hy2.2)).trans (hk3.block y bB (hne y hy2.1))
theorem UQ{w:World}{v:Bm}{r:CE}{gn un fn ln:Nat}{seq:Int}{xa ga ua fa:Option Addr}{xc gc uc fc B:Nat}{xs:List TV}{W0 w7 WF:World}(hM:Co w v r)(hln:r.l.length=ln)(hJ:Xk w v gn un fn ln seq r.l xa xc xs W0)(hB:w.heap.size+6≤B)(hk7:Aa [] W0 w7)
 (hgs:Ik w7 ga gc r.slots.gens)(hus:Jv w7 ua uc r.slots.used)(hfs:Ik w7 fa fc r.slots.free)(hgg:Cp B ga)(hug:Cp B ua)(hfg:Cp B fa)(hkF:Aa [w.heap.size+1,w.heap.size+4] w7 WF):
  ∃v':Bm,dM (dK #[dI ga gn gc,dI ua un uc,dI fa fn fc,dI xa xs.length xc,dH dN seq]) = dM (dK (R_ v' gn un fn ln seq))∧Co WF v' r∧GA w.heap.size v'∧Aa [] w WF:=by
 have hS:∀y∈[w.heap.size+1,w.heap.size+4],y<w.heap.size+6:=fun y hy=>by simp only [Ac,Ab,or_false] at hy;omega
 have hS2:∀y∈[w.heap.size+1,w.heap.size+4],y<B:=fun y hy=>by have:=hS y hy;omega
 have hT:=hJ.t.keeps hk7 (fun y hy=>by simp at hy);have hrow:AJ BM 8 w7 xa xc xs:=AJ.row CU (Ak hJ.row hk7 (fun g hg=>by simp));have hge:Cp (w.heap.size+6) xa:=Fo hJ.row;have hl:xs.length=ln:=by rw [hJ.t.len,hln]
 rw [hl];refine⟨⟨⟨ga,gc,ua,uc,fa,fc⟩,xa,xc,xs⟩,rfl,{ s:=⟨hgs.keepsS hkF (hgg.out hS2),hus.keepsS hkF (hug.out hS2),hfs.keepsS hkF (hfg.out hS2),hM.s.sg,hM.s.su,hM.s.sf⟩,l:=hrow.keepsS hkF (hge.out hS),t:=(hT.keeps hkF (fun y hy=>.inl (hS y hy))).m,sl:=hM.sl,small:=hM.small },⟨⟨hgg.mono bB,hug.mono bB,hfg.mono bB⟩,hge.mono bB,fun u hu=>(hJ.t.ge u hu).mono bB⟩,(hJ.kw.trans hk7).own hkF bF⟩
theorem O5(v:Bm)(r:CE)(gn un fn ln:Nat)(hg:r.slots.gens.length=gn)(hu:r.slots.used.length=un)(hf:r.slots.free.length=fn)(hln:r.l.length=ln)(seq:Int)(hsq:r.seq=seq)(w:World)(h:Co w v r):
  Calls Tryz.prog 70 #[dK (R_ v gn un fn ln seq)] w fun x w'=>∃v':Bm,x = dM (dK (R_ v' gn un fn ln seq))∧Co w' v' r∧GA w.heap.size v'∧Aa [] w w':=by
 subst hsq;obtain⟨seq,hseq⟩:=eX (r.seq);have htn:=fun W=>ET v r gn un fn ln W;rw [hseq] at htn ⊢;refine(callsIn_wide (n:=9)).1 ?_;have HL:=lH h.l;have HT:=lH h.t;have HLN:Hid (v.lv.length=ln):=lH Zy;have hl1:ln≤1000:=by have:=h.sl;omega
 have HM:=lH h;have HTN:=lH htn;have HG:=lH hg;have HU:=lH hu;have HF:=lH hf;clear h hln htn hseq hg hu hf;refine callsIn_of_wp_marks Tryz.func70 rfl trivial ?_ rfl;simp only [Tryz.ntmps70,Cx,Ao,Eh,Nat.reduceAdd,Nat.reduceSub,Bc,Bd,By,B0,AX,A6];gi_wp2_with (fail);refine⟨trivial,(callsIn_wide.2 (HTN.out _)).mono ?_⟩;rintro e w1 ⟨rfl,hw1⟩;gi_wp2_with (fail);have hsz:w1.heap.size=w.heap.size+4:=by rw [← hw1];simp
 have hI0:Xj w v gn un fn ln seq [] w1:=by
  have hk:Aa [] w w1:=by rw [← hw1];exact((((Aa.refl [] w).alloc _).alloc _).alloc _).alloc _
  refine⟨none,0,[],Bz _ _ _ _,?_,trivial,?_,?_,?_,hk⟩<;>rw [← hw1]
  ·exact(Aq _ _ _ _ bA).alloc _
  ·exact(((Blk.new w _ _).alloc _).alloc _).alloc _
  ·exact((Aq _ _ _ _ bA).alloc _).alloc _
  ·exact Aq _ _ _ _ bA
 have HI0:=lH hI0;clear hI0 hw1;refine Bx rfl bB (gf:=101) (lb:=#[dJ (some ⟨w.heap.size+1+1+1,0,none⟩)]) rfl trivial (enters_of Tryz.func101 bC rfl) (EU 8 (w.heap.size+1+1+1) v.la v.lc ln v.lv HLN.out hl1 seq) (fun _=>rfl)
  (fun pre A=>Xj w v gn un fn ln seq (r.l.take pre.length) A) (fun _ _=>False)
  (fun pre A A' h hk=>h.keeps hk bF)
  (fun pre A A' h hk=>h)
  (fun pre A h=>by obtain⟨_,_,_,h⟩:=h;exact⟨h.pb.cell 3,h.pb.cell 4,HL.out.keeps h.kw⟩) HI0.out
  (fun k W=>(fun u:TV=>(({ tmps:=#[dK (R_ v gn un fn ln seq),dJ (some ⟨w,0,none⟩),dJ (some ⟨w.heap.size+1,0,none⟩),dJ (some ⟨w.heap.size+1+1,0,none⟩),undef,dJ (some ⟨W,0,none⟩),undef,dK (R_ v gn un fn ln seq),
     .func (.func 101) #[] #[dJ (some ⟨w.heap.size+1+1+1,0,none⟩)],dH dN (k:Int),dK (U_ u seq),undef,undef,undef,undef,undef,undef,undef,undef,undef,undef,undef,undef,undef,undef,undef,undef,undef,undef,undef,undef,undef],defers:=[] } : Act),W.alloc (.cells (U_ u seq) 126))) (v.lv.getD k tv0))
  (fun k W=>(Aa.refl [] W).alloc _) ?assign ?body ?done ?stop
 case assign=>
  intro l k W K hK;simp only [JV];dsimp only at hK;generalize v.lv.getD k tv0=u at hK ⊢;gi_wp2;exact hK
 case body=>
  rintro l pre k W W2 hI hpre hsz2 hk2;obtain⟨rfl,hkn⟩:=DN hpre;obtain⟨u,hu⟩:∃u,v.lv[k]? = some u:=⟨_,Au Yf⟩;have hgd:v.lv.getD k tv0=u:=by rw [AE,hu];rfl
  obtain⟨t,ht,htm⟩:=HT.out.get? hu;dsimp only at hk2 ⊢;rw [hgd] at hk2 ⊢;rw [A8] at hI;have hszW:W.heap.size+1≤W2.heap.size:=by have:=hk2.size;rw [World.size_alloc] at this;exact this
  have hI2:=(hI.keeps ((Aa.refl [] W).alloc (.cells (U_ u seq) 126)) bA).keeps hk2 bF;have hb:=(Blk.new W 126 (U_ u seq)).keeps hk2 bI;obtain⟨xa,xc,xs,hJ⟩:=hI2;have HJ:=lH hJ;have b:=hb.cell;have x:=hJ.ob.cell;obtain⟨n,hn⟩:=eX (xs.length);have HLK:Hid ((r.l.take k).length≤1000):=lH (by rw [A7];have:=HM.out.sl;omega);have HTS:Hid (r.l.take (A0 k++[k]).length=r.l.take k++[t]):=lH (by rw [Ag,A8,AW,AB ht]);have hsm:=HM.out.small t (Ex ht);have HTO:=lH (fun W' (hk:Aa [] W2 W')=>VI u t seq W' (htm.keeps (hJ.kw.trans hk)) (by have:=htm.rl;omega) (by have:=htm.cl;omega));have HZO:Hid (∀(W5:World) (ra ca:Option Addr) (rc cc:Nat),Aa [] W2 W5→W5.ownsRow W2.heap.size 59 5 (dI ra u.rl rc) u.rl (t.rules.flatMap B7)→W5.ownsRow W2.heap.size 233 4 (dI ca u.cl cc) u.cl (t.creds.flatMap CH)→
    PH W5 (w.heap.size+6) { u with ra:=ra,rc:=rc,ca:=ca,cc:=cc } t):=lH fun W5 ra ca rc cc hk h1 h2=>by
   have hm:=htm.keeps (hJ.kw.trans hk);have h1:=Bg h1 (show w.heap.size+6≤W2.heap.size by omega);have h2:=Bg h2 (show w.heap.size+6≤W2.heap.size by omega);exact⟨{ hm with rs:=AJ.row Di (by rw [hm.rl];exact h1),cs:=AJ.row EF (by rw [hm.cl];exact h2) },h1,h2⟩
  clear hI hpre hk2 hb hJ hgd hu ht htm hsm hn;gi_wp2_with (fail);refine Be (S:=(fun W:World=>True)) bC bC (fun _ _ h=>h) trivial (fun hHeld=>?_)
  repeat' (first | exact rZ | refine rX ?_ | ((first | (refine rA 0 (fun K hK=>?_) ?_;go_simp) | (refine rA 1 (fun K hK=>?_) ?_;go_simp) | (refine rA 2 (fun K hK=>?_) ?_;go_simp;(refine(HTO.out _ ((Aa.refl [] W2).drew)).mono ?_;rintro e w5 ⟨ra,rc,ca,cc,rfl,hrs,hcs,hk5⟩;have hk5:Aa [] W2 w5:=((Aa.refl [] W2).drew).trans hk5;have HJ5:=lH (HJ.out.keeps hk5 bA);have x5:=HJ5.out.ob.cell;have hzo:=HZO.out _ _ _ _ _ hk5 hrs hcs;obtain⟨g,n9,c9,W9,hrun,hob9,hI9,hs9,hb9⟩:=HJ5.out.push HLK.out (by have:=hk5.size;omega) hzo;have y5:=fun o=>((HJ5.out.ob.alloc o).cell);have HOB9:=lH hob9;have HI9:=lH hI9;have HS9:=lH (As hk5.size hs9);have HB9:Hid (∀y∈[w1.heap.size,w1.heap.size+1],(W9.setCell ⟨w.heap.size+1+1,0,none⟩ (dI (some ⟨g,0,none⟩) n9 c9)).heap[y]? = W2.heap[y]?):=lH (fun y hy=>(hb9 y (by simpa [hsz,CM] using hy)).trans (hk5.block y Y5 bA));clear hob9 hI9 hs9 hb9 hk5 hrs hcs hzo)) | (refine rA 3 (fun K hK=>?_) ?_;go_simp) | (refine rA 4 (fun K hK=>?_) ?_;(refine BA _ _ 27 bD bD bD bD hrun ?_;have f9:=HOB9.out.frozen;have x9:=HOB9.out.cell)) | (refine rA 5 (fun K hK=>?_) ?_;go_simp));refine rO hK trivial fun hHeld=>?_;clear hK K) | refine rB [0,1,2,3,4,5] ?_ | (refine wpAnyH_done bC ?_ _;(gi_wp2_with (fail);refine⟨HS9.out,HB9.out,?_⟩;show Xj w v gn un fn ln seq (r.l.take (A0 k++[k]).length) _;rw [HTS.out];exact HI9.out)))
 case done=>
  rintro W hI hsz2 hK;rw [A8,Ax (by have:=AC.len HT.out;have:=HLN.out;omega)] at hI;obtain⟨xa,xc,xs,hJ⟩:=hI;have b:=hJ.rb.cell;obtain⟨W0,hW0⟩:=eX (W.alloc (.cells (S_ v.s gn un fn) 26));have hk0:Aa [] W W0:=by rw [← hW0];exact(Aa.refl [] W).alloc _
  have HSB:Hid (Blk W0 W.heap.size 26 (S_ v.s gn un fn)):=lH (by rw [← hW0];exact Blk.new _ _ _);have HJ:=lH (hJ.keeps hk0 bA);have HK:Hid (W0.heap[w.heap.size+4]? = some (.deferred (some []))):=lH (by rw [← hsz];exact(hk0.block _ bB bA).trans hK);have HLR:Hid (r.l.length=ln):=lH (by have:=AC.len HT.out;have:=HLN.out;omega);have HSZ:Hid (w.heap.size+6≤W0.heap.size∧w.heap.size+6≤W.heap.size):=lH (by have:=hk0.size;omega);have HS:Hid (∀A,Aa [w.heap.size+1] W0 A→Aa [w.heap.size+1] W0 A∧(∀i,A.cell? ⟨W,i,none⟩=((S_ v.s gn un fn):Array Value)[i]?)∧(∀i,A.cell? ⟨w.heap.size+1+1,i,none⟩=(#[dI xa xs.length xc]:Array Value)[i]?)∧(∀i,A.cell? ⟨w,i,none⟩=((R_ v gn un fn ln seq):Array Value)[i]?)):=lH fun A hk=>by
   have:=HSZ.out;exact⟨hk,(HSB.out.keeps hk bI).cell,(HJ.out.ob.keeps hk bI).cell,(HJ.out.rb.keeps hk bI).cell⟩
  have HKA:Hid (∀A,Aa [w.heap.size+1] W0 A→Aa [] w A):=lH fun A hk=>HJ.out.kw.own hk bF;clear hJ hk0 hK;gi_wp2_with (fail);clear hW0 b;refine G6 (S:=(fun A:World=>Aa [w.heap.size+1] W0 A∧(∀i,A.cell? ⟨W,i,none⟩=((S_ v.s gn un fn):Array Value)[i]?)∧(∀i,A.cell? ⟨w.heap.size+1+1,i,none⟩=(#[dI xa xs.length xc]:Array Value)[i]?)∧(∀i,A.cell? ⟨w,i,none⟩=((R_ v gn un fn ln seq):Array Value)[i]?))) bC bC (by((try dsimp only);(first | exact HS.out _ ((Aa.refl _ W0).drew) | exact HS.out _ (hHeld.1.trans (hgk.mono bA)) | exact HS.out _ (hHeld.1.trans (huk.mono bA)) | exact HS.out _ (hHeld.1.trans (hfk.mono bA)) | exact HS.out _ (by(repeat with_reducible refine Aa.setCell ?_ (.inl bA) _);with_reducible exact hHeld.1)))) (fun hHeld=>?_)
  repeat' (first | exact rZ | refine rX ?_ | ((first | (refine rA 2 (fun K hK=>?_) ?_;go_simp;(refine(Np v.s.ga v.s.gc r.slots.gens gn HG.out (by have:=HM.out.s.sg;have:=HG.out;omega) _ (HM.out.s.g.keeps (HKA.out _ hHeld.1))).mono ?_;rintro e w5 ⟨ga,gc,rfl,hgs,hgo,hgk⟩)) | (refine rA 5 (fun K hK=>?_) ?_;go_simp;(refine(Of v.s.ua v.s.uc r.slots.used un HU.out (by have:=HM.out.s.su;have:=HU.out;omega) _ (HM.out.s.u.keeps (HKA.out _ hHeld.1))).mono ?_;rintro e w6 ⟨ua,uc,rfl,hus,huo,huk⟩)) | (refine rA 8 (fun K hK=>?_) ?_;go_simp;(refine(Np v.s.fa v.s.fc r.slots.free fn HF.out (by have:=HM.out.s.sf;have:=HF.out;omega) _ (HM.out.s.f.keeps (HKA.out _ hHeld.1))).mono ?_;rintro e w7 ⟨fa,fc,rfl,hfs,hfo,hfk⟩;have hk7:Aa [] W0 w7:=(((Aa.refl [] W0).drew.trans hgk).trans huk).trans hfk;have z:=(HJ.out.r2.keeps hk7 bA).cell;have y:=(HJ.out.r2.keeps hk7 bA).frozen)) | (refine rA 14 (fun K hK=>?_) ?_;go_simp));refine rO hK (by((try dsimp only);(first | exact HS.out _ ((Aa.refl _ W0).drew) | exact HS.out _ (hHeld.1.trans (hgk.mono bA)) | exact HS.out _ (hHeld.1.trans (huk.mono bA)) | exact HS.out _ (hHeld.1.trans (hfk.mono bA)) | exact HS.out _ (by(repeat with_reducible refine Aa.setCell ?_ (.inl bA) _);with_reducible exact hHeld.1)))) fun hHeld=>?_;clear hK K) | (refine rQ 0 ?_;refine rQ 1 ?_;refine rQ 3 ?_;refine rQ 4 ?_;refine rQ 6 ?_;refine rQ 7 ?_;refine rQ 10 ?_;refine rQ 11 ?_;refine rQ 12 ?_) | (refine rQ 9 ?_;refine rQ 13 ?_) | refine rB [2,5,8,14] ?_ | (refine wpAnyH_done bC ?_ _;simp only [UP];(gi_wp2_with (fail);have hW:=HSZ.out;have hkF:=F3 w7 (w.heap.size+1) (dI ga gn gc) (dI ua un uc) (dI fa fn fc) (dI xa xs.length xc) (dH dN seq);have hbF:=((HJ.out.r2.keeps hk7 bA).put5 (dI ga gn gc) (dI ua un uc) (dI fa fn fc) (dI xa xs.length xc) (dH dN seq)).keeps (Az (S:=[w.heap.size+4]) (l:=w.heap.size+4) _ (.deferred none) bA) bA;have zF:=hbF.cell;refine⟨by simp,.inl ⟨_,_,rfl,run_takeDeferred ((hkF.block _ (by have:=hk7.size;omega) bI).trans ((hk7.block _ bB bA).trans HK.out)),?_⟩⟩;refine⟨dK #[dI ga gn gc,dI ua un uc,dI fa fn fc,dI xa xs.length xc,dH dN seq],by simp [results,Tryz.results70,go_sem,zF],?_⟩;exact UQ (B:=W0.heap.size) HM.out HLR.out HJ.out hW.1 hk7 ((hgs.keeps huk).keeps hfk) (hus.keeps hfk) hfs (Fo hgo) ((Fo huo).mono hgk.size) ((Fo hfo).mono (As hgk.size huk.size)) ((hkF.mono bA).trans (Az _ _ bA)))))
 case stop=>
  rintro pre W hpre hX hsz2 hK;exact hX.elim
def NJ(k:Int)(f n:Nat):MapEntry:={ key:=dH dN k,val:=.func (.func f) #[] #[],born:=n }
def GL:Array MapEntry:=#[NJ 2 80 0,NJ 3 247 1,NJ 4 248 2,NJ 6 249 3,NJ 7 250 4,NJ 5 251 5,NJ 8 251 6,NJ 10 251 7]
theorem FL(es:Array MapEntry)(c:Nat)(k:Int)(f:Nat)(hf:AV (.int .i64) (dH dN k) es.toList 0=some none)(w:World):
  (Instr.mapUpdate 303 (.map (some w.heap.size)) (dH dN k) (.func (.func f) #[] #[])).run Tryz.prog (w.alloc (.map es c)) = .ok () (w.alloc (.map (es.push (NJ k f c)) (c+1))):=
 En Tryz.underlying303 Tryz.underlying3 rfl hf
theorem Tu(w:World):Calls Tryz.prog 198 #[] w fun r w'=>r = dM (.map (some w.heap.size))∧w.alloc (.map GL 8)=w':=by
 have hm:=fun W=>run_makeMap (P:=Tryz.prog) 303 W;have h1:=FL #[] 0 2 80 rfl w;have h2:=FL (GL.extract 0 1) 1 3 247 rfl w;have h3:=FL (GL.extract 0 2) 2 4 248 rfl w;have h4:=FL (GL.extract 0 3) 3 6 249 rfl w;have h5:=FL (GL.extract 0 4) 4 7 250 rfl w;have h6:=FL (GL.extract 0 5) 5 5 251 rfl w;have h7:=FL (GL.extract 0 6) 6 8 251 rfl w;have h8:=FL (GL.extract 0 7) 7 10 251 rfl w;simp only [GL,List.extract_toArray,List.extract_eq_take_drop,List.drop_zero,Nat.sub_zero,List.take_succ_cons,List.take_zero,By,AX,A6,Nat.reduceAdd] at h1 h2 h3 h4 h5 h6 h7 h8;go_enter Tryz.func198,Tryz.ntmps198;go_wp2;go_ret;exact⟨rfl,rfl⟩
theorem Tt(cb:Nat)(u:TV)(t:Ten)(seq:Int)(c:FF)(now:Int)(hv:c.verb=2∨c.verb=3∨c.verb=4∨c.verb=5∨c.verb=6∨c.verb=7∨c.verb=8∨c.verb=10)(hnow:0≤now∧now≤1000000000000)(hat : -9223372036854775808≤c.at_∧c.at_≤9223372036854775807)(hc:t.rules.length≤999∧t.creds.length≤1000):
  ∃f,(∀(W:World) (b:Nat),W.heap[b]? = some (.map GL 8)→(Dx 303 (.map (some b)) (dH dN c.verb) false).run Tryz.prog W = .ok (.func (.func f) #[] #[]) W)∧(∀(W:World) args,(callFunc f args).run Tryz.prog W = .ok (.enter f args) W)∧
   ∀(w:World) (E:Nat→Addr),Et w→Ez w E→Blk w cb 170 (IM u seq c now)→BU w u t→EX cb u→Calls Tryz.prog f #[dJ (some ⟨cb,0,none⟩)] w (Fq cb u seq c now (AS t c now) w):=by
 have hl:∀(k:Int) (f i:Nat),AV (.int .i64) (dH dN k) GL.toList 0=some (some (i,.func (.func f) #[] #[]))→∀(W:World) (b:Nat),W.heap[b]? = some (.map GL 8)→(Dx 303 (.map (some b)) (dH dN k) false).run Tryz.prog W = .ok (.func (.func f) #[] #[]) W:=
  fun k f i hf W b hb=>(CY Tryz.underlying303 Tryz.underlying3 hb bS hf).2
 rcases hv with h | h | h | h | h | h | h | h
 ·refine⟨80,by rw [h];exact hl _ _ _ rfl,fun W args=>enters_of Tryz.func80 bC rfl args W,fun w E _ _ hb ht hf=>?_⟩
  rw [show AS t c now=_ by unfold AS;rw [if_pos h]];exact Kf cb u t seq c now w hb ht hf
 ·refine⟨247,by rw [h];exact hl _ _ _ rfl,fun W args=>enters_of Tryz.func247 bC rfl args W,fun w E _ _ hb ht hf=>?_⟩
  rw [show AS t c now=_ by unfold AS;rw [if_neg bB,if_pos h]];exact QL cb u t seq c now w hb ht hf
 ·refine⟨248,by rw [h];exact hl _ _ _ rfl,fun W args=>enters_of Tryz.func248 bC rfl args W,fun w E _ _ hb ht hf=>?_⟩
  rw [show AS t c now=_ by unfold AS;rw [if_neg bB,if_neg bB,if_pos h]];exact Sk cb u t seq c now hnow w hb ht hf
 ·refine⟨251,by rw [h];exact hl _ _ _ rfl,fun W args=>enters_of Tryz.func251 bC rfl args W,fun w E _ _ hb ht hf=>?_⟩
  rw [show AS t c now=(t,0) by unfold AS;rw [if_neg bB,if_neg bB,if_neg bB,if_neg bB,if_neg bB]];exact Hd cb u t seq c now w hb ht
 ·refine⟨249,by rw [h];exact hl _ _ _ rfl,fun W args=>enters_of Tryz.func249 bC rfl args W,fun w E hg _ hb ht hf=>?_⟩
  rw [show AS t c now=_ by unfold AS;rw [if_neg bB,if_neg bB,if_neg bB,if_pos h]];exact On cb u t seq c now w hg hb ht hc.2 hf
 ·refine⟨250,by rw [h];exact hl _ _ _ rfl,fun W args=>enters_of Tryz.func250 bC rfl args W,fun w E _ hE hb ht hf=>?_⟩
  rw [show AS t c now=RL t c by unfold AS;rw [if_neg bB,if_neg bB,if_neg bB,if_neg bB,if_pos h];rfl];exact Uc cb u t seq c now hat w E hE hb ht hc.1 hf
 ·refine⟨251,by rw [h];exact hl _ _ _ rfl,fun W args=>enters_of Tryz.func251 bC rfl args W,fun w E _ _ hb ht hf=>?_⟩
  rw [show AS t c now=(t,0) by unfold AS;rw [if_neg bB,if_neg bB,if_neg bB,if_neg bB,if_neg bB]];exact Hd cb u t seq c now w hb ht
 ·refine⟨251,by rw [h];exact hl _ _ _ rfl,fun W args=>enters_of Tryz.func251 bC rfl args W,fun w E _ _ hb ht hf=>?_⟩
  rw [show AS t c now=(t,0) by unfold AS;rw [if_neg bB,if_neg bB,if_neg bB,if_neg bB,if_neg bB]];exact Hd cb u t seq c now w hb ht
end
end Go.Proofs.YtcjdkbgdahgjbaaGreatDoor
