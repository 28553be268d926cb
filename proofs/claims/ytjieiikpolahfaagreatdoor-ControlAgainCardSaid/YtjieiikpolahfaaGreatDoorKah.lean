/- Steps. -/
import Derived.Test.YtjieiikpolahfaaGreatDoorKad
import Derived.Test.YtjieiikpolahfaaGreatDoorKaf
import Derived.Deep.DeepCutAuto
import Derived.Deep.RegionHeld3
set_option maxRecDepth 100000
set_option maxHeartbeats 8000000
set_option linter.all false
namespace Go.Proofs.YtjieiikpolahfaaGreatDoor
open Tryz
open _root_.Go renaming undef→UD
open _root_.And renaming intro→Bl
open _root_.Array renaming getElem?_setIfInBounds→Bj,replicate_succ→Bt,replicate_zero→Bu
open Builtin renaming append_→BI
open Ending renaming returned→pJ
open Instr renaming findNow→B0,lookup→Ed,slice→AV
open _root_.Int renaming toNat_natCast→pW
open IntKind renaming i64→pK
open _root_.List renaming append_assoc→CC,append_toArray→BD,cons_append→AL,drop_zero→BC,eq_nil_of_length_eq_zero→Ds,getD_eq_getElem?_getD→AO,getElem?_cons_succ→Ao,getElem?_cons_zero→Aj,getElem?_eq_getElem→Aq,getElem?_eq_some_iff→Ad,getElem?_toArray→An,length_append→Al,length_cons→Av,length_drop→B1,length_map→Bd,length_nil→D4,length_range→AP,length_singleton→Bp,length_take→Ax,map_append→pO,mem_append→AQ,mem_cons_of_mem→Ca,mem_cons→Ac,mem_map→BO,mem_of_getElem?→CD,nil_append→BH,not_mem_nil→Ab,push_toArray→Cd,range→AC,size_toArray→Cz,take_of_length_le→Ak
open _root_.Nat renaming add_assoc→EA,add_zero→AT,le_trans→A8,lt_of_lt_of_le→BS,lt_or_ge→pP,min_eq_left→DE,reduceAdd→pL,reduceSub→pM,zero_le→Ba
open Oper renaming semAt_some→pN
open Value renaming agg→pH,bool→pI,int→pE,pointer→pG,slice→pF,string→Dz
open World renaming ownsRow_nil→BQ,size_alloc→Eo
section
open Go.RowKit Go.Shelf
attribute [local go_sem] pN
attribute [local go_sem ↓] wp_at_zero wp_at_succ
def DC(l:List TV)(u:TV):List TV:=l.take (l.takeWhile fun x=>decide (x.slot<u.slot)).length++[u]++(match l.drop (l.takeWhile fun x=>decide (x.slot<u.slot)).length with
 | x::m=>if x.slot=u.slot then m else x::m
 | []=>[])
theorem kU{V:List TV}{s:Int}{k:Nat}(hk:k<=V.length)(h:∀j<k,∀x,V[j]? = some x->x.slot<s)(he:∀x,V[k]? = some x->¬x.slot<s):(V.takeWhile fun x=>decide (x.slot<s)).length=k:=by
 induction V generalizing k with
 | nil=>
  have hk:k<=0:=hk;simp;omega
 | cons y V ih=>
  cases k with
  | zero=>
   have:=he y rfl;simp [this]
  | succ k=>
   have h1:=h 0 bB y rfl;rw [List.takeWhile_cons,if_pos bR,Av,ih (by simpa using hk) (fun j hj x hx=>h (j+1) bB x iY) (fun x hx=>he x iY)]
theorem Vh{w:World}(s:Int):∀ {V:List TV} {L:List Ten},AX w V L->(V.takeWhile fun x=>decide (x.slot<s)).length=(L.takeWhile fun x=>decide (x.slot<s)).length
 | [],[],_=>rfl
 | v::V,t::L,h=>by
  rw [List.takeWhile_cons,List.takeWhile_cons,h.1.slot];split
  ·rw [Av,Av,Vh s h.2]
  ·rfl
 | [],_::_,h=>h.elim
 | _::_,[],h=>h.elim
theorem Zt{w:World}{V:List TV}{L:List Ten}{u:TV}{t:Ten}(h:AX w V L)(hu:Cj w u t):AX w (DC V u) (GI L t):=by
 unfold DC GI;dsimp only;rw [<- hu.slot,Vh u.slot h,CC];refine AX.app (AX.take _ h) ?_;have D:=AX.drop (L.takeWhile fun x=>decide (x.slot<u.slot)).length h;refine⟨hu,?_⟩;generalize V.drop (L.takeWhile fun x=>decide (x.slot<u.slot)).length=A at D;generalize L.drop (L.takeWhile fun x=>decide (x.slot<u.slot)).length=B at D;cases A with
 | nil=>
  cases B with
  | nil=>trivial
  | cons b B=>exact D.elim
 | cons a A=>
  cases B with
  | nil=>exact D.elim
  | cons b B=>
   dsimp only;rw [D.1.slot];split
   ·exact D.2
   ·exact D
theorem AR.drop_run{α:Type}{enc:α->List Value}{n:Nat}{t e:TypeId}{z:Value}(hE:Lu prog t e n z)(B:∀W,(AV t (pF none 0 0) (some (I_ 0)) none none).run prog W = .ok (pF none 0 0) W){w:World}{a:Option Addr}{c:Nat}{xs:List α}(h:AR enc n w a c xs)(k:Nat)(hk:k<=xs.length):
  ∃ra rc,(∀W,(AV t (pF a xs.length c) (some (I_ (k:Int))) none none).run prog W = .ok (pF ra (xs.length - k) rc) W)/\AR enc n w ra rc (xs.drop k):=by
 cases a with
 | none=>
  obtain⟨rfl,rfl⟩:=h.isNil;obtain rfl:k=0:=by simpa using hk
  exact⟨none,0,B,AR.none_⟩
 | some p=>
  rcases Nat.eq_zero_or_pos xs.length with h0 | h0
  ·obtain rfl:=Ds h0
   obtain rfl:k=0:=by simpa using hk
   have D:=fun W=>run_slice_l (P:=prog) W t (some p) 0 c hE.ht' .i64 0 bB bB;simp only [hE.el,hE.sz] at D;refine⟨_,c - 0,fun W=>(D W).trans rfl,⟨by simp,?_,fun h=>by simp at h⟩⟩;intro e;split at e<;>cases e
  ·obtain⟨g,off,e,hg,hat⟩:=h.at_ h0
   injection e with e
   subst e;refine⟨_,c - k,fun W=>hE.s_l W g off xs.length c k hk h.le,⟨by have:=h.le;simp;omega,(fun e=>by cases e),fun hp=>?_⟩⟩;have E:k<xs.length:=by simp at hp;omega
   have hck:c≠k:=by have:=h.le;omega
   refine⟨g,off+k*n,by rw [if_neg hck],hg,fun i hi j u hj=>?_⟩;rw [List.getElem_drop] at hj;have:=hat (k+i) (by simp at hi;omega) j u hj
   rwa [show off+(k+i)*n+j=off+k*n+i*n+j by rw [Nat.add_mul];omega] at this
theorem AR.take_run{α:Type}{enc:α->List Value}{n:Nat}{t e:TypeId}{z:Value}(hE:Lu prog t e n z){w:World}{a:Option Addr}{c:Nat}{xs:List α}(h:AR enc n w a c xs)(k:Nat)(hk:k<=xs.length):
  ∃ta tc,(∀W,(AV t (pF a xs.length c) none (some (I_ (k:Int))) (some (I_ (k:Int)))).run prog W = .ok (pF ta k tc) W)/\AR enc n w ta tc (xs.take k):=by
 have B:=fun W=>run_slice_hm (P:=prog) W t a xs.length c hE.ht' .i64 .i64 k k bB bB (by have:=h.le;omega);simp only [hE.el,hE.sz,Result.andThen_ok,pW] at B;cases a with
 | none=>
  obtain⟨rfl,rfl⟩:=h.isNil;obtain rfl:k=0:=by simpa using hk
  exact⟨none,0,fun W=>(B W).trans rfl,AR.none_⟩
 | some q=>
  rcases Nat.eq_zero_or_pos xs.length with h0 | h0
  ·obtain rfl:=Ds h0
   obtain rfl:k=0:=by simpa using hk
   exact⟨some q,0,fun W=>(B W).trans (by simp [sliced]),⟨by simp,(fun e=>by cases e),fun h=>by simp at h⟩⟩
  ·obtain⟨g,off,e,hg,hat⟩:=h.at_ h0
   injection e with e
   subst e;refine⟨some (A_ g off),k,fun W=>(B W).trans (by simp [sliced,BR]),⟨by simp;omega,(fun e=>by cases e),fun hp=>⟨g,off,rfl,hg,fun i hi j u hj=>?_⟩⟩⟩;rw [List.getElem_take] at hj;exact hat i (by simp at hi;omega) j u hj
theorem LK(w w9:World)(b0 b2:Nat)(x y0 y1 y2 y3 y4:Value):Aa [b0,b2] w9 ((((((w9.setCell (A_ b0 3) x).setCell (A_ b2 0) y0).setCell (A_ b2 1) y1).setCell (A_ b2 2) y2).setCell (A_ b2 3) y3).setCell (A_ b2 4) y4):=
 ((Ae w9 b0 3 x).mono bA).trans ((((((Ae _ b2 0 y0).trans (Ae _ b2 1 y1)).trans (Ae _ b2 2 y2)).trans (Ae _ b2 3 y3)).trans (Ae _ b2 4 y4)).mono bA)
theorem Q7{w wz w9 F:World}{v:B6}{u:TV}{gn un fn m T:Nat}{seq:Int}{E:Option Addr}{M:List TV}(N:DC v.lv u=M)(J:(DC v.lv u).length=m)(O:AR BE 8 w9 E T M)(G:Aa [] wz w9)(hz:Aa [] w wz){B:Nat}(D:∀g o,E=some (A_ g o)->B<=g)(U:w.heap.size+1+1<B)(hk:Aa [w.heap.size,w.heap.size+1+1] w9 F):
  ∃a c,pJ (pH #[pF v.s.ga gn v.s.gc,pF v.s.ua un v.s.uc,pF v.s.fa fn v.s.fc,pF E (m) T,I_ seq]) = pJ (pH #[pF v.s.ga gn v.s.gc,pF v.s.ua un v.s.uc,pF v.s.fa fn v.s.fc,pF a (DC v.lv u).length c,I_ seq])/\AR BE 8 F a c (DC v.lv u)/\Dj w a/\Aa [] w F:=by
 rw [J,N];refine⟨E,T,rfl,AR.keepsS O hk (fun g o e hm=>?_),fun g o e=>by have:=D g o e;omega,(hz.trans G).own hk (fun y hy=>?_)⟩
 ·have:=D g o e
  simp only [Ac,Ab,or_false] at hm;omega
 ·simp only [Ac,Ab,or_false] at hy
  omega
theorem Q6(v:B6)(gn un fn ln:Nat)(hln:v.lv.length=ln)(bi:ln<=1000)(seq:Int)(u:TV)(w:World)(hl:AR BE 8 w v.la v.lc v.lv):
  Calls prog 118 #[pH (R_ v gn un fn ln seq),pH (T_ u)] w fun e w'=>∃a c,e = pJ (pH #[pF v.s.ga gn v.s.gc,pF v.s.ua un v.s.uc,pF v.s.fa fn v.s.fc,pF a (DC v.lv u).length c,I_ seq])/\AR BE 8 w' a c (DC v.lv u)/\Dj w a/\Aa [] w w':=by
 obtain⟨wz,hwz⟩:=eX (((w.alloc (.cells (R_ v gn un fn ln seq) 29)).alloc (.cells (T_ u) 131)).alloc (.cells LU.k 29));have hz:Aa [] w wz:=by rw [<- hwz];exact(((Aa.refl [] w).alloc _).alloc _).alloc _
 have HB0:Hi (Blk wz w 29 (R_ v gn un fn ln seq)):=lH (by rw [<- hwz];exact((Blk.new w _ _).alloc _).alloc _);have HB1:Hi (Blk wz (w+1) 131 (T_ u)):=lH jU;have HB2:Hi (Blk wz (w+1+1) 29 LU.k):=lH aF;have HL:=lH (hl.keeps hz);have HZ:=lH hz;have HLN:=lH hln;clear hl hz hln;go_enter func118,ntmps118;go_wp2;clear hwz;go_loopw [5] (fun i wr=>∃k:Nat,i = I_ k/\k<=ln/\Hi (∀j<k,∀x,v.lv[j]? = some x->x.slot<u.slot)/\Hi (Aa [] wz wr)) (fun i _=>ln - (intOf i).toNat)
 case atStart=>exact⟨0,rfl,Ba _,lH (fun j hj=>by omega),lH (Aa.refl _ _)⟩
 case round=>
  obtain⟨k,rfl,hk,HP,HK⟩:=hrel;have d3:=(HB0.o.keeps HK.o bA).ce 3;have e0:=(HB1.o.keeps HK.o bA).ce 0;have bl:(∃x,v.lv[k]? = some x/\x.slot<u.slot)\/(∀x,v.lv[k]? = some x->¬x.slot<u.slot):=by
   cases hx:v.lv[k]? with
   | none=>exact .inr (fun x hx=>by cases hx)
   | some y=>
    by_cases hy:y.slot<u.slot
    ·exact .inl ⟨y,rfl,hy⟩
    ·exact .inr (fun x hx=>by injection hx with hx;rw [<- hx];exact hy)
  rcases bl with⟨x,hx,hlt⟩ | hno
  ·have ac:k<ln:=by rw [<- HLN.o];exact(Ad.1 hx).1
   obtain⟨g,off,x',ha,hg,ae,hat⟩:=(HL.o.keeps HK.o).at_k (k:=k) (by rw [HLN.o];exact ac);rw [hx] at ae;injection ae with ae
   subst ae;have q0:=hat 0 _ rfl;rw [AT] at q0;rw [ha] at d3;have i1:(0:Int)<=(k:Int):=bB;have i2:(k:Int)<(ln:Int):=bB;have bg:Hi (∀j<k+1,∀x,v.lv[j]? = some x->x.slot<u.slot):=lH (fun j hj y hy=>by
    rcases pP j k with h | h
    ·exact HP.o j h y hy
    ·obtain rfl:j=k:=bB;rw [hx] at hy;injection hy with hy
     rw [<- hy];exact hlt)
   clear hat hg hx ha;go_wp2;go_quiet (fail);go_wp2;go_roundw;case rel=>exact⟨k+1,by go_num,by omega,bg,lH (HK.o.drewN _)⟩
   case measure=>simp [intOf];omega
  ·have a6:(v.lv.takeWhile fun x=>decide (x.slot<u.slot)).length=k:=kU (by rw [HLN.o];exact hk) HP.o hno
   have an:=lH a6;clear a6;obtain⟨ra,rc,U,ad⟩:=AR.drop_run DB (fun W=>by kernel_rfl) (HL.o.keeps HK.o) k (by rw [HLN.o];exact hk);obtain⟨ta,tc,a5,ap⟩:=AR.take_run DB (HL.o.keeps HK.o) k (by rw [HLN.o];exact hk);rw [HLN.o] at U a5;have am:=lH ad;have HTS:=lH ap;by_cases ac:k<ln
   ·obtain⟨g,off,x,ha,hg,hx,hat⟩:=(HL.o.keeps HK.o).at_k (k:=k) (by rw [HLN.o];exact ac)
    have a4:=hno x hx;have q0:=hat 0 _ rfl;rw [AT] at q0;obtain⟨g2,ab,x2,bj,hg2,hx2,hat2⟩:=ad.at_k (k:=0) (by rw [B1,HLN.o];omega);have q2:=hat2 0 _ rfl;simp only [AT,Nat.zero_mul] at q2;have bm:x2=x:=by
     rw [List.getElem?_drop,AT,hx] at hx2;injection hx2 with hx2
     exact hx2.symm
    subst bm;subst bj;rw [ha] at d3 U a5;have i1:(0:Int)<=(k:Int):=bB;have i2:(k:Int)<(ln:Int):=bB;have i3:(0:Int)<((ln - k:Nat):Int):=bB;have i4:decide (x2.slot<u.slot)=false:=decide_eq_false a4;have HX:=lH hx;clear hat hat2 hg hg2 hx hx2 ad ap a4;have aw:Hi (v.lv.drop k=x2::v.lv.drop (k+1)):=lH (by
     have hl:=(Ad.1 HX.o);obtain⟨h1,h2⟩:=hl;rw [List.drop_eq_getElem_cons h1,h2])
    have i5:(0:Int)<((ln:Int) - (k:Int)):=bB;by_cases hq:x2.slot=u.slot
    ·have f7:(x2.slot==u.slot)=true:=Tb;obtain⟨rb,rd,X,Y⟩:=AR.drop_run DB (fun W=>by kernel_rfl) am.o 1 (by rw [B1,HLN.o];omega);rw [B1,HLN.o] at X;obtain⟨nr,ao⟩:=eX (ln - k - 1);obtain⟨nk,M⟩:=eX (ln - k);rw [ao] at X;rw [M] at X U i3;have bh:Hi (AR BE 8 wr rb rd (v.lv.drop (k+1))):=lH (by rw [List.drop_drop] at Y;exact Y);have ax:=lH ao;have al:=lH M;have af:0<nk:=bB;have ck:decide (0<nk)=true:=decide_eq_true af;have cl:decide ((0:Int)<(nk:Int))=true:=decide_eq_true i3;have cm:((1:Int)<=(nk:Int)):=bB;have bp:1<=nk:=af;clear Y ao M;have b9:∀W,(AV 27 (pF (some (A_ g2 ab)) nk rc) (some (I_ 1)) none none).run prog W = .ok (pF rb nr rd) W:=fun W=>X W;clear X;go_wp2;go_quiet (fail);go_wp2_with fail;go_quiet (fail);go_upto_region 7 with fail
     have D:=lH ((HB1.o.keeps HK.o bA));have b0:=D.out.ce 0;have b1:=D.out.ce 1;have b2:=D.out.ce 2;have b3:=D.out.ce 3;have b4:=D.out.ce 4;have b5:=D.out.ce 5;have b6:=D.out.ce 6;have b7:=D.out.ce 7;have az:∀n,((wr.drewN n).alloc (.cells (T_ u) 131)).cell? (A_ w 3)=some (pF (some (A_ g off)) ln v.lc):=fun n=>Ct (w:=wr.drewN n) d3 _;have T:∀n,Aa [] wr (((wr.drewN n).alloc (.cells (T_ u) 131)).alloc (.cells #[pF ta k tc,pF (some (A_ wr 0)) 1 1,pF rb nr rd] 27)):=fun n=>(((Aa.refl [] wr).drewN n).alloc _).alloc _;have J:Hi ((v.lv.take k).length=k):=lH (by rw [Ax,HLN.o,DE bB]);have G:Hi ((v.lv.drop (k+1)).length=nr):=lH (by rw [B1,HLN.o];have:=ax.o;omega);have N:Hi (nr<=1000):=lH (by have h1:=ax.o;omega);have F:w.heap.size+1+1<wr.heap.size:=BS HB2.o.lt HK.o.size;have HPV:Hi (DC v.lv u=v.lv.take k++[u]++v.lv.drop (k+1)):=lH (by
      unfold DC;rw [an.o,aw.o];dsimp only;rw [if_pos hq])
     have O:Hi ((DC v.lv u).length=k+1+nr):=lH (by
      rw [HPV.o,Al,Al,J.o,G.o];rfl)
     refine wp_region_held_drew (S:=(fun _:World=>True)) bC trivial (fun hHeld=>?_)
     repeat' (first | exact rZ | refine rX ?_ | ((first | (refine rA 1 (fun K hK=>?_) ?_;go_simp) | (refine rA 5 (fun K hK=>?_) ?_;go_simp) | (refine rA 6 (fun K hK=>?_) ?_;go_simp) | (refine rA 8 (fun K hK=>?_) ?_;go_simp) | (refine rA 9 (fun K hK=>?_) ?_;go_simp;(refine(JW (wr+1) 27 ta (some (A_ wr 0)) rb tc 1 rd k 1 nr (v.lv.take k) [u] (v.lv.drop (k+1)) J.o rfl G.o bB (by have:=N.o;omega) _ (Ar _ _ _ _ bA) (HTS.o.keeps (T _)) (AR.of_cells CF (Blk.alloc (Ar _ 131 (T_ u) wr bA) _) bA (by simp [BE])) (bh.o.keeps (T _))).mono ?_;rintro e w9 ⟨xa,xc,rfl,aa,hk9,E⟩;have B:Aa [] wz w9:=(HK.o.trans (T _)).trans hk9;have E:∀g o,xa=some (A_ g o)->wr.heap.size<=g:=(fun g o e=>by(have:=E g o e;simp at this;omega));have e3:=(HB0.o.keeps B bA).cell 3;have f3:=(HB0.o.keeps B bA).frozen 3;simp only [An,Aj,Ao] at e3)) | (refine rA 11 (fun K hK=>?_) ?_;go_simp));refine rO hK trivial fun hHeld=>?_;clear hK K) | (refine rQ 0 ?_;refine rQ 2 ?_;refine rQ 3 ?_;refine rQ 7 ?_) | (refine rQ 4 ?_) | (refine rQ 10 ?_) | refine rB [1,5,6,8,9,11] ?_ | (refine wpAnyH_done bC ?_ _;(have g0:=(HB0.o.keeps B bA).cell 0;have g1:=(HB0.o.keeps B bA).cell 1;have g2:=(HB0.o.keeps B bA).cell 2;have g4:=(HB0.o.keeps B bA).cell 4;have z0:=(HB2.o.keeps B bA).cell 0;have z1:=(HB2.o.keeps B bA).cell 1;have z2:=(HB2.o.keeps B bA).cell 2;have z3:=(HB2.o.keeps B bA).cell 3;have z4:=(HB2.o.keeps B bA).cell 4;have y0:=(HB2.o.keeps B bA).frozen 0;have y1:=(HB2.o.keeps B bA).frozen 1;have y2:=(HB2.o.keeps B bA).frozen 2;have y3:=(HB2.o.keeps B bA).frozen 3;have y4:=(HB2.o.keeps B bA).frozen 4;simp only [An,Aj,Ao] at g0 g1 g2 g4 z0 z1 z2 z3 z4;go_wp2_with fail;exact bodyPost_ret (v:=pH #[pF v.s.ga gn v.s.gc,pF v.s.ua un v.s.uc,pF v.s.fa fn v.s.fc,pF xa (k+1+nr) xc,I_ seq]) (by simp [results,results118,go_sem,z0,z1,z2,z3,z4]) rfl (Q7 HPV.o O.o aa B HZ.o E F (LK w w9 _ _ _ _ _ _ _ _)))))
    ·have f7:(x2.slot==u.slot)=false:=Tb;obtain⟨nk,M⟩:=eX (ln - k);rw [M] at U i3;have al:=lH M;have af:0<nk:=bB;have bp:1<=nk:=af;clear M;go_wp2;go_quiet (fail);go_wp2_with fail;go_quiet (fail);go_upto_region 7 with fail
     have D:=lH ((HB1.o.keeps HK.o bA));have b0:=D.out.ce 0;have b1:=D.out.ce 1;have b2:=D.out.ce 2;have b3:=D.out.ce 3;have b4:=D.out.ce 4;have b5:=D.out.ce 5;have b6:=D.out.ce 6;have b7:=D.out.ce 7;have az:∀n,((wr.drewN n).alloc (.cells (T_ u) 131)).cell? (A_ w 3)=some (pF (some (A_ g off)) ln v.lc):=fun n=>Ct (w:=wr.drewN n) d3 _;have T:∀n,Aa [] wr (((wr.drewN n).alloc (.cells (T_ u) 131)).alloc (.cells #[pF ta k tc,pF (some (A_ wr 0)) 1 1,pF (some (A_ g2 ab)) nk rc] 27)):=fun n=>(((Aa.refl [] wr).drewN n).alloc _).alloc _;have J:Hi ((v.lv.take k).length=k):=lH (by rw [Ax,HLN.o,DE bB]);have G:Hi ((v.lv.drop k).length=nk):=lH (by rw [B1,HLN.o];have:=al.o;omega);have N:Hi (nk<=1000):=lH (by have h1:=al.o;omega);have F:w.heap.size+1+1<wr.heap.size:=BS HB2.o.lt HK.o.size;have HPV:Hi (DC v.lv u=v.lv.take k++[u]++v.lv.drop k):=lH (by
      unfold DC;rw [an.o,aw.o];dsimp only;rw [if_neg hq])
     have O:Hi ((DC v.lv u).length=k+1+nk):=lH (by
      rw [HPV.o,Al,Al,J.o,G.o];rfl)
     refine wp_region_held_drew (S:=(fun _:World=>True)) bC trivial (fun hHeld=>?_)
     repeat' (first | exact rZ | refine rX ?_ | ((first | (refine rA 1 (fun K hK=>?_) ?_;go_simp) | (refine rA 5 (fun K hK=>?_) ?_;go_simp) | (refine rA 6 (fun K hK=>?_) ?_;go_simp) | (refine rA 8 (fun K hK=>?_) ?_;go_simp) | (refine rA 9 (fun K hK=>?_) ?_;go_simp;(refine(JW (wr+1) 27 ta (some (A_ wr 0)) (some (A_ g2 ab)) tc 1 rc k 1 nk (v.lv.take k) [u] (v.lv.drop k) J.o rfl G.o bB (by have:=N.o;omega) _ (Ar _ _ _ _ bA) (HTS.o.keeps (T _)) (AR.of_cells CF (Blk.alloc (Ar _ 131 (T_ u) wr bA) _) bA (by simp [BE])) (am.o.keeps (T _))).mono ?_;rintro e w9 ⟨xa,xc,rfl,aa,hk9,E⟩;have B:Aa [] wz w9:=(HK.o.trans (T _)).trans hk9;have E:∀g o,xa=some (A_ g o)->wr.heap.size<=g:=(fun g o e=>by(have:=E g o e;simp at this;omega));have e3:=(HB0.o.keeps B bA).cell 3;have f3:=(HB0.o.keeps B bA).frozen 3;simp only [An,Aj,Ao] at e3)) | (refine rA 11 (fun K hK=>?_) ?_;go_simp));refine rO hK trivial fun hHeld=>?_;clear hK K) | (refine rQ 0 ?_;refine rQ 2 ?_;refine rQ 3 ?_;refine rQ 7 ?_) | (refine rQ 4 ?_) | (refine rQ 10 ?_) | refine rB [1,5,6,8,9,11] ?_ | (refine wpAnyH_done bC ?_ _;(have g0:=(HB0.o.keeps B bA).cell 0;have g1:=(HB0.o.keeps B bA).cell 1;have g2:=(HB0.o.keeps B bA).cell 2;have g4:=(HB0.o.keeps B bA).cell 4;have z0:=(HB2.o.keeps B bA).cell 0;have z1:=(HB2.o.keeps B bA).cell 1;have z2:=(HB2.o.keeps B bA).cell 2;have z3:=(HB2.o.keeps B bA).cell 3;have z4:=(HB2.o.keeps B bA).cell 4;have y0:=(HB2.o.keeps B bA).frozen 0;have y1:=(HB2.o.keeps B bA).frozen 1;have y2:=(HB2.o.keeps B bA).frozen 2;have y3:=(HB2.o.keeps B bA).frozen 3;have y4:=(HB2.o.keeps B bA).frozen 4;simp only [An,Aj,Ao] at g0 g1 g2 g4 z0 z1 z2 z3 z4;go_wp2_with fail;exact bodyPost_ret (v:=pH #[pF v.s.ga gn v.s.gc,pF v.s.ua un v.s.uc,pF v.s.fa fn v.s.fc,pF xa (k+1+nk) xc,I_ seq]) (by simp [results,results118,go_sem,z0,z1,z2,z3,z4]) rfl (Q7 HPV.o O.o aa B HZ.o E F (LK w w9 _ _ _ _ _ _ _ _)))))
   ·obtain rfl:k=ln:=bB;have a7:k - k=0:=bB;rw [a7] at U;have i2:¬(k:Int)<(k:Int):=bB;clear ad ap hno ac a7;go_wp2;go_quiet (fail);go_wp2_with fail;go_quiet (fail);go_upto_region 7 with fail
    have D:=lH ((HB1.o.keeps HK.o bA));have b0:=D.out.ce 0;have b1:=D.out.ce 1;have b2:=D.out.ce 2;have b3:=D.out.ce 3;have b4:=D.out.ce 4;have b5:=D.out.ce 5;have b6:=D.out.ce 6;have b7:=D.out.ce 7;have az:∀n,((wr.drewN n).alloc (.cells (T_ u) 131)).cell? (A_ w 3)=some (pF v.la k v.lc):=fun n=>Ct (w:=wr.drewN n) d3 _;have T:∀n,Aa [] wr (((wr.drewN n).alloc (.cells (T_ u) 131)).alloc (.cells #[pF ta k tc,pF (some (A_ wr 0)) 1 1,pF ra 0 rc] 27)):=fun n=>(((Aa.refl [] wr).drewN n).alloc _).alloc _;have J:Hi ((v.lv.take k).length=k):=lH (by rw [Ax,HLN.o,Nat.min_self]);have F:w.heap.size+1+1<wr.heap.size:=BS HB2.o.lt HK.o.size;have HPV:Hi (DC v.lv u=v.lv.take k++[u]++v.lv.drop k):=lH (by
     unfold DC;rw [an.o,List.drop_of_length_le lM])
    have O:Hi ((DC v.lv u).length=k+1):=lH (by
     rw [HPV.o,Al,Al,Ax,B1,HLN.o];simp)
    have G:Hi ((v.lv.drop k).length=0):=lH (by rw [B1,HLN.o,Nat.sub_self]);refine wp_region_held_drew (S:=(fun _:World=>True)) bC trivial (fun hHeld=>?_)
    repeat' (first | exact rZ | refine rX ?_ | ((first | (refine rA 1 (fun K hK=>?_) ?_;go_simp) | (refine rA 5 (fun K hK=>?_) ?_;go_simp) | (refine rA 6 (fun K hK=>?_) ?_;go_simp) | (refine rA 8 (fun K hK=>?_) ?_;go_simp) | (refine rA 9 (fun K hK=>?_) ?_;go_simp;(refine(JW (wr+1) 27 ta (some (A_ wr 0)) ra tc 1 rc k 1 0 (v.lv.take k) [u] (v.lv.drop k) J.o rfl G.o bB bB _ (Ar _ _ _ _ bA) (HTS.o.keeps (T _)) (AR.of_cells CF (Blk.alloc (Ar _ 131 (T_ u) wr bA) _) bA (by simp [BE])) (am.o.keeps (T _))).mono ?_;rintro e w9 ⟨xa,xc,rfl,aa,hk9,E⟩;have B:Aa [] wz w9:=(HK.o.trans (T _)).trans hk9;have E:∀g o,xa=some (A_ g o)->wr.heap.size<=g:=(fun g o e=>by(have:=E g o e;simp at this;omega));have e3:=(HB0.o.keeps B bA).cell 3;have f3:=(HB0.o.keeps B bA).frozen 3;simp only [An,Aj,Ao] at e3)) | (refine rA 11 (fun K hK=>?_) ?_;go_simp));refine rO hK trivial fun hHeld=>?_;clear hK K) | (refine rQ 0 ?_;refine rQ 2 ?_;refine rQ 3 ?_;refine rQ 7 ?_) | (refine rQ 4 ?_) | (refine rQ 10 ?_) | refine rB [1,5,6,8,9,11] ?_ | (refine wpAnyH_done bC ?_ _;(have g0:=(HB0.o.keeps B bA).cell 0;have g1:=(HB0.o.keeps B bA).cell 1;have g2:=(HB0.o.keeps B bA).cell 2;have g4:=(HB0.o.keeps B bA).cell 4;have z0:=(HB2.o.keeps B bA).cell 0;have z1:=(HB2.o.keeps B bA).cell 1;have z2:=(HB2.o.keeps B bA).cell 2;have z3:=(HB2.o.keeps B bA).cell 3;have z4:=(HB2.o.keeps B bA).cell 4;have y0:=(HB2.o.keeps B bA).frozen 0;have y1:=(HB2.o.keeps B bA).frozen 1;have y2:=(HB2.o.keeps B bA).frozen 2;have y3:=(HB2.o.keeps B bA).frozen 3;have y4:=(HB2.o.keeps B bA).frozen 4;simp only [An,Aj,Ao] at g0 g1 g2 g4 z0 z1 z2 z3 z4;go_wp2_with fail;exact bodyPost_ret (v:=pH #[pF v.s.ga gn v.s.gc,pF v.s.ua un v.s.uc,pF v.s.fa fn v.s.fc,pF xa (k+1) xc,I_ seq]) (by simp [results,results118,go_sem,z0,z1,z2,z3,z4]) rfl (Q7 HPV.o O.o aa B HZ.o E F (LK w w9 _ _ _ _ _ _ _ _)))))
theorem Blk.put5{w:World}{g:Nat}{t:TypeId}{x0 x1 x2 x3 x4:Value}(h:Blk w g t #[x0,x1,x2,x3,x4])(a b c d e:Value):Blk (((((w.setCell (A_ g 0) a).setCell (A_ g 1) b).setCell (A_ g 2) c).setCell (A_ g 3) d).setCell (A_ g 4) e) g t #[a,b,c,d,e]:=((((h.set_ 0 a).set_ 1 b).set_ 2 c).set_ 3 d).set_ 4 e
theorem G6(w:World)(g:Nat)(a b c d e:Value):Aa [g] w (((((w.setCell (A_ g 0) a).setCell (A_ g 1) b).setCell (A_ g 2) c).setCell (A_ g 3) d).setCell (A_ g 4) e):=((((Ae w g 0 a).trans (Ae _ g 1 b)).trans (Ae _ g 2 c)).trans (Ae _ g 3 d)).trans (Ae _ g 4 e)
structure IF(B:Nat)(v:B6):Prop where
 s:Ja B v.s
 l:Dj B v.la
 t:∀u∈v.lv,Kx B u
theorem Ja.mono{B B':Nat}{v:DF}(h:Ja B v)(hb:B'<=B):Ja B' v:=⟨Dj.mono h.1 hb,Dj.mono h.2.1 hb,Dj.mono h.2.2 hb⟩
theorem IF.mono{B B':Nat}{v:B6}(h:IF B v)(hb:B'<=B):IF B' v:=⟨h.s.mono hb,h.l.mono hb,fun u hu=>(h.t u hu).mono hb⟩
theorem Cj.ge{w w':World}{u:TV}{t:Ten}{B:Nat}{S:List Nat}(h:Cj w u t)(hg:Kx B u)(hk:Aa S w w')(hS:∀y∈S,y<B):Cj w' u t:=h.keepsS hk (Dj.out hg.1 hS) (Dj.out hg.2 hS)
theorem AX.ge{w w':World}{B:Nat}{S:List Nat}(hk:Aa S w w')(hS:∀y∈S,y<B):∀ {V:List TV} {L:List Ten},AX w V L->(∀u∈V,Kx B u)->AX w' V L
 | [],[],_,_=>trivial
 | _::_,_::_,h,hg=>⟨h.1.ge (hg _ bA) hk hS,AX.ge hk hS h.2 (fun u hu=>hg u (by simp [hu]))⟩
 | [],_::_,h,_=>h.elim
 | _::_,[],h,_=>h.elim
theorem Dy.ge{w w':World}{v:DF}{s:Fz}{B:Nat}{S:List Nat}(h:Dy w v s)(hg:Ja B v)(hk:Aa S w w')(hS:∀y∈S,y<B):Dy w' v s:=h.keepsS hk (Dj.out hg.1 hS) (Dj.out hg.2.1 hS) (Dj.out hg.2.2 hS)
theorem CH.ge{w w':World}{v:B6}{r:CJ}{B:Nat}{S:List Nat}(h:CH w v r)(hg:IF B v)(hk:Aa S w w')(hS:∀y∈S,y<B):CH w' v r:=
 { h with s:=h.s.ge hg.s hk hS,l:=h.l.keepsS hk (Dj.out hg.l hS),t:=AX.ge hk hS h.t hg.t }
theorem Y1(n:Int)(w:World):Calls prog 57 #[pE pK n] w fun e w'=>∃v gn un fn,e = pJ (.tuple #[pH #[pF v.ga gn v.gc,pF v.ua un v.uc,pF v.fa fn v.fc,pF none 0 0,I_ 0],I_ (IU n).2])/\(IU n).1.gens.length=gn/\(IU n).1.used.length=un/\(IU n).1.free.length=fn/\Dy w' v (IU n).1/\Ja w v/\Aa [] w w':=by
 obtain⟨wz,hwz⟩:=eX (w.alloc (.cells LU.k 29));have HZ:Hi (Aa [] w wz):=lH jV;have HSZ:Hi (wz.heap.size=w.heap.size+1):=lH gA;have HB:Hi (Blk wz w 29 LU.k):=lH nN;go_enter func57,ntmps57;go_wp2_with fail;clear hwz;refine(aM n wz).mono ?_;rintro e w1 ⟨x,rfl,⟨v,gn,un,fn,rfl,h1,h2,h3,hm,D⟩,hk⟩;obtain⟨wa,E⟩:=eX (w1.alloc (.cells (S_ v gn un fn) 26));have B:Aa [] w1 wa:=by rw [<- E];exact(Aa.refl [] w1).alloc _
 have hb:=HB.o.keeps (hk.trans B) bA;have hs:Blk wa w1 26 (S_ v gn un fn):=by rw [<- E];exact Blk.new w1 _ _
 have z:=hb.cell;have y:=hb.frozen;have s:=hs.cell;have HFIN:Hi (∀F,Aa [w.heap.size] wa F->Dy F v (IU n).1/\Ja w v/\Aa [] w F):=lH fun F hkf=>by
  have hx:=(HZ.o.trans hk).trans B;have hsz:=HSZ.o;exact⟨(hm.keeps B).ge D hkf bF,D.mono bB,hx.own hkf bF⟩
 clear hm hk D B hb hs;go_wp2_with fail;refine bodyPost_ret (v:=.tuple #[pH #[pF v.ga gn v.gc,pF v.ua un v.uc,pF v.fa fn v.fc,pF none 0 0,I_ 0],I_ (IU n).2]) (by simp [results,results57,go_sem,z]) rfl ⟨v,gn,un,fn,rfl,h1,h2,h3,HFIN.o _ bJ⟩
theorem DQ{w:World}{B k n c sz:Nat}{e:TypeId}{a:Option Addr}{xs:List Value}(h:w.ownsRow B e sz (pF a n c) k xs):Dj B a:=fun g o e=>(h.lt g (by rw [e];rfl)).1
theorem ZR(u:TV)(t:Ten)(seq:Int)(w:World)(ht:Cj w u t)(hr:u.rl<=1000)(O:u.cl<=1000):
  Calls prog 109 #[pH (U_ u seq)] w fun e w'=>∃ra rc ca cc,e = pJ (pH #[pE pK u.slot,I_ u.gen,Dz u.name,I_ u.state,I_ u.version,pF ra u.rl rc,pF ca u.cl cc,I_ u.deadline])/\w'.ownsRow w 55 5 (pF ra u.rl rc) u.rl (t.rules.flatMap B8)/\w'.ownsRow w 209 4 (pF ca u.cl cc) u.cl (t.creds.flatMap BT)/\Aa [] w w':=by
 obtain⟨wz,hwz⟩:=eX ((w.alloc (.cells (U_ u seq) 166)).alloc (.cells OC.k 131));have hz:Aa [] w wz:=by rw [<- hwz];exact((Aa.refl [] w).alloc _).alloc _
 have HB0:Hi (Blk wz w 166 (U_ u seq)):=lH kI;have HB1:Hi (Blk wz (w+1) 131 OC.k):=lH aF;have HSZ:Hi (wz.heap.size=w.heap.size+1+1):=lH gA;have HR:=lH (fun W (hk:Aa [] wz W)=>KB u.ra u.rc t.rules u.rl ht.rl bB W (ht.rs.keeps (hz.trans hk)));have HC:=lH (fun W (hk:Aa [] wz W)=>XY u.ca u.cc t.creds u.cl ht.cl bB W (ht.cs.keeps (hz.trans hk)));have HZ:=lH hz;have M:=lH ht.rl;have J:=lH ht.cl;have b:=HB0.o.cell;have HFIN:Hi (∀(w2 B:World) (ra ca:Option Addr) (rc cc:Nat),w2.ownsRow wz 55 5 (pF ra u.rl rc) u.rl (t.rules.flatMap B8)->w2.ownsRow wz 209 4 (pF ca u.cl cc) u.cl (t.creds.flatMap BT)->Aa [] wz w2->Aa [w.heap.size,w.heap.size+1] w2 B->
   ∃a c b d,pJ (pH #[pE pK u.slot,I_ u.gen,Dz u.name,I_ u.state,I_ u.version,pF ra u.rl rc,pF ca u.cl cc,I_ u.deadline]) = pJ (pH #[pE pK u.slot,I_ u.gen,Dz u.name,I_ u.state,I_ u.version,pF a u.rl c,pF b u.cl d,I_ u.deadline])/\B.ownsRow w 55 5 (pF a u.rl c) u.rl (t.rules.flatMap B8)/\B.ownsRow w 209 4 (pF b u.cl d) u.cl (t.creds.flatMap BT)/\Aa [] w B):=lH fun w2 B ra ca rc cc h1 h2 N D=>by
  have hs:=HSZ.o;have hS:∀y∈[w.heap.size,w.heap.size+1],y<wz.heap.size:=fun y hy=>by simp only [Ac,Ab,or_false] at hy;omega
  have hn:∀y,wz.heap.size<=y->y∉[w.heap.size,w.heap.size+1]:=fun y hy hm=>by have:=hS y hm;omega
  exact⟨ra,rc,ca,cc,rfl,Bw (Ah h1 D (fun g hg=>hn g (h1.lt g hg).1)) bB,Bw (Ah h2 D (fun g hg=>hn g (h2.lt g hg).1)) bB,(hz.trans N).own D bF⟩
 clear hz ht hr O;go_enter func109,ntmps109;go_wp2;clear hwz;refine wp_region_held_drew (S:=(fun W:World=>True)) bC trivial (fun hHeld=>?_)
 repeat' (first | exact rZ | refine rX ?_ | ((first | (refine rA 2 (fun K hK=>?_) ?_;go_simp) | (refine rA 3 (fun K hK=>?_) ?_;go_simp;(refine(HR.o _ ((Aa.refl [] wz).drew)).mono ?_;rintro e w1 ⟨ra,rc,rfl,U,G,F⟩;have hk1:Aa [] wz w1:=((Aa.refl [] wz).drew).trans F;have c:=(HB0.o.keeps hk1 bA).cell)) | (refine rA 6 (fun K hK=>?_) ?_;go_simp) | (refine rA 7 (fun K hK=>?_) ?_;go_simp;(refine(HC.o _ hk1).mono ?_;rintro e w2 ⟨ca,cc,rfl,T,E,hck⟩;have hk2:Aa [] wz w2:=hk1.trans hck;have f:=(HB0.o.keeps hk2 bA).frozen;have d:=(HB0.o.keeps hk2 bA).cell)) | (refine rA 10 (fun K hK=>?_) ?_;go_simp) | (refine rA 13 (fun K hK=>?_) ?_;go_simp));refine rO hK trivial fun hHeld=>?_;clear hK K) | (refine rQ 0 ?_;refine rQ 1 ?_;refine rQ 4 ?_;refine rQ 5 ?_) | (refine rQ 8 ?_;refine rQ 9 ?_) | (refine rQ 11 ?_;refine rQ 12 ?_) | refine rB [2,3,6,7,10,13] ?_ | (refine wpAnyH_done bC ?_ _;(have x:=(HB1.o.keeps hk2 bA).cell;have y:=(HB1.o.keeps hk2 bA).frozen;go_wp2_with fail;exact bodyPost_ret (v:=pH #[pE pK u.slot,I_ u.gen,Dz u.name,I_ u.state,I_ u.version,pF ra u.rl rc,pF ca u.cl cc,I_ u.deadline]) (by simp [results,results109,go_sem,x]) rfl (HFIN.o w2 _ ra ca rc cc (Ah G hck (fun g hg=>by simp)) (Bw E hk1.size) hk2 bJ))))
structure PH(w:World)(B:Nat)(v:TV)(t:Ten):Prop where
 m:Cj w v t
 r:w.ownsRow B 55 5 (pF v.ra v.rl v.rc) v.rl (t.rules.flatMap B8)
 c:w.ownsRow B 209 4 (pF v.ca v.cl v.cc) v.cl (t.creds.flatMap BT)
def EK(w:World)(B:Nat):List TV->List Ten->Prop
 | [],[]=>True
 | v::V,t::L=>PH w B v t/\EK w B V L
 | _,_=>False
def U3(w:World)(B:Nat)(S:List Nat):Prop:=∀y∈S,y<B\/∃cs,Blk w y 131 cs
theorem PH.keeps{w w':World}{B:Nat}{v:TV}{t:Ten}{S:List Nat}(h:PH w B v t)(hk:Aa S w w')(hS:U3 w B S):PH w' B v t:=by
 have hr:∀g,(pF v.ra v.rl v.rc).ownBlock=some g->g∉S:=fun g hg hm=>by
  rcases hS g hm with h1 | ⟨cs,h1⟩
  ·have:=(h.r.lt g hg).1
   omega
  ·exact CX h.r h1 bE g hg rfl
 have E:∀g,(pF v.ca v.cl v.cc).ownBlock=some g->g∉S:=fun g hg hm=>by
  rcases hS g hm with h1 | ⟨cs,h1⟩
  ·have:=(h.c.lt g hg).1
   omega
  ·exact CX h.c h1 bE g hg rfl
 have D:=Ah h.r hk hr;have c2:=Ah h.c hk E;exact⟨{ h.m with rs:=AR.row Cv (by rw [h.m.rl];exact D),cs:=AR.row D0 (by rw [h.m.cl];exact c2) },D,c2⟩
theorem EK.keeps{w w':World}{B:Nat}{S:List Nat}(hk:Aa S w w')(hS:U3 w B S):∀ {V:List TV} {L:List Ten},EK w B V L->EK w' B V L
 | [],[],_=>trivial
 | _::_,_::_,h=>⟨h.1.keeps hk hS,EK.keeps hk hS h.2⟩
 | [],_::_,h=>h.elim
 | _::_,[],h=>h.elim
theorem EK.m{w:World}{B:Nat}: ∀ {V:List TV} {L:List Ten},EK w B V L->AX w V L
 | [],[],_=>trivial
 | _::_,_::_,h=>⟨h.1.m,EK.m h.2⟩
 | [],_::_,h=>h.elim
 | _::_,[],h=>h.elim
theorem EK.ge{w:World}{B:Nat}: ∀ {V:List TV} {L:List Ten},EK w B V L->∀u∈V,Kx B u
 | [],[],_,u,hu=>by simp at hu
 | _::_,_::_,h,u,hu=>by
  rcases Ac.1 hu with rfl | hu
  ·exact⟨fun g o e=>(h.1.r.lt g (by rw [e];rfl)).1,fun g o e=>(h.1.c.lt g (by rw [e];rfl)).1⟩
  ·exact EK.ge h.2 u hu
 | [],_::_,h,_,_=>h.elim
 | _::_,[],h,_,_=>h.elim
theorem EK.snoc{w:World}{B:Nat}{x:TV}{t:Ten}(hx:PH w B x t):∀ {V:List TV} {L:List Ten},EK w B V L->EK w B (V++[x]) (L++[t])
 | [],[],_=>⟨hx,trivial⟩
 | _::_,_::_,h=>⟨h.1,EK.snoc hx h.2⟩
 | [],_::_,h=>h.elim
 | _::_,[],h=>h.elim
theorem EK.len{w:World}{B:Nat}{V:List TV}{L:List Ten}(h:EK w B V L):V.length=L.length:=AX.len h.m
structure fK(w:World)(v:B6)(gn un fn ln:Nat)(seq:Int)(L:List Ten)(xa:Option Addr)(xc:Nat)(xs:List TV)(A:World):Prop where
 row:A.ownsRow (w.heap.size+6) 131 8 (pF xa xs.length xc) xs.length (xs.flatMap BE)
 ob:Blk A (w.heap.size+1+1) 27 #[pF xa xs.length xc]
 t:EK A (w.heap.size+6) xs L
 rb:Blk A w.heap.size 29 (R_ v gn un fn ln seq)
 r2:Blk A (w.heap.size+1) 29 LU.k
 pb:Blk A (w.heap.size+3) 29 (R_ v gn un fn ln seq)
 kw:Aa [] w A
def fJ(w:World)(v:B6)(gn un fn ln:Nat)(seq:Int)(L:List Ten)(A:World):Prop:=∃xa xc xs,fK w v gn un fn ln seq L xa xc xs A
theorem fK.keeps{w:World}{v:B6}{gn un fn ln:Nat}{seq:Int}{L:List Ten}{D:Option Addr}{E:Nat}{xs:List TV}{A B:World}{S:List Nat}(h:fK w v gn un fn ln seq L D E xs A)(hk:Aa S A B)(hS:∀y∈S,w.heap.size+4<=y/\y<w.heap.size+6):fK w v gn un fn ln seq L D E xs B:=by
 have hn:∀y,y<w.heap.size+4->y∉S:=fun y hy hm=>by have:=hS y hm;omega
 exact⟨Ah h.row hk (fun g hg2 hm=>by have:=(h.row.lt g hg2).1;have:=hS g hm;omega),h.ob.keeps hk (hn _ bB),h.t.keeps hk (fun y hy=>.inl (hS y hy).2),h.rb.keeps hk (hn _ bB),h.r2.keeps hk (hn _ bB),h.pb.keeps hk (hn _ bB),h.kw.own hk bM⟩
theorem fJ.keeps{w:World}{v:B6}{gn un fn ln:Nat}{seq:Int}{L:List Ten}{A B:World}{S:List Nat}(h:fJ w v gn un fn ln seq L A)(hk:Aa S A B)(hS:∀y∈S,w.heap.size+4<=y/\y<w.heap.size+6):fJ w v gn un fn ln seq L B:=by
 obtain⟨D,E,xs,h⟩:=h;exact⟨D,E,xs,h.keeps hk hS⟩
theorem fK.push{w:World}{v:B6}{gn un fn ln:Nat}{seq:Int}{L:List Ten}{J:Option Addr}{M:Nat}{xs:List TV}{A:World}(h:fK w v gn un fn ln seq L J M xs A)(hl:L.length<=1000)(hA:w.heap.size+6<=A.heap.size){z:TV}{t:Ten}(hz:PH A (w.heap.size+6) z t):
  ∃g n c W3,(BI #[27,27] 27 #[pF J xs.length M,pF (some (A_ A 0)) 1 1]).run prog (A.alloc (.cells (BE z).toArray 131)) = .ok (pF (some (A_ g 0)) n c) W3/\
   Blk W3 (w+1+1) 27 #[pF J xs.length M]/\fJ w v gn un fn ln seq (L++[t]) (W3.setCell (A2 w 0) (pF (some (A_ g 0)) n c))/\
   A.heap.size<=(W3.setCell (A2 w 0) (pF (some (A_ g 0)) n c)).heap.size/\∀y∈[w.heap.size+4,w.heap.size+5],(W3.setCell (A2 w 0) (pF (some (A_ g 0)) n c)).heap[y]? = A.heap[y]?:=by
 obtain⟨g,c,W3,F,B,hk3,T⟩:=CO (enc:=BE) prog (t:=27) underlying27 Io bE CF FB h.row hA z (by have:=h.t.len;omega) 27;have hgeS:=AZ h.row;have hne:∀y,y<w.heap.size+6->y∉(pF J xs.length M).ownBlock.toList:=fun y hy hm=>by have:=hgeS y hm;omega
 have E:=h.ob.keeps hk3 (hne _ bB);have hN:U3 A (w.heap.size+6) (pF J xs.length M).ownBlock.toList:=fun y hy=>.inr (DP h.row bU);have hk4:Aa [w.heap.size+1+1] W3 (W3.setCell (A2 w 0) (pF (some (A_ g 0)) (xs.length+1) c)):=Ae _ _ _ _;have D:∀y∈[w.heap.size+1+1],y<w.heap.size+6:=fun y hy=>by simp only [Ac,Ab,or_false] at hy;omega
 refine⟨g,_,c,W3,F,E,⟨some (A_ g 0),c,xs++[z],?_⟩,?_,?_⟩
 ·have h9:=Ah B hk4 (fun O N hm'=>by have:=(B.lt O N).1;have:=D _ hm';omega)
  rw [Al,Bp] at h9;refine⟨by rw [Al,Bp];exact h9,by rw [Al,Bp];exact E.set_ 0 _,((h.t.snoc hz).keeps hk3 hN).keeps hk4 (fun y hy=>.inl (D y hy)),(h.rb.keeps hk3 (hne _ bB)).keeps hk4 bI,(h.r2.keeps hk3 (hne _ bB)).keeps hk4 bA,(h.pb.keeps hk3 (hne _ bB)).keeps hk4 bA,(h.kw.own hk3 jW).own hk4 bF⟩
 ·exact A8 hk3.size hk4.size
 ·intro y hy
  have G:y<w.heap.size+6/\y≠w.heap.size+1+1:=by simp only [Ac,Ab,or_false] at hy;omega
  exact(hk4.block y (by have:=hk3.size;omega) (by simpa using G.2)).trans (hk3.block y bB (hne y G.1))
theorem YY{w:World}{v:B6}{r:CJ}{gn un fn ln:Nat}{seq:Int}{xa ga ua fa:Option Addr}{O gc uc fc B:Nat}{xs:List TV}{W0 w7 T:World}(hM:CH w v r)(hln:r.l.length=ln)(F:fK w v gn un fn ln seq r.l xa O xs W0)(hB:w.heap.size+6<=B)(hk7:Aa [] W0 w7)
 (X:F1 w7 ga gc r.slots.gens)(Y:GX w7 ua uc r.slots.used)(U:F1 w7 fa fc r.slots.free)(M:Dj B ga)(N:Dj B ua)(G:Dj B fa)(D:Aa [w.heap.size+1,w.heap.size+4] w7 T):
  ∃v':B6,pJ (pH #[pF ga gn gc,pF ua un uc,pF fa fn fc,pF xa xs.length O,I_ seq]) = pJ (pH (R_ v' gn un fn ln seq))/\CH T v' r/\IF w v'/\Aa [] w T:=by
 have hS:∀y∈[w.heap.size+1,w.heap.size+4],y<w.heap.size+6:=fun y hy=>by simp only [Ac,Ab,or_false] at hy;omega
 have E:∀y∈[w.heap.size+1,w.heap.size+4],y<B:=fun y hy=>by have:=hS y hy;omega
 have hT:=F.t.keeps hk7 (fun y hy=>by simp at hy);have hrow:AR BE 8 w7 xa O xs:=AR.row CF (Ah F.row hk7 (fun g hg=>by simp));have J:Dj (w.heap.size+6) xa:=DQ F.row;have hl:xs.length=ln:=by rw [F.t.len,hln]
 rw [hl];refine⟨⟨⟨ga,gc,ua,uc,fa,fc⟩,xa,O,xs⟩,rfl,{ s:=⟨X.keepsS D (M.out E),Y.keepsS D (N.out E),U.keepsS D (G.out E),hM.s.sg,hM.s.su,hM.s.sf⟩,l:=hrow.keepsS D (J.out hS),t:=(hT.keeps D (fun y hy=>.inl (hS y hy))).m,sl:=hM.sl,small:=hM.small },⟨⟨M.mono bB,N.mono bB,G.mono bB⟩,J.mono bB,fun u hu=>(F.t.ge u hu).mono bB⟩,(F.kw.trans hk7).own D bF⟩
theorem RI(v:B6)(r:CJ)(gn un fn ln:Nat)(hg:r.slots.gens.length=gn)(hu:r.slots.used.length=un)(hf:r.slots.free.length=fn)(hln:r.l.length=ln)(seq:Int)(hsq:r.seq=seq)(w:World)(h:CH w v r):
  Calls prog 50 #[pH (R_ v gn un fn ln seq)] w fun x w'=>∃v':B6,x = pJ (pH (R_ v' gn un fn ln seq))/\CH w' v' r/\IF w v'/\Aa [] w w':=by
 subst hsq;obtain⟨seq,U⟩:=eX r.seq;have ac:=fun W=>FU v r gn un fn ln W;rw [U] at ac ⊢;refine(callsIn_wide (n:=9)).1 ?_;have HL:=lH h.l;have HT:=lH h.t;have HLN:Hi (v.lv.length=ln):=lH lP;have a9:ln<=1000:=by have:=h.sl;omega
 have HM:=lH h;have ay:=lH ac;have HG:=lH hg;have HU:=lH hu;have HF:=lH hf;clear h hln ac U hg hu hf;refine callsIn_of_wp_marks func50 rfl trivial ?_ rfl;simp only [ntmps50,Cz,Av,D4,pL,pM,Bt,Bu,Cd,BD,BH,AL];gi_wp2_with fail;refine⟨trivial,(callsIn_wide.2 (ay.o _)).mono ?_⟩;rintro e w1 ⟨rfl,hw1⟩;gi_wp2_with fail;have hsz:w1.heap.size=w.heap.size+4:=by rw [<- hw1];simp
 have ag:fJ w v gn un fn ln seq [] w1:=by
  have hk:Aa [] w w1:=by rw [<- hw1];exact((((Aa.refl [] w).alloc _).alloc _).alloc _).alloc _
  refine⟨none,0,[],BQ _ _ _ _,?_,trivial,?_,?_,?_,hk⟩<;>rw [<- hw1]
  ·exact(Ar _ _ _ _ bA).alloc _
  ·exact(((Blk.new w _ _).alloc _).alloc _).alloc _
  ·exact((Ar _ _ _ _ bA).alloc _).alloc _
  ·exact Ar _ _ _ _ bA
 have aq:=lH ag;clear ag hw1;refine Cc rfl bB (gf:=136) (lb:=#[pG (some (A3 w 0))]) rfl trivial (enters_of func136 bC rfl) (FV 8 (w+1+1+1) v.la v.lc ln v.lv HLN.o a9 seq) (fun _=>rfl)
  (fun D A=>fJ w v gn un fn ln seq (r.l.take D.length) A) (fun _ _=>False)
  (fun D A A' h hk=>h.keeps hk bF)
  (fun D A A' h hk=>h)
  (fun D A h=>by obtain⟨_,_,_,h⟩:=h;exact⟨h.pb.cell 3,h.pb.cell 4,HL.o.keeps h.kw⟩) aq.o
  (fun k W=>(fun u:TV=>(({ tmps:=#[pH (R_ v gn un fn ln seq),p_ w 0,p1 w 0,p2 w 0,UD,p_ W 0,UD,pH (R_ v gn un fn ln seq),
     .func (.func 136) #[] #[pG (some (A3 w 0))],I_ (k:Int),pH (U_ u seq),UD,UD,UD,UD,UD,UD,UD,UD,UD,UD,UD,UD,UD,UD,UD,UD,UD,UD,UD,UD,UD],defers:=[] } : Act),W.alloc (.cells (U_ u seq) 166))) (v.lv.getD k tv0))
  (fun k W=>(Aa.refl [] W).alloc _) ?assign ?body ?done ?stop
 case assign=>
  intro l k W K hK;simp only [Mg];dsimp only at hK;generalize v.lv.getD k tv0=u at hK ⊢;gi_wp2;exact hK
 case body=>
  rintro l D k W W2 hI G X hk2;obtain⟨rfl,hkn⟩:=E8 G;obtain⟨u,hu⟩:∃u,v.lv[k]? = some u:=⟨_,Aq iV⟩;have hgd:v.lv.getD k tv0=u:=by rw [AO,hu];rfl
  obtain⟨t,ht,J⟩:=HT.o.get? hu;dsimp only at hk2 ⊢;rw [hgd] at hk2 ⊢;rw [AP] at hI;have bg:W.heap.size+1<=W2.heap.size:=by have:=hk2.size;rw [Eo] at this;exact this
  have a1:=(hI.keeps ((Aa.refl [] W).alloc (.cells (U_ u seq) 166)) bA).keeps hk2 bF;have hb:=(Blk.new W 166 (U_ u seq)).keeps hk2 bI;obtain⟨xa,xc,xs,N⟩:=a1;have HJ:=lH N;have b:=hb.cell;have x:=N.ob.cell;obtain⟨n,hn⟩:=eX xs.length;have au:Hi ((r.l.take k).length<=1000):=lH (by rw [Ax];have:=HM.o.sl;omega);have HTS:Hi (r.l.take (AC k++[k]).length=r.l.take k++[t]):=lH (by rw [Al,AP,Bp,A0 ht]);have ba:=HM.o.small t (CD ht);have az:=lH (fun W' (hk:Aa [] W2 W')=>ZR u t seq W' (J.keeps (N.kw.trans hk)) (by have:=J.rl;omega) (by have:=J.cl;omega));have a0:Hi (∀(W5:World) (ra ca:Option Addr) (rc cc:Nat),Aa [] W2 W5->W5.ownsRow W2 55 5 (pF ra u.rl rc) u.rl (t.rules.flatMap B8)->W5.ownsRow W2 209 4 (pF ca u.cl cc) u.cl (t.creds.flatMap BT)->
    PH W5 (w.heap.size+6) { u with ra:=ra,rc:=rc,ca:=ca,cc:=cc } t):=lH fun W5 ra ca rc cc hk h1 h2=>by
   have hm:=J.keeps (N.kw.trans hk);have h1:=Bw h1 (show w.heap.size+6<=W2.heap.size by omega);have h2:=Bw h2 (show w.heap.size+6<=W2.heap.size by omega);exact⟨{ hm with rs:=AR.row Cv (by rw [hm.rl];exact h1),cs:=AR.row D0 (by rw [hm.cl];exact h2) },h1,h2⟩
  clear hI G hk2 hb N hgd hu ht J ba hn;gi_wp2_with fail;refine BA (S:=(fun W:World=>True)) bC bC (fun _ _ h=>h) trivial (fun hHeld=>?_)
  repeat' (first | exact rZ | refine rX ?_ | ((first | (refine rA 0 (fun K hK=>?_) ?_;go_simp) | (refine rA 1 (fun K hK=>?_) ?_;go_simp) | (refine rA 2 (fun K hK=>?_) ?_;go_simp;(refine(az.o _ ((Aa.refl [] W2).drew)).mono ?_;rintro e w5 ⟨ra,rc,ca,cc,rfl,al,aj,hk5⟩;have hk5:Aa [] W2 w5:=((Aa.refl [] W2).drew).trans hk5;have Y:=lH (HJ.o.keeps hk5 bA);have x5:=Y.o.ob.cell;have ao:=a0.o _ _ _ _ _ hk5 al aj;obtain⟨g,n9,c9,W9,am,T,ah,an,ai⟩:=Y.o.push au.o (by have:=hk5.size;omega) ao;have y5:=fun o=>((Y.o.ob.alloc o).cell);have O:=lH T;have ar:=lH ah;have aw:=lH (A8 hk5.size an);have ap:Hi (∀y∈[w1.heap.size,w1.heap.size+1],(W9.setCell (A2 w 0) (pF (some (A_ g 0)) n9 c9)).heap[y]? = W2.heap[y]?):=lH (fun y hy=>(ai y (by simpa [hsz,EA] using hy)).trans (hk5.block y gB bA));clear T ah an ai hk5 al aj ao)) | (refine rA 3 (fun K hK=>?_) ?_;go_simp) | (refine rA 4 (fun K hK=>?_) ?_;(refine BG _ _ 27 bD bD bD bD am ?_;have f9:=O.o.frozen;have x9:=O.o.cell)) | (refine rA 5 (fun K hK=>?_) ?_;go_simp));refine rO hK trivial fun hHeld=>?_;clear hK K) | refine rB [0,1,2,3,4,5] ?_ | (refine wpAnyH_done bC ?_ _;(gi_wp2_with fail;refine⟨aw.o,ap.o,?_⟩;show fJ w v gn un fn ln seq (r.l.take (AC k++[k]).length) _;rw [HTS.o];exact ar.o)))
 case done=>
  rintro W hI X hK;rw [AP,Ak (by have:=AX.len HT.o;have:=HLN.o;omega)] at hI;obtain⟨xa,xc,xs,N⟩:=hI;have b:=N.rb.cell;obtain⟨W0,ab⟩:=eX (W.alloc (.cells (S_ v.s gn un fn) 26));have hk0:Aa [] W W0:=by rw [<- ab];exact(Aa.refl [] W).alloc _
  have HSB:Hi (Blk W0 W 26 (S_ v.s gn un fn)):=lH (by rw [<- ab];exact Blk.new _ _ _);have HJ:=lH (N.keeps hk0 bA);have HK:Hi (W0.heap[w.heap.size+4]? = some (.deferred (some []))):=lH (by rw [<- hsz];exact(hk0.block _ bB bA).trans hK);have av:Hi (r.l.length=ln):=lH (by have:=AX.len HT.o;have:=HLN.o;omega);have HSZ:Hi (w.heap.size+6<=W0.heap.size/\w.heap.size+6<=W.heap.size):=lH (by have:=hk0.size;omega);have HS:Hi (∀A,Aa [w.heap.size+1] W0 A->Aa [w.heap.size+1] W0 A/\(∀i,A.cell? (A_ W i)=((S_ v.s gn un fn):Array Value)[i]?)/\(∀i,A.cell? (A2 w i)=(#[pF xa xs.length xc]:Array Value)[i]?)/\(∀i,A.cell? (A_ w i)=((R_ v gn un fn ln seq):Array Value)[i]?)):=lH fun A hk=>by
   have:=HSZ.o;exact⟨hk,(HSB.o.keeps hk bI).cell,(HJ.o.ob.keeps hk bI).cell,(HJ.o.rb.keeps hk bI).cell⟩
  have aa:Hi (∀A,Aa [w.heap.size+1] W0 A->Aa [] w A):=lH fun A hk=>HJ.o.kw.own hk bF;clear N hk0 hK;gi_wp2_with fail;clear ab b;refine I6 (S:=(fun A:World=>Aa [w.heap.size+1] W0 A/\(∀i,A.cell? (A_ W i)=((S_ v.s gn un fn):Array Value)[i]?)/\(∀i,A.cell? (A2 w i)=(#[pF xa xs.length xc]:Array Value)[i]?)/\(∀i,A.cell? (A_ w i)=((R_ v gn un fn ln seq):Array Value)[i]?))) bC bC (by((try dsimp only);(first | exact HS.o _ ((Aa.refl _ W0).drew) | exact HS.o _ (hHeld.1.trans (F.mono bA)) | exact HS.o _ (hHeld.1.trans (M.mono bA)) | exact HS.o _ (hHeld.1.trans (E.mono bA)) | exact HS.o _ (by(repeat with_reducible refine Aa.setCell ?_ (.inl bA) _);with_reducible exact hHeld.1)))) (fun hHeld=>?_)
  repeat' (first | exact rZ | refine rX ?_ | ((first | (refine rA 2 (fun K hK=>?_) ?_;go_simp;(refine(PR v.s.ga v.s.gc r.slots.gens gn HG.o (by have:=HM.o.s.sg;have:=HG.o;omega) _ (HM.o.s.g.keeps (aa.o _ hHeld.1))).mono ?_;rintro e w5 ⟨ga,gc,rfl,a7,a6,F⟩)) | (refine rA 5 (fun K hK=>?_) ?_;go_simp;(refine(Rb v.s.ua v.s.uc r.slots.used un HU.o (by have:=HM.o.s.su;have:=HU.o;omega) _ (HM.o.s.u.keeps (aa.o _ hHeld.1))).mono ?_;rintro e w6 ⟨ua,uc,rfl,bd,bb,M⟩)) | (refine rA 8 (fun K hK=>?_) ?_;go_simp;(refine(PR v.s.fa v.s.fc r.slots.free fn HF.o (by have:=HM.o.s.sf;have:=HF.o;omega) _ (HM.o.s.f.keeps (aa.o _ hHeld.1))).mono ?_;rintro e w7 ⟨fa,fc,rfl,a5,a4,E⟩;have hk7:Aa [] W0 w7:=(((Aa.refl [] W0).drew.trans F).trans M).trans E;have z:=(HJ.o.r2.keeps hk7 bA).cell;have y:=(HJ.o.r2.keeps hk7 bA).frozen)) | (refine rA 14 (fun K hK=>?_) ?_;go_simp));refine rO hK (by((try dsimp only);(first | exact HS.o _ ((Aa.refl _ W0).drew) | exact HS.o _ (hHeld.1.trans (F.mono bA)) | exact HS.o _ (hHeld.1.trans (M.mono bA)) | exact HS.o _ (hHeld.1.trans (E.mono bA)) | exact HS.o _ (by(repeat with_reducible refine Aa.setCell ?_ (.inl bA) _);with_reducible exact hHeld.1)))) fun hHeld=>?_;clear hK K) | (refine rQ 0 ?_;refine rQ 1 ?_;refine rQ 3 ?_;refine rQ 4 ?_;refine rQ 6 ?_;refine rQ 7 ?_;refine rQ 10 ?_;refine rQ 11 ?_;refine rQ 12 ?_) | (refine rQ 9 ?_;refine rQ 13 ?_) | refine rB [2,5,8,14] ?_ | (refine wpAnyH_done bC ?_ _;simp only [YX];(gi_wp2_with fail;have hW:=HSZ.o;have ak:=G6 w7 (w+1) (pF ga gn gc) (pF ua un uc) (pF fa fn fc) (pF xa xs.length xc) (I_ seq);have a3:=((HJ.o.r2.keeps hk7 bA).put5 (pF ga gn gc) (pF ua un uc) (pF fa fn fc) (pF xa xs.length xc) (I_ seq)).keeps (AG (S:=[w.heap.size+4]) (l:=w.heap.size+4) _ (.deferred none) bA) bA;have zF:=a3.cell;refine⟨by simp,.inl ⟨_,_,rfl,run_takeDeferred ((ak.block _ (by have:=hk7.size;omega) bI).trans ((hk7.block _ bB bA).trans HK.o)),?_⟩⟩;refine⟨pH #[pF ga gn gc,pF ua un uc,pF fa fn fc,pF xa xs.length xc,I_ seq],by simp [results,results50,go_sem,zF],?_⟩;exact YY (B:=W0.heap.size) HM.o av.o HJ.o hW.1 hk7 ((a7.keeps M).keeps E) (bd.keeps E) a5 (DQ a6) ((DQ bb).mono F.size) ((DQ a4).mono (A8 F.size M.size)) ((ak.mono bA).trans (AG _ _ bA)))))
 case stop=>
  rintro D W G hX X hK;exact hX.elim
end
section
open Go.RowKit
theorem O7(t:Ten)(c:FW)(now:Int):(Bv t c now).1.version=t.version:=by
 unfold Bv
 (repeat' split)<;>rfl
theorem RK(l:List EX)(a:Int)(r:EX):(BU l a r).1.length<=l.length+1:=by
 unfold BU
 repeat' split
 all_goals (try simp)
 omega
theorem Sz(l:List EX)(a:Int):(Cl l a).1.length<=l.length+1:=by
 unfold Cl
 repeat' split
 all_goals (try simp [List.length_eraseIdx])
 split<;>omega
theorem Mo(l:List El)(k:ByteArray)(a b c:Int):(Bk l k a b c).1.length<=l.length+1:=by
 have h:(Cq l a b).length<=l.length:=List.length_filterMap_le ..;unfold Bk
 repeat' split
 all_goals (try simp)
 omega
theorem SL(t:Ten)(c:FW)(now:Int):(Bv t c now).1.rules.length<=t.rules.length+1/\(Bv t c now).1.creds.length<=t.creds.length+1:=by
 have h1:=RK t.rules c.at_ c.rule;have h2:=Sz t.rules (-(c.at_+1));have h3:=Mo t.creds c.key now c.n c.m;unfold Bv
 (repeat' split)<;>dsimp only<;>omega
theorem Zr{l:List Ten}{t x:Ten}(h:x∈GI l t):x=t\/x∈l:=by
 unfold GI at h;dsimp only at h;rcases AQ.1 h with h | h
 ·exact .inr (List.mem_of_mem_take h)
 ·rcases Ac.1 h with h | h
  ·exact .inl h
  ·right
   generalize hk:(l.takeWhile fun y=>decide (y.slot<t.slot)).length=k at h;split at h
   ·rename_i y m hd
    split at h
    ·exact List.mem_of_mem_drop (i:=k) (by rw [hd];exact Ca _ h)
    ·exact List.mem_of_mem_drop (i:=k) (by rw [hd];exact h)
   ·simp at h
theorem Zs{l:List TV}{t x:TV}(h:x∈DC l t):x=t\/x∈l:=by
 unfold DC at h;rcases AQ.1 h with h | h
 ·rcases AQ.1 h with h | h
  ·exact .inr (List.mem_of_mem_take h)
  ·exact .inl bK
 ·right
  generalize hk:(l.takeWhile fun y=>decide (y.slot<t.slot)).length=k at h;split at h
  ·rename_i y m hd
   split at h
   ·exact List.mem_of_mem_drop (i:=k) (by rw [hd];exact Ca _ h)
   ·exact List.mem_of_mem_drop (i:=k) (by rw [hd];exact h)
  ·simp at h
theorem Sv(l:List Ten)(t:Ten):(GI l t).length<=l.length+1:=by
 unfold GI;dsimp only;generalize (l.takeWhile fun y=>decide (y.slot<t.slot)).length=k;rw [Al,Av,Ax];have B:(l.drop k).length=l.length - k:=B1;split
 ·rename_i y m h
  rw [h,Av] at B;split<;>(try rw [Av])<;>omega
 ·simp;omega
theorem AX.eraseIdx{w:World}{V:List TV}{L:List Ten}(h:AX w V L)(k:Nat):AX w (V.eraseIdx k) (L.eraseIdx k):=by
 rw [List.eraseIdx_eq_take_drop_succ,List.eraseIdx_eq_take_drop_succ];exact(AX.take k h).app (AX.drop (k+1) h)
def DW(Q:Nat->Prop)(a:Option Addr)(n:Nat):Prop:=0<n->∀g o,a=some ⟨g,o,none⟩->¬Q g
def Ky(Q:Nat->Prop)(u:TV):Prop:=DW Q u.ra u.rl/\DW Q u.ca u.cl
structure CL(Q:Nat→Prop)(v:B6)(r:CJ):Prop where
 g:DW Q v.s.ga r.slots.gens.length
 u:DW Q v.s.ua r.slots.used.length
 f:DW Q v.s.fa r.slots.free.length
 l:DW Q v.la v.lv.length
 t:∀u∈v.lv,Ky Q u
theorem Dj.no{B n:Nat}{a:Option Addr}{Q:Nat->Prop}(h:Dj B a)(hQ:∀y,Q y->y<B):DW Q a n:=fun _ g o e hq=>by
 have:=h g o e;have:=hQ g hq;omega
theorem AR.no{α:Type}{enc:α->List Value}{n m:Nat}{w:World}{a:Option Addr}{c:Nat}{xs:List α}{Q:Nat->Prop}(h:AR enc n w a c xs)(hm:xs.length=m)(hQ:∀y,Q y->w.heap.size<=y):DW Q a m:=fun h0 g o e hq=>by
 obtain⟨g',o',e',hl,_⟩:=h.at_ bB;rw [e'] at e;injection e with e;injection e with e _ _
 have:=hQ g hq;omega
theorem Cj.no{w:World}{u:TV}{t:Ten}{Q:Nat->Prop}(h:Cj w u t)(hQ:∀y,Q y->w.heap.size<=y):Ky Q u:=⟨h.rs.no h.rl hQ,h.cs.no h.cl hQ⟩
theorem EY.no{B:Nat}{u u':TV}{Q:Nat->Prop}(h:EY B u u')(hu:Ky Q u)(hQ:∀y,Q y->y<B):Ky Q u':=
 ⟨h.1.elim (fun e=>by rw [e.1,e.2];exact hu.1) (fun e=>e.no hQ),h.2.elim (fun e=>by rw [e.1,e.2];exact hu.2) (fun e=>e.no hQ)⟩
theorem AX.no{w:World}{Q:Nat->Prop}(hQ:∀y,Q y->w.heap.size<=y):∀ {V:List TV} {L:List Ten},AX w V L->∀u∈V,Ky Q u
 | [],[],_,u,hu=>by simp at hu
 | _::_,_::_,h,u,hu=>by
  rcases Ac.1 hu with rfl | hu
  ·exact h.1.no hQ
  ·exact AX.no hQ h.2 u hu
 | [],_::_,h,_,_=>h.elim
 | _::_,[],h,_,_=>h.elim
theorem CH.later{w:World}{v:B6}{r:CJ}{Q:Nat->Prop}(h:CH w v r)(hQ:∀y,Q y->w.heap.size<=y):CL Q v r:=
 ⟨h.s.g.no rfl hQ,h.s.u.no rfl hQ,h.s.f.no rfl hQ,h.l.no rfl hQ,AX.no hQ h.t⟩
theorem IF.no{B:Nat}{v:B6}{r:CJ}{Q:Nat->Prop}(h:IF B v)(hQ:∀y,Q y->y<B):CL Q v r:=
 ⟨Dj.no h.s.1 hQ,Dj.no h.s.2.1 hQ,Dj.no h.s.2.2 hQ,h.l.no hQ,fun u hu=>⟨(h.t u hu).1.no hQ,(h.t u hu).2.no hQ⟩⟩
theorem Cj.stay{w w':World}{u:TV}{t:Ten}{Q:Nat->Prop}{S:List Nat}(h:Cj w u t)(hn:Ky Q u)(hk:Aa S w w')(hS:∀y∈S,Q y):Cj w' u t:=
 { h with rs:=h.rs.keepsN hk (fun h0 g o e hm=>hn.1 (by rw [<- h.rl];exact h0) g o e (hS g hm)),cs:=h.cs.keepsN hk (fun h0 g o e hm=>hn.2 (by rw [<- h.cl];exact h0) g o e (hS g hm)) }
theorem AX.stay{w w':World}{Q:Nat->Prop}{S:List Nat}(hk:Aa S w w')(hS:∀y∈S,Q y):∀ {V:List TV} {L:List Ten},AX w V L->(∀u∈V,Ky Q u)->AX w' V L
 | [],[],_,_=>trivial
 | _::_,_::_,h,hn=>⟨h.1.stay (hn _ bA) hk hS,AX.stay hk hS h.2 (fun u hu=>hn u (by simp [hu]))⟩
 | [],_::_,h,_=>h.elim
 | _::_,[],h,_=>h.elim
theorem CH.stay{w w':World}{v:B6}{r:CJ}{Q:Nat->Prop}{S:List Nat}(h:CH w v r)(hn:CL Q v r)(hk:Aa S w w')(hS:∀y∈S,Q y):CH w' v r:=
 { h with s:=⟨h.s.g.keepsN hk (fun h0 g o e hm=>hn.g h0 g o e (hS g hm)),h.s.u.keepsN hk (fun h0 g o e hm=>hn.u h0 g o e (hS g hm)),h.s.f.keepsN hk (fun h0 g o e hm=>hn.f h0 g o e (hS g hm)),h.s.sg,h.s.su,h.s.sf⟩,l:=h.l.keepsN hk (fun h0 g o e hm=>hn.l h0 g o e (hS g hm)),t:=AX.stay hk hS h.t hn.t }
theorem CL.put{Q:Nat->Prop}{v:B6}{r:CJ}{U:TV}{T:Ten}{a:Option Addr}{c:Nat}{seq:Int}(h:CL Q v r)(ha:DW Q a (DC v.lv U).length)(hU:Ky Q U):CL Q ⟨v.s,a,c,DC v.lv U⟩ ⟨r.slots,GI r.l T,seq⟩:=
 ⟨h.g,h.u,h.f,ha,fun u hu=>by
  rcases Zs hu with rfl | hu
  ·exact hU
  ·exact h.t u hu⟩
def OB(w:World)(v:B6)(r:CJ)(v':B6)(r':CJ):Prop:=∀Q:Nat->Prop,(∀y,Q y->y<w.heap.size)->CL Q v r->CL Q v' r'
theorem CH.put{w W:World}{v:B6}{r:CJ}{U:TV}{T:Ten}{a:Option Addr}{c:Nat}(h:CH w v r)(hk:Aa [] w W)(hs:AR BE 8 W a c (DC v.lv U))(D:Cj W U T)(hl:r.l.length<=900)(B:T.rules.length<=1000/\T.creds.length<=1000)(seq:Int):
  CH W ⟨v.s,a,c,DC v.lv U⟩ ⟨r.slots,GI r.l T,seq⟩/\(GI r.l T).length=(DC v.lv U).length:=by
 have ht:=Zt (AX.keeps h.t hk) D;refine⟨⟨h.s.keeps hk,hs,ht,?_,?_⟩,(AX.len ht).symm⟩
 ·exact A8 (Sv r.l T) bB
 ·intro t ht
  rcases Zr ht with rfl | ht
  ·exact B
  ·exact h.small t ht
def Ht:Array Value->Nat->List Value->Array Value
 | cs,_,[]=>cs
 | cs,o,v::r=>Ht (cs.setIfInBounds o v) (o+1) r
theorem Blk.puts{b:Nat}{t:TypeId}: ∀(vs:List Value) (o:Nat) {W:World} {cs:Array Value},Blk W b t cs->Blk (W.setCells b o vs) b t (Ht cs o vs)
 | [],_,_,_,h=>h
 | v::r,o,_,_,h=>Blk.puts r (o+1) (h.set_ o v)
theorem NF:∀(vs:List Value) (o:Nat) (cs:Array Value),(Ht cs o vs).size=cs.size
 | [],_,_=>rfl
 | v::r,o,cs=>by rw [Ht,NF r];simp
theorem LL:∀(vs:List Value) (o:Nat) (cs:Array Value) (i:Nat),o+vs.length<=cs.size->(Ht cs o vs)[i]? = if o<=i/\i<o+vs.length then vs[i - o]? else cs[i]?
 | [],o,cs,i,_=>by rw [Ht,if_neg bA]
 | v::r,o,cs,i,h=>by
  rw [Av] at h;rw [Ht,LL r (o+1) _ i bG];by_cases h1:i=o
  ·subst h1
   rw [if_neg bB,if_pos bA];rw [Bj,if_pos rfl,if_pos bB];simp
  ·by_cases h2:o+1<=i/\i<o+1+r.length
   ·rw [if_pos h2,if_pos (by rw [Av];omega)]
    obtain⟨k,hk⟩:∃k,i - o=k+1:=⟨i - o - 1,by omega⟩;rw [hk,Ao,show i - (o+1)=k by omega]
   ·rw [if_neg h2,if_neg (by rw [Av];omega),Bj,if_neg (fun e=>h1 e.symm)]
theorem Blk.putAll{W:World}{b:Nat}{t:TypeId}{cs ds:Array Value}(h:Blk W b t cs)(hs:cs.size=ds.size):Blk (W.setCells b 0 ds.toList) b t ds:=by
 have:=Blk.puts ds.toList 0 h;have he:Ht cs 0 ds.toList=ds:=by
  apply Array.ext_getElem?;intro i;rw [LL _ _ _ _ bG];by_cases hi:i<ds.size
  ·rw [if_pos (by simp;exact hi)];simp
  ·rw [if_neg bG,Array.getElem?_eq_none bB,Array.getElem?_eq_none bB]
 rwa [he] at this
theorem Blk.there{w:World}{b:Nat}{t:TypeId}{cs:Array Value}(h:Blk w b t cs)(o n:Nat)(hn:o+n<=cs.size):w.there b o n:=fun j hj=>
 ⟨by rw [h.cell];simp;omega,h.frozen _⟩
theorem DT{P:Program}{op:Oper}{a:Act}{w:World}{K:Act->World->Prop}{Q:Exit->Act->World->Prop}(ty:TypeId)(x y:Operand)(ho:op.op = .store ty x y)
 (b:Nat)(cells:Array Value)(hx:a.eval x = p_ b 0)(hy:a.eval y = .agg cells)(t:TypeId)(old:Array Value)(hb:Blk w b t old)(hs:old.size=cells.size)
 (hi:(P.info? ty).map (·.size)=some cells.size)(h1:cells.all (·.oneCell')=true)(h:∀W',Blk W' b t cells->Aa [b] w W'->K (a.put op.dst UD) W'):op.wp P a w K Q:=
 wp_store_mid ty x y ho b 0 cells hx hy (Blk.there hb 0 cells.size bB) hi h1 (h _ (hb.putAll hs) (Bb b 0 _ w))
theorem As{P:Program}{ops:Array Oper}{rest:List Oper}{o:Oper}{a:Act}{w:World}{Q:Exit->Act->World->Prop}(hgd:o.guard=none)(ty:TypeId)(x y:Operand)(ho:o.op = .store ty x y)
 (b:Nat)(cells:Array Value)(hx:a.eval x = p_ b 0)(hy:a.eval y = .agg cells)(t:TypeId)(old:Array Value)(hb:Blk w b t old)(hs:old.size=cells.size)
 (hi:(P.info? ty).map (·.size)=some cells.size)(h1:cells.all (·.oneCell')=true)(h:∀W',Blk W' b t cells->Aa [b] w W'->wpList P ops Q rest (a.put o.dst UD) W'):wpList P ops Q (o::rest) a w:=
 wpList_store_mid hgd ty x y ho b 0 cells hx hy (Blk.there hb 0 cells.size bB) hi h1 (h _ (hb.putAll hs) (Bb b 0 _ w))
theorem FN(w:World)(b o:Nat)(x0 x1 x2 x3 x4:Value):Aa [b] w (((((w.setCell (A_ b o) x0).setCell (A_ b (o+1)) x1).setCell (A_ b (o+2)) x2).setCell (A_ b (o+3)) x3).setCell (A_ b (o+4)) x4):=
 ((((Ae w b o x0).trans (Ae _ b (o+1) x1)).trans (Ae _ b (o+2) x2)).trans (Ae _ b (o+3) x3)).trans (Ae _ b (o+4) x4)
end
section
open Go.RowKit Go.Shelf
attribute [local go_sem] pN Lr Ls Lp Lq
attribute [local go_sem ↓] wp_at_zero wp_at_succ
def LZ(t:Ten):Ten:={ t with name:=Rl 41 t.name,rules:=t.rules.take 18,creds:=GN t.creds }
def F9(r:CJ):CJ:={ r with slots:=Fq r.slots,l:=(r.l.take 8).map LZ }
structure Lw(w:World)(v:B6)(r:CJ):Prop where
 g:F1 w v.s.ga v.s.gc r.slots.gens
 u:GX w v.s.ua v.s.uc r.slots.used
 f:F1 w v.s.fa v.s.fc r.slots.free
 l:AR BE 8 w v.la v.lc v.lv
 t:AX w v.lv r.l
 small:∀t∈r.l,t.name.size≤maxLen∧t.rules.length≤9223372036854775807∧t.creds.length≤9223372036854775807∧∀c∈t.creds,c.key.size≤maxLen
theorem Lw.keeps{w w':World}{v:B6}{r:CJ}(h:Lw w v r)(hk:Aa [] w w'):Lw w' v r:={ h with g:=h.g.keeps hk,u:=h.u.keeps hk,f:=h.f.keeps hk,l:=h.l.keeps hk,t:=h.t.keeps hk }
theorem Yg{w:World}{v:DF}{s:Fz}(hG:F1 w v.ga v.gc s.gens)(hU:GX w v.ua v.uc s.used)(hF:F1 w v.fa v.fc s.free):Dy w v (Fq s):=
 ⟨hG.take 66,hU.take 66,hF.take 66,by show(s.gens.take 66).length<=1000;rw [Ax];omega,by show(s.used.take 66).length<=1000;rw [Ax];omega,by show(s.free.take 66).length<=1000;rw [Ax];omega⟩
structure iP(wd:World)(ob:Nat)(x0 x1 x2:Value)(seq:Int)(L:List Ten)(xa:Option Addr)(xc:Nat)(xs:List TV)(A:World):Prop where
 row:A.ownsRow wd.heap.size 131 8 (pF xa xs.length xc) xs.length (xs.flatMap BE)
 bx:Blk A ob 29 #[x0,x1,x2,pF xa xs.length xc,pE pK seq]
 t:EK A wd.heap.size xs L
 kw:Aa [ob] wd A
theorem iP.push{wd:World}{E:Nat}{T U X:Value}{seq:Int}{L:List Ten}{J:Option Addr}{M:Nat}{xs:List TV}{A:World}(ab:E<wd.heap.size)(h:iP wd E T U X seq L J M xs A)(hl:L.length<=1000){W:World}(hk:Aa [] A W){z:TV}{t:Ten}(hz:PH W wd z t):
  ∃g c W3,(BI #[27,27] 27 #[pF J xs.length M,pF (some (A_ W 0)) 1 1]).run prog (W.alloc (.cells (BE z).toArray 131)) = .ok (pF (some (A_ g 0)) (xs.length+1) c) W3/\
   Blk W3 E 29 #[T,U,X,pF J xs.length M,I_ seq]/\iP wd E T U X seq (L++[t]) (some (A_ g 0)) c (xs++[z]) (W3.setCell (A_ E 3) (pF (some (A_ g 0)) (xs.length+1) c)):=by
 have hrow:=Ah h.row hk (fun _ _=>by simp);have F:=h.bx.keeps hk bA;have hT:=h.t.keeps hk (fun y hy=>by simp at hy);have N:wd.heap.size<=W.heap.size:=A8 h.kw.size hk.size;obtain⟨g,c,W3,G,B,hk3,_⟩:=CO (enc:=BE) prog (t:=27) underlying27 Io bE CF FB hrow N z (by have:=h.t.len;omega) 27;have hgeS:=AZ hrow;have hne:E∉(pF J xs.length M).ownBlock.toList:=fun hm=>by have:=hgeS _ hm;omega
 have D:=F.keeps hk3 hne;have hN:U3 W wd (pF J xs.length M).ownBlock.toList:=fun y hy=>.inr (DP hrow bU);have hk4:Aa [E] W3 (W3.setCell (A_ E 3) (pF (some (A_ g 0)) (xs.length+1) c)):=Ae _ _ _ _;refine⟨g,c,W3,G,D,?_⟩;have h9:=Ah B hk4 (fun Y O hm'=>by have:=(B.lt Y O).1;simp only [Ac,Ab,or_false] at hm';omega);rw [Al,Bp] at h9;refine⟨by rw [Al,Bp];exact h9,by rw [Al,Bp];exact D.set_ 3 _,((hT.snoc hz).keeps hk3 hN).keeps hk4 (fun y hy=>.inl gB),?_⟩;exact((h.kw.trans (hk.mono bA)).trans' hk3 (fun y hy=>.inr (hgeS y hy))).trans hk4
theorem eU{w wr w3 w4:World}{B m J c3 M c4:Nat}{X Y:Option Addr}{x u:Value}{y:TV}{t:Ten}(hB:B<=wr.heap.size)(O:wr.heap.size+1<=w3.heap.size)(hm:Cj w y t)(N:min y.name.size 41=m)
 (E:(t.rules.take 18).length=J)(D:w3.ownsRow (wr+1) 55 5 (pF X J c3) J ((t.rules.take 18).flatMap B8))(F:(GN t.creds).length=M)(G:w4.ownsRow (w3.setCell (A_ wr 5) x).heap.size 209 4 (pF Y M c4) M ((GN t.creds).flatMap BT))
 (hk4:Aa [] (w3.setCell (A_ wr 5) x) w4):PH (w4.setCell (A_ wr 6) u) B ⟨y.slot,y.gen,y.name.extract 0 m,y.state,y.version,X,J,c3,Y,M,c4,y.deadline⟩ (LZ t):=by
 have h1:Aa [wr.heap.size] w3 (w3.setCell (A_ wr 5) x):=Ae _ _ _ _;have h2:Aa [wr.heap.size] w4 (w4.setCell (A_ wr 6) u):=Ae _ _ _ _;have T:=Ah (Ah (Ah D h1 (fun g hg hm'=>by have:=(D.lt g hg).1;simp only [Ac,Ab,or_false] at hm';omega)) hk4 (fun _ _=>by simp)) h2 (fun g hg hm'=>by have:=(D.lt g hg).1;simp only [Ac,Ab,or_false] at hm';omega);have hz4:wr.heap.size+1<=(w3.setCell (A_ wr 5) x).heap.size:=A8 O h1.size;have U:=Ah G h2 (fun g hg hm'=>by have:=(G.lt g hg).1;simp only [Ac,Ab,or_false] at hm';omega);have e1:y.name.extract 0 m=Rl 41 t.name:=by rw [<- N,hm.name];rfl
 exact⟨⟨hm.slot,hm.gen,e1,hm.state,hm.version,hm.deadline,E,F,AR.row Cv (by rw [<- E] at T;exact T),AR.row D0 (by rw [<- F] at U;exact U)⟩,Bw T bB,Bw U bB⟩
theorem VP(v:B6)(r:CJ)(gn un fn ln:Nat)(hg:r.slots.gens.length=gn)(hu:r.slots.used.length=un)(hf:r.slots.free.length=fn)(hln:v.lv.length=ln)(b0:ln<=9223372036854775807)(seq:Int)(hsq:r.seq=seq)(wA:World)(hA:Lw wA v r)(w:World)(aq:Aa [] wA w):
  Calls prog 25 #[pH (R_ v gn un fn ln seq)] w fun e w'=>∃(v':B6) (g u f l:Nat),e = pJ (pH (R_ v' g u f l seq))/\CH w' v' (F9 r)/\
   ((F9 r).slots.gens.length=g/\(F9 r).slots.used.length=u/\(F9 r).slots.free.length=f/\(F9 r).l.length=l)/\CL (fun y=>wA.heap.size<=y/\y<w.heap.size) v' (F9 r)/\Aa [] w w':=by
 have h:=hA.keeps aq;subst hsq;obtain⟨seq,ax⟩:=eX r.seq;rw [ax];have HC9:Hi (∀W,Aa [] w W->Calls prog 60 #[pH (S_ v.s gn un fn)] W fun e w'=>∃g u f,e = pJ (pH (S_ v.s g u f))/\((Fq r.slots).gens.length=g/\(Fq r.slots).used.length=u/\(Fq r.slots).free.length=f)/\Aa [] W w'):=lH fun W hk=>
  (VO v.s r.slots gn un fn hg hu hf W (h.g.keeps hk) (h.u.keeps hk) (h.f.keeps hk)).mono fun _ _ ⟨g,u,f,h1,_,h3,h4⟩=>⟨g,u,f,h1,h3,h4⟩
 have bh:=lH (Yg h.g h.u h.f);have U:Hi (DW (fun y=>wA.heap.size<=y/\y<w.heap.size) v.s.ga (Fq r.slots).gens.length/\DW (fun y=>wA.heap.size<=y/\y<w.heap.size) v.s.ua (Fq r.slots).used.length/\DW (fun y=>wA.heap.size<=y/\y<w.heap.size) v.s.fa (Fq r.slots).free.length):=lH ⟨(hA.g.take 66).no rfl (fun _ hy=>hy.1),(hA.u.take 66).no rfl (fun _ hy=>hy.1),(hA.f.take 66).no rfl (fun _ hy=>hy.1)⟩;have H:=lH h;have HLN:=lH hln;clear hg hu hf h hln hA aq;obtain⟨w0,hw0⟩:=eX ((w.alloc (.cells (R_ v gn un fn ln seq) 29)).alloc (.cells LU.k 29));have HK0:Hi (Aa [] w w0):=lH lX;have hb0:Blk w0 w 29 (R_ v gn un fn ln seq):=by rw [<- hw0];exact(Blk.new w _ _).alloc _
 have hb1:Blk w0 (w+1) 29 LU.k:=by rw [<- hw0];exact Ar _ _ _ _ bA
 have HSZ:Hi (w0.heap.size=w.heap.size+2):=lH (by rw [<- hw0];simp);have q0:=hb0.rl;have HB0:=lH hb0;have HB1:=lH hb1;clear hb0 hb1;go_enter func25,ntmps25;go_wp2_with fail;clear hw0;go_cut [3] (fun x wd=>∃N g u f,x = p_ N 0/\Hi (Blk wd N 29 #[pF v.s.ga g v.s.gc,pF v.s.ua u v.s.uc,pF v.s.fa f v.s.fc,pF none 0 0,I_ seq])/\Hi ((Fq r.slots).gens.length=g/\(Fq r.slots).used.length=u/\(Fq r.slots).free.length=f)/\Hi (Aa [] w0 wd)/\Hi (w0.heap.size<=N))
 case first=>
  refine wp_region_held_drew (S:=(Aa [] w0)) bC (by((try dsimp only);(repeat(with_reducible first | exact B | exact Aa.refl _ _ | refine Aa.drew ?_ | refine Aa.alloc ?_ _ | refine Aa.own ?_ hkS (fun y hy=>fC))))) (fun hHeld=>?_)
  repeat' (first | exact rZ | refine rX ?_ | ((first | (refine rA 2 (fun K hK=>?_) ?_;go_simp;(refine(HC9.o _ (HK0.o.trans hHeld)).mono ?_;rintro er w3 ⟨g,u,f,rfl,D,hk3⟩;have bf:=lH D;clear D;have B:=hHeld.trans hk3;have ad:=B.size;have cg:=hHeld.size;have bt:=hk3.size;(try simp at bt))) | (refine rA 6 (fun K hK=>?_) ?_;go_simp) | (refine rA 7 (fun K hK=>?_) ?_;(refine DT 29 _ _ bD _ #[pF v.s.ga g v.s.gc,pF v.s.ua u v.s.uc,pF v.s.fa f v.s.fc,pF none 0 0,I_ seq] bD bD 29 LU.k ?_ rfl bC aG ?_;(· (repeat(with_reducible first | exact Blk.new _ _ _ | exact Ar _ _ _ _ bA | refine Blk.alloc ?_ _ | refine Blk.drew ?_ | refine Blk.keeps ?_ hk3 bA)));intro wS HRB hkS)));(try clear rH);refine rP hK ((by((try dsimp only);(repeat(with_reducible first | exact B | exact Aa.refl _ _ | refine Aa.drew ?_ | refine Aa.alloc ?_ _ | refine Aa.own ?_ hkS (fun y hy=>fC)))))) fun rH hHeld=>?_;clear hK K) | (refine rK 0 ?_;refine rK 1 ?_;refine rK 3 ?_;refine rK 4 ?_) | (refine rK 5 ?_) | refine rB [2,6,7] ?_ | (refine wpAnyH_done bC ?_ _;(go_wp2_with fail;go_meet;exact⟨_,g,u,f,rfl,lH HRB,bf,lH hHeld,lH gE⟩)))
 case rest=>
  obtain⟨N,g,u,f,rfl,aj,T,HKD,bb⟩:=hcut
  rename World=>wd
  clear q0;have HKW:Hi (Aa [] w wd):=lH (HK0.o.trans HKD.o);have HOL:Hi (w.heap.size+2<=N/\N<wd.heap.size):=lH ⟨by have:=HSZ.o;have:=bb.o;omega,aj.o.lt⟩;have bd:Hi (iP wd N (pF v.s.ga g v.s.gc) (pF v.s.ua u v.s.uc) (pF v.s.fa f v.s.fc) seq [] none 0 [] wd):=lH ⟨BQ _ _ _ _,aj.o,trivial,Aa.refl _ _⟩;go_wp2;go_loopw [4] (fun i wr=>∃(k:Nat) (xa:Option Addr) (xc:Nat) (xs:List TV),k<=ln/\k<=8/\i = I_ k/\Hi (iP wd N (pF v.s.ga g v.s.gc) (pF v.s.ua u v.s.uc) (pF v.s.fa f v.s.fc) seq ((r.l.take k).map LZ) xa xc xs wr)) (fun i _=>8 - (intOf i).toNat)
  case atStart=>exact⟨0,none,0,[],Ba _,Ba _,rfl,bd⟩
  case round=>
   obtain⟨k,xa,xc,xs,b9,hk8,rfl,HJ⟩:=hrel;have hb0:Blk wr w 29 (R_ v gn un fn ln seq):=(HB0.o.keeps HKD.o bA).keeps HJ.o.kw kK;have r0:=hb0.rl;have HKR:Hi (Aa [] w wr):=lH (HKW.o.own HJ.o.kw nV);have a9:Hi (wd.heap.size<=wr.heap.size):=lH HJ.o.kw.size;by_cases hlt:k<ln/\k<8
   ·obtain⟨h1,h2⟩:=hlt
    have J:k<v.lv.length:=by rw [HLN.o];exact h1
    obtain⟨gg,off,y,ha,ap,hy,hat⟩:=H.o.l.at_k (k:=k) J;have hkL:k<r.l.length:=by rw [<- H.o.t.len];exact J
    obtain⟨t,ht⟩:∃t,r.l[k]? = some t:=⟨_,Aq hkL⟩;have hm:Cj w y t:=by
     have h:=H.o.t.get k J hkL;rw [Aq J] at hy;rw [Aq hkL] at ht;rw [Option.some.inj hy,Option.some.inj ht] at h;exact h
    obtain⟨hs1,bs,F,M⟩:=H.o.small t (CD ht);have HM:=lH hm;have b6:=lH M;rw [ha] at r0;have hq:∀j u,(BE y)[j]? = some u->wr.cell? (A_ gg (off+k*8+j))=some u:=fun j u hj=>(HKR.o.cell (p:=A_ gg _) ap bA).trans (hat j u hj);have q0:=hq 0 _ rfl;have q1:=hq 1 _ rfl;have q2:=hq 2 _ rfl;have q3:=hq 3 _ rfl;have q4:=hq 4 _ rfl;have q5:=hq 5 _ rfl;have q6:=hq 6 _ rfl;have q7:=hq 7 _ rfl;rw [AT] at q0;have br:y.name.size<=maxLen:=by rw [hm.name];exact hs1
    unfold maxLen at br;obtain⟨m,ac⟩:∃m:Nat,min y.name.size 41=m:=⟨_,rfl⟩;obtain⟨z1,z2,z3⟩:=Iy y.name.size 41 41 m ac;have i1:(0:Int)<=(k:Int):=bB;have i2:(k:Int)<(ln:Int):=bB;have i3:(k:Int)<8:=bB;have aw:=hm.rl;have ao:=hm.cl;have ba:Hi (∀W,Aa [] w W->Calls prog 61 #[pF y.ra y.rl y.rc] W fun e w'=>∃a' n' c',e = pJ (.slice a' n' c')/\Ku w' a' c' (t.rules.take 18)/\(t.rules.take 18).length=n'/\w'.ownsRow W 55 5 (.slice a' n' c') n' ((t.rules.take 18).flatMap B8)/\Aa [] W w'):=lH fun W hW=>VZ y.ra y.rc t.rules y.rl aw bB W (hm.rs.keeps hW);have ah:Hi (∀W,Aa [] w W->Calls prog 62 #[pF y.ca y.cl y.cc] W fun e w'=>∃a' n' c',e = pJ (.slice a' n' c')/\Hg w' a' c' (GN t.creds)/\(GN t.creds).length=n'/\w'.ownsRow W 209 4 (.slice a' n' c') n' ((GN t.creds).flatMap BT)/\Aa [] W w'):=lH fun W hW=>Wa y.ca y.cc t.creds y.cl ao bB M W (hm.cs.keeps hW);have bj:Hi ((r.l.take (k+1)).map LZ=(r.l.take k).map LZ++[LZ t]):=lH (by rw [A0 ht,pO];rfl);have bg:=lH ac;clear ha J hkL hy hat ht hm hs1 bs F M hq ac aw ao ap hb0;go_wp2_with fail;have aa:Aa [] wr (wr.alloc (.cells #[pE pK y.slot,I_ y.gen,Dz (y.name.extract 0 m),I_ y.state,I_ y.version,pF y.ra y.rl y.rc,pF y.ca y.cl y.cc,I_ y.deadline] 131)):=(Aa.refl [] wr).alloc _;refine(ba.o _ (HKR.o.trans aa)).mono ?_;rintro e w3 ⟨a3,n3,c3,rfl,F,D,E,hk3⟩;have X:=(Blk.new wr 131 #[pE pK y.slot,I_ y.gen,Dz (y.name.extract 0 m),I_ y.state,I_ y.version,pF y.ra y.rl y.rc,pF y.ca y.cl y.cc,I_ y.deadline]).keeps hk3 bA;have B:Aa [] wr w3:=aa.trans hk3;have t3:=X.rl;have bi:=lH X;have HR3:=lH (Bl F (Bl D E));have ai:=lH B;have ad:wr.heap.size+1<=w3.heap.size:=by have:=hk3.size;rw [Eo] at this;exact this
    have bl:=lH ad;clear F D E hk3 B aa X ad r0 q0 q1 q2 q3 q4 q5 q6 q7;go_wp2_with fail;have ab:Aa [wr.heap.size] w3 (w3.setCell (A_ wr 5) (pF a3 n3 c3)):=Ae _ _ _ _;refine(ah.o _ (HKR.o.trans (ai.o.own ab bF))).mono ?_;rintro e w4 ⟨a4,n4,c4,rfl,M,au,av,hk4⟩;obtain⟨F,D,E⟩:=HR3.o;rw [Eo] at E;have G:Aa [] wr w4:=(ai.o.own ab bF).trans hk4;have ar:Aa [wr.heap.size] w4 (w4.setCell (A_ wr 6) (pF a4 n4 c4)):=Ae _ _ _ _;have Y:Blk w4 wr 131 #[pE pK y.slot,I_ y.gen,Dz (y.name.extract 0 m),I_ y.state,I_ y.version,pF a3 n3 c3,pF y.ca y.cl y.cc,I_ y.deadline]:=(bi.o.set_ 5 (pF a3 n3 c3)).keeps hk4 bA;have bp:Blk (w4.setCell (A_ wr 6) (pF a4 n4 c4)) wr 131 #[pE pK y.slot,I_ y.gen,Dz (y.name.extract 0 m),I_ y.state,I_ y.version,pF a3 n3 c3,pF a4 n4 c4,I_ y.deadline]:=Y.set_ 6 (pF a4 n4 c4);have ay:=eU (u:=pF a4 n4 c4) a9.o bl.o HM.o bg.o D E au av hk4;obtain⟨g5,c5,W5,O,an,am⟩:=iP.push HOL.o.2 HJ.o (by rw [Bd,Ax];omega) (G.own ar bF) ay;have b1:=(HJ.o.bx.keeps G bA).rl;have hne:N≠wr.heap.size:=by have:=HJ.o.bx.lt;omega
    have t4:=Y.rl;have b5:=an.rl;have be:=lH am;clear F D E M au av hk4 ar ab G Y bp ay an am t3;simp only [BE,World.size_setCell] at O;go_wp2_with (at_builtin;refine Au _ rfl _ _ 27 rfl rfl rfl O ?_);go_roundw;case rel=>exact⟨k+1,some (A_ g5 0),c5,xs++[_],by omega,by omega,by go_num,lH (by rw [bj.o];exact be.o)⟩
    case measure=>(simp [intOf];omega)
   ·have e1:((ln:Nat):Int)<=(k:Int)\/(8:Int)<=(k:Int):=bB;have hL:r.l.length=ln:=by rw [<- H.o.t.len];exact HLN.o
    have eL:(F9 r).l=(r.l.take k).map LZ:=by
     show(r.l.take 8).map LZ=_;rcases pP k 8 with h | h
     ·rw [Ak (by omega:r.l.length<=8),Ak (by omega:r.l.length<=k)]
     ·rw [show k=8 by omega]
    have HF:Hi (∀W',Aa [w.heap.size+1] wr W'->∃(v':B6) (g' u' f' l:Nat),pJ (pH #[pF v.s.ga g v.s.gc,pF v.s.ua u v.s.uc,pF v.s.fa f v.s.fc,pF xa xs.length xc,I_ seq]) = pJ (pH (R_ v' g' u' f' l seq))/\CH W' v' (F9 r)/\
      ((F9 r).slots.gens.length=g'/\(F9 r).slots.used.length=u'/\(F9 r).slots.free.length=f'/\(F9 r).l.length=l)/\CL (fun y=>wA.heap.size<=y/\y<w.heap.size) v' (F9 r)/\Aa [] w W'):=lH fun W' hk=>by
     have hkw:Aa [] w W':=HKR.o.own hk bF;have cf:w.heap.size+1<wd.heap.size:=by have:=HOL.o;omega
     have hT:=HJ.o.t.keeps hk (fun y hy=>.inl gB);have hrow:=Ah HJ.o.row hk (fun g' bq hm'=>by have:=(HJ.o.row.lt g' bq).1;simp only [Ac,Ab,or_false] at hm';omega);have hl:(F9 r).l.length=xs.length:=by rw [eL];exact HJ.o.t.len.symm
     refine⟨⟨v.s,xa,xc,xs⟩,g,u,f,xs.length,rfl,⟨bh.o.keeps hkw,AR.row CF hrow,by rw [eL];exact hT.m,by rw [hl,HJ.o.t.len,Bd,Ax];omega,fun t ht=>?_⟩,⟨T.o.1,T.o.2.1,T.o.2.2,hl⟩,⟨U.o.1,U.o.2.1,U.o.2.2,(DQ hrow).no (fun _ hy=>by omega),fun x hx=>⟨((EK.ge hT) x hx).1.no (fun _ hy=>by omega),((EK.ge hT) x hx).2.no (fun _ hy=>by omega)⟩⟩,hkw⟩;obtain⟨t',cd,rfl⟩:=BO.1 ht;exact⟨by show(t'.rules.take 18).length<=1000;rw [Ax];omega,by show((t'.creds.take 6).map Ot).length<=1000;rw [Bd,Ax];omega⟩
    have cq:=HJ.o.bx.rl;have hb1:Blk wr (w+1) 29 LU.k:=(HB1.o.keeps HKD.o bA).keeps HJ.o.kw kK;have bu:=lH hb1;have r1:=hb1.rl;clear hlt hL eL hb0 hb1;rcases pP k ln with hk | hk
    ·have i2:(k:Int)<(ln:Int):=bB;have i3:¬(k:Int)<8:=bB;clear e1;go_wp2_with fail;exact bodyPost_ret (v:=pH #[pF v.s.ga g v.s.gc,pF v.s.ua u v.s.uc,pF v.s.fa f v.s.fc,pF xa xs.length xc,I_ seq]) (by simp [results,results25,go_sem,r1]) rfl (HF.o _ (FN _ _ 0 _ _ _ _ _))
    ·have i2:¬(k:Int)<(ln:Int):=bB;clear e1;go_wp2_with fail;exact bodyPost_ret (v:=pH #[pF v.s.ga g v.s.gc,pF v.s.ua u v.s.uc,pF v.s.fa f v.s.fc,pF xa xs.length xc,I_ seq]) (by simp [results,results25,go_sem,r1]) rfl (HF.o _ (FN _ _ 0 _ _ _ _ _))
def comA(c:FW):Array Value:=(K_ c)
def MS(c:FW):FW:={ c with name:=Rl 41 c.name,key:=Rl 65 c.key }
theorem Ts(c:FW)(w:World):Calls prog 27 #[pH (comA c)] w fun e w'=>e = pJ (pH (comA (MS c)))/\Aa [] w w':=by
 obtain⟨B,E⟩:∃m:Nat,min c.name.size 41=m:=⟨_,rfl⟩;obtain⟨D,F⟩:∃m:Nat,min c.key.size 65=m:=⟨_,rfl⟩;obtain⟨O,z2,T⟩:=Iy c.name.size 41 41 B E;obtain⟨J,M,N⟩:=Iy c.key.size 65 65 D F;have hC:comA (MS c)=#[pE pK c.verb,Dz (c.name.extract 0 B),I_ c.want,I_ c.at_,pI c.rule.allow,I_ c.rule.addr,I_ c.rule.bits,I_ c.rule.from_,I_ c.rule.to_,Dz (c.key.extract 0 D),I_ c.n,I_ c.m]:=by rw [<- E,<- F];rfl
 rw [hC];clear hC E F;unfold comA;obtain⟨w0,hw0⟩:=eX ((w.alloc (.cells #[pE pK c.verb,Dz (c.name.extract 0 B),I_ c.want,I_ c.at_,pI c.rule.allow,I_ c.rule.addr,I_ c.rule.bits,I_ c.rule.from_,I_ c.rule.to_,Dz (c.key.extract 0 D),I_ c.n,I_ c.m] 57)).alloc (.cells #[pE pK 0,Dz ⟨#[]⟩,I_ 0,I_ 0,pI false,I_ 0,I_ 0,I_ 0,I_ 0,Dz ⟨#[]⟩,I_ 0,I_ 0] 57));have HK0:Hi (Aa [] w w0):=lH lX;have hb0:Blk w0 w 57 #[pE pK c.verb,Dz (c.name.extract 0 B),I_ c.want,I_ c.at_,pI c.rule.allow,I_ c.rule.addr,I_ c.rule.bits,I_ c.rule.from_,I_ c.rule.to_,Dz (c.key.extract 0 D),I_ c.n,I_ c.m]:=by rw [<- hw0];exact(Blk.new w _ _).alloc _
 have hb1:Blk w0 (w+1) 57 #[pE pK 0,Dz ⟨#[]⟩,I_ 0,I_ 0,pI false,I_ 0,I_ 0,I_ 0,I_ 0,Dz ⟨#[]⟩,I_ 0,I_ 0]:=by rw [<- hw0];exact Ar _ _ _ _ bA
 have G:=lH (Blk.rng hb0 0 #[pE pK c.verb,Dz (c.name.extract 0 B),I_ c.want,I_ c.at_,pI c.rule.allow,I_ c.rule.addr,I_ c.rule.bits,I_ c.rule.from_,I_ c.rule.to_,Dz (c.key.extract 0 D),I_ c.n,I_ c.m] (fun j v h=>by simpa using h));have HB1:=lH hb1;clear hb0 hb1;go_enter func27,ntmps27;go_upto_region 3 with fail
 clear hw0;go_wp2_with (first | (refine Ay bD 57 _ bD w 0 bD #[pE pK c.verb,Dz (c.name.extract 0 B),I_ c.want,I_ c.at_,pI c.rule.allow,I_ c.rule.addr,I_ c.rule.bits,I_ c.rule.from_,I_ c.rule.to_,Dz (c.key.extract 0 D),I_ c.n,I_ c.m] _ G.o underlying57 rfl bC ?_) | (refine wpList_store_row bD 57 _ _ bD (w+1) #[pE pK c.verb,Dz (c.name.extract 0 B),I_ c.want,I_ c.at_,pI c.rule.allow,I_ c.rule.addr,I_ c.rule.bits,I_ c.rule.from_,I_ c.rule.to_,Dz (c.key.extract 0 D),I_ c.n,I_ c.m] bD bD 57 #[pE pK 0,Dz ⟨#[]⟩,I_ 0,I_ 0,pI false,I_ 0,I_ 0,I_ 0,I_ 0,Dz ⟨#[]⟩,I_ 0,I_ 0] HB1.o bC rfl aG ?_));refine bodyPost_ret (v:=pH #[pE pK c.verb,Dz (c.name.extract 0 B),I_ c.want,I_ c.at_,pI c.rule.allow,I_ c.rule.addr,I_ c.rule.bits,I_ c.rule.from_,I_ c.rule.to_,Dz (c.key.extract 0 D),I_ c.n,I_ c.m]) ?_ rfl ⟨rfl,HK0.o.own (Br w0 (w+1) _) bF⟩;exact results_cell_row rfl _ _ (w+1) 57 #[pE pK c.verb,Dz (c.name.extract 0 B),I_ c.want,I_ c.at_,pI c.rule.allow,I_ c.rule.addr,I_ c.rule.bits,I_ c.rule.from_,I_ c.rule.to_,Dz (c.key.extract 0 D),I_ c.n,I_ c.m] (0,0) _ rfl (HB1.o.row _) underlying57 rfl bC
end
section
open Go.RowKit Go.Shelf
attribute [local go_sem] pN
attribute [local go_sem ↓] wp_at_zero wp_at_succ
def QG(k:Int)(f n:Nat):MapEntry:={ key:=pE pK k,val:=.func (.func f) #[] #[],born:=n }
def IP:Array MapEntry:=#[QG 2 117 0,QG 3 199 1,QG 4 200 2,QG 6 201 3,QG 7 202 4,QG 5 203 5,QG 8 203 6,QG 10 203 7]
theorem GU(es:Array MapEntry)(c:Nat)(k:Int)(f:Nat)(hf:B0 (.int .i64) (I_ k) es.toList 0=some none)(w:World):
  (Instr.mapUpdate 276 (.map (some w)) (I_ k) (.func (.func f) #[] #[])).run prog (w.alloc (.map es c)) = .ok () (w.alloc (.map (es.push (QG k f c)) (c+1))):=
 Fh underlying276 underlying3 rfl hf
theorem Xp(w:World):Calls prog 156 #[] w fun r w'=>r = pJ (.map (some w))/\w.alloc (.map IP 8)=w':=by
 have hm:=fun W=>run_makeMap (P:=prog) 276 W;have h1:=GU #[] 0 2 117 rfl w;have h2:=GU (IP.extract 0 1) 1 3 199 rfl w;have h3:=GU (IP.extract 0 2) 2 4 200 rfl w;have h4:=GU (IP.extract 0 3) 3 6 201 rfl w;have B:=GU (IP.extract 0 4) 4 7 202 rfl w;have D:=GU (IP.extract 0 5) 5 5 203 rfl w;have E:=GU (IP.extract 0 6) 6 8 203 rfl w;have h8:=GU (IP.extract 0 7) 7 10 203 rfl w;simp only [IP,List.extract_toArray,List.extract_eq_take_drop,BC,Nat.sub_zero,List.take_succ_cons,List.take_zero,Cd,BH,AL,pL] at h1 h2 h3 h4 B D E h8;go_enter func156,ntmps156;go_wp2;go_ret;exact⟨rfl,rfl⟩
theorem Xo(cb:Nat)(u:TV)(t:Ten)(seq:Int)(c:FW)(now:Int)(hv:c.verb=2\/c.verb=3\/c.verb=4\/c.verb=5\/c.verb=6\/c.verb=7\/c.verb=8\/c.verb=10)(B:0<=now/\now<=1000000000000)(hat : -9223372036854775808<=c.at_/\c.at_<=9223372036854775807)(D:t.rules.length<=999/\t.creds.length<=1000):
  ∃f,(∀(W:World) (b:Nat),W.heap[b]? = some (.map IP 8)->(Ed 276 (.map (some b)) (I_ c.verb) false).run prog W = .ok (.func (.func f) #[] #[]) W)/\(∀(W:World) args,(callFunc f args).run prog W = .ok (.enter f args) W)/\
   ∀(w:World) (E:Nat->Addr),Et w->Fp w E->Blk w cb 223 (K7 u seq c now)->Cj w u t->FX cb u->Calls prog f #[pG (some (A_ cb 0))] w (Gt cb u seq c now (Bv t c now) w):=by
 have hl:∀(k:Int) (f i:Nat),B0 (.int .i64) (I_ k) IP.toList 0=some (some (i,.func (.func f) #[] #[]))->∀(W:World) (b:Nat),W.heap[b]? = some (.map IP 8)->(Ed 276 (.map (some b)) (I_ k) false).run prog W = .ok (.func (.func f) #[] #[]) W:=
  fun k f i hf W b hb=>(DD underlying276 underlying3 hb bS hf).2
 rcases hv with h | h | h | h | h | h | h | h
 ·refine⟨117,by rw [h];exact hl _ _ _ rfl,fun W args=>enters_of func117 bC rfl args W,fun w E _ _ hb ht hf=>?_⟩
  rw [show Bv t c now=_ by unfold Bv;rw [if_pos h]];exact Mq cb u t seq c now w hb ht hf
 ·refine⟨199,by rw [h];exact hl _ _ _ rfl,fun W args=>enters_of func199 bC rfl args W,fun w E _ _ hb ht hf=>?_⟩
  rw [show Bv t c now=_ by unfold Bv;rw [if_neg bB,if_pos h]];exact Uj cb u t seq c now w hb ht hf
 ·refine⟨200,by rw [h];exact hl _ _ _ rfl,fun W args=>enters_of func200 bC rfl args W,fun w E _ _ hb ht hf=>?_⟩
  rw [show Bv t c now=_ by unfold Bv;rw [if_neg bB,if_neg bB,if_pos h]];exact VT cb u t seq c now B w hb ht hf
 ·refine⟨203,by rw [h];exact hl _ _ _ rfl,fun W args=>enters_of func203 bC rfl args W,fun w E _ _ hb ht hf=>?_⟩
  rw [show Bv t c now=(t,0) by unfold Bv;rw [if_neg bB,if_neg bB,if_neg bB,if_neg bB,if_neg bB]];exact Jo cb u t seq c now w hb ht
 ·refine⟨201,by rw [h];exact hl _ _ _ rfl,fun W args=>enters_of func201 bC rfl args W,fun w E hg _ hb ht hf=>?_⟩
  rw [show Bv t c now=_ by unfold Bv;rw [if_neg bB,if_neg bB,if_neg bB,if_pos h]];exact Ri cb u t seq c now w hg hb ht D.2 hf
 ·refine⟨202,by rw [h];exact hl _ _ _ rfl,fun W args=>enters_of func202 bC rfl args W,fun w E _ hE hb ht hf=>?_⟩
  rw [show Bv t c now=Vv t c by unfold Bv;rw [if_neg bB,if_neg bB,if_neg bB,if_neg bB,if_pos h];rfl];exact XW cb u t seq c now hat w E hE hb ht D.1 hf
 ·refine⟨203,by rw [h];exact hl _ _ _ rfl,fun W args=>enters_of func203 bC rfl args W,fun w E _ _ hb ht hf=>?_⟩
  rw [show Bv t c now=(t,0) by unfold Bv;rw [if_neg bB,if_neg bB,if_neg bB,if_neg bB,if_neg bB]];exact Jo cb u t seq c now w hb ht
 ·refine⟨203,by rw [h];exact hl _ _ _ rfl,fun W args=>enters_of func203 bC rfl args W,fun w E _ _ hb ht hf=>?_⟩
  rw [show Bv t c now=(t,0) by unfold Bv;rw [if_neg bB,if_neg bB,if_neg bB,if_neg bB,if_neg bB]];exact Jo cb u t seq c now w hb ht
end
end Go.Proofs.YtjieiikpolahfaaGreatDoor
