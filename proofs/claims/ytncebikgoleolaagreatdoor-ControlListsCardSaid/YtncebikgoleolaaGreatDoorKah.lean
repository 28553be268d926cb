/- Steps. -/
import Derived.Test.YtncebikgoleolaaGreatDoorKad
import Derived.Test.YtncebikgoleolaaGreatDoorKaf
import Derived.Deep.DeepCutAuto
import Derived.Deep.RegionHeld3
set_option maxRecDepth 100000
set_option maxHeartbeats 8000000
set_option linter.all false
namespace Go.Proofs.YtncebikgoleolaaGreatDoor
open Tryz
open _root_.Go renaming undef→UD
open _root_.Array renaming getElem?_setIfInBounds→Bj,replicate_succ→Bt,replicate_zero→Bu
open Builtin renaming append_→BI
open Ending renaming returned→pJ
open Instr renaming findNow→B0,lookup→Ed
open IntKind renaming i64→pK
open _root_.List renaming append_toArray→BD,cons_append→AL,drop_zero→BC,findIdx?_eq_some_iff_getElem→Dx,getD_eq_getElem?_getD→AO,getElem?_cons_succ→Ao,getElem?_eq_getElem→Aq,getElem?_eq_some_iff→Ad,length_append→Al,length_cons→Av,length_drop→B1,length_nil→D4,length_range→AP,length_singleton→Bp,length_take→Ax,mem_append→AQ,mem_cons_of_mem→Ca,mem_cons→Ac,mem_of_getElem?→CD,mem_of_mem_drop→qI,nil_append→BH,not_mem_nil→Ab,push_toArray→Cd,range→AC,size_toArray→Cz,take_of_length_le→Ak
open _root_.Nat renaming add_assoc→EA,add_zero→AT,le_refl→Aw,le_trans→A8,lt_of_lt_of_le→BS,reduceAdd→pL,reduceSub→pM
open Oper renaming semAt_some→pN
open Value renaming agg→pH,bool→pI,int→pE,pointer→pG,slice→pF,string→Dz
open World renaming block_lt_of_cell?→Be,ownsRow_nil→BQ,size_alloc→Eo
section
open Go.RowKit Go.Shelf
attribute [local go_sem] pN
attribute [local go_sem ↓] wp_at_zero wp_at_succ
structure PH(w:World)(B:Nat)(v:TV)(t:Ten):Prop where
 m:Cj w v t
 r:w.ownsRow B 59 5 (pF v.ra v.rl v.rc) v.rl (t.rules.flatMap B8)
 c:w.ownsRow B 194 4 (pF v.ca v.cl v.cc) v.cl (t.creds.flatMap BT)
def EK(w:World)(B:Nat):List TV->List Ten->Prop
 | [],[]=>True
 | v::V,t::L=>PH w B v t/\EK w B V L
 | _,_=>False
def U3(w:World)(B:Nat)(S:List Nat):Prop:=∀y∈S,y<B\/∃cs,Blk w y 112 cs
theorem PH.keeps{w w':World}{B:Nat}{v:TV}{t:Ten}{S:List Nat}(h:PH w B v t)(hk:Aa S w w')(hS:U3 w B S):PH w' B v t:=by
 have hr:∀g,(pF v.ra v.rl v.rc).ownBlock=some g->g∉S:=fun g hg hm=>by
  rcases hS g hm with h1 | ⟨cs,h1⟩
  ·have:=(h.r.lt g hg).1
   omega
  ·exact CX h.r h1 bE g hg rfl
 have F:∀g,(pF v.ca v.cl v.cc).ownBlock=some g->g∉S:=fun g hg hm=>by
  rcases hS g hm with h1 | ⟨cs,h1⟩
  ·have:=(h.c.lt g hg).1
   omega
  ·exact CX h.c h1 bE g hg rfl
 have E:=Ah h.r hk hr;have D:=Ah h.c hk F;exact⟨{ h.m with rs:=AR.row Cv (by rw [h.m.rl];exact E),cs:=AR.row D0 (by rw [h.m.cl];exact D) },E,D⟩
theorem EK.keeps{w w':World}{B:Nat}{S:List Nat}(hk:Aa S w w')(hS:U3 w B S):∀ {V:List TV} {L:List Ten},EK w B V L->EK w' B V L
 | [],[],_=>trivial
 | _::_,_::_,h=>⟨h.1.keeps hk hS,EK.keeps hk hS h.2⟩
 | [],_::_,h=>h.elim
 | _::_,[],h=>h.elim
theorem EK.m{w:World}{B:Nat}: ∀ {V:List TV} {L:List Ten},EK w B V L->AX w V L
 | [],[],_=>trivial
 | _::_,_::_,h=>⟨h.1.m,EK.m h.2⟩
 | [],_::_,h=>h.elim
 | _::_,[],h=>h.elim
theorem EK.ge{w:World}{B:Nat}: ∀ {V:List TV} {L:List Ten},EK w B V L->∀u∈V,Kx B u
 | [],[],_,u,hu=>by simp at hu
 | _::_,_::_,h,u,hu=>by
  rcases Ac.1 hu with rfl | hu
  ·exact⟨fun g o e=>(h.1.r.lt g (by rw [e];rfl)).1,fun g o e=>(h.1.c.lt g (by rw [e];rfl)).1⟩
  ·exact EK.ge h.2 u hu
 | [],_::_,h,_,_=>h.elim
 | _::_,[],h,_,_=>h.elim
theorem EK.snoc{w:World}{B:Nat}{x:TV}{t:Ten}(hx:PH w B x t):∀ {V:List TV} {L:List Ten},EK w B V L->EK w B (V++[x]) (L++[t])
 | [],[],_=>⟨hx,trivial⟩
 | _::_,_::_,h=>⟨h.1,EK.snoc hx h.2⟩
 | [],_::_,h=>h.elim
 | _::_,[],h=>h.elim
theorem EK.len{w:World}{B:Nat}{V:List TV}{L:List Ten}(h:EK w B V L):V.length=L.length:=AX.len h.m
structure fK(w:World)(v:B6)(gn un fn ln:Nat)(seq:Int)(L:List Ten)(xa:Option Addr)(xc:Nat)(xs:List TV)(A:World):Prop where
 row:A.ownsRow (w.heap.size+6) 112 8 (pF xa xs.length xc) xs.length (xs.flatMap BE)
 ob:Blk A (w.heap.size+1+1) 27 #[pF xa xs.length xc]
 t:EK A (w.heap.size+6) xs L
 rb:Blk A w.heap.size 29 (R_ v gn un fn ln seq)
 r2:Blk A (w.heap.size+1) 29 LU.k
 pb:Blk A (w.heap.size+3) 29 (R_ v gn un fn ln seq)
 kw:Aa [] w A
def fJ(w:World)(v:B6)(gn un fn ln:Nat)(seq:Int)(L:List Ten)(A:World):Prop:=∃xa xc xs,fK w v gn un fn ln seq L xa xc xs A
theorem fK.keeps{w:World}{v:B6}{gn un fn ln:Nat}{seq:Int}{L:List Ten}{E:Option Addr}{F:Nat}{xs:List TV}{A D:World}{S:List Nat}(h:fK w v gn un fn ln seq L E F xs A)(hk:Aa S A D)(hS:∀y∈S,w.heap.size+4<=y/\y<w.heap.size+6):fK w v gn un fn ln seq L E F xs D:=by
 have hn:∀y,y<w.heap.size+4->y∉S:=fun y hy hm=>by have:=hS y hm;omega
 exact⟨Ah h.row hk (fun g B hm=>by have:=(h.row.lt g B).1;have:=hS g hm;omega),h.ob.keeps hk (hn _ bB),h.t.keeps hk (fun y hy=>.inl (hS y hy).2),h.rb.keeps hk (hn _ bB),h.r2.keeps hk (hn _ bB),h.pb.keeps hk (hn _ bB),h.kw.own hk bM⟩
theorem fJ.keeps{w:World}{v:B6}{gn un fn ln:Nat}{seq:Int}{L:List Ten}{A B:World}{S:List Nat}(h:fJ w v gn un fn ln seq L A)(hk:Aa S A B)(hS:∀y∈S,w.heap.size+4<=y/\y<w.heap.size+6):fJ w v gn un fn ln seq L B:=by
 obtain⟨D,E,F,h⟩:=h;exact⟨D,E,F,h.keeps hk hS⟩
theorem fK.push{w:World}{v:B6}{gn un fn ln:Nat}{seq:Int}{L:List Ten}{J:Option Addr}{M:Nat}{xs:List TV}{A:World}(h:fK w v gn un fn ln seq L J M xs A)(hl:L.length<=1000)(hA:w.heap.size+6<=A.heap.size){z:TV}{t:Ten}(hz:PH A (w.heap.size+6) z t):
  ∃g n c W3,(BI #[27,27] 27 #[pF J xs.length M,pF (some (A_ A 0)) 1 1]).run prog (A.alloc (.cells (BE z).toArray 112)) = .ok (pF (some (A_ g 0)) n c) W3/\
   Blk W3 (w+1+1) 27 #[pF J xs.length M]/\fJ w v gn un fn ln seq (L++[t]) (W3.setCell (A2 w 0) (pF (some (A_ g 0)) n c))/\
   A.heap.size<=(W3.setCell (A2 w 0) (pF (some (A_ g 0)) n c)).heap.size/\∀y∈[w.heap.size+4,w.heap.size+5],(W3.setCell (A2 w 0) (pF (some (A_ g 0)) n c)).heap[y]? = A.heap[y]?:=by
 obtain⟨g,c,W3,F,B,hk3,T⟩:=CO (enc:=BE) prog (t:=27) underlying27 Io bE CF FB h.row hA z (by have:=h.t.len;omega) 27;have hgeS:=AZ h.row;have hne:∀y,y<w.heap.size+6->y∉(pF J xs.length M).ownBlock.toList:=fun y hy hm=>by have:=hgeS y hm;omega
 have E:=h.ob.keeps hk3 (hne _ bB);have hN:U3 A (w.heap.size+6) (pF J xs.length M).ownBlock.toList:=fun y hy=>.inr (DP h.row bU);have hk4:Aa [w.heap.size+1+1] W3 (W3.setCell (A2 w 0) (pF (some (A_ g 0)) (xs.length+1) c)):=Ae _ _ _ _;have D:∀y∈[w.heap.size+1+1],y<w.heap.size+6:=fun y hy=>by simp only [Ac,Ab,or_false] at hy;omega
 refine⟨g,_,c,W3,F,E,⟨some (A_ g 0),c,xs++[z],?_⟩,?_,?_⟩
 ·have h9:=Ah B hk4 (fun O N hm'=>by have:=(B.lt O N).1;have:=D _ hm';omega)
  rw [Al,Bp] at h9;refine⟨by rw [Al,Bp];exact h9,by rw [Al,Bp];exact E.set_ 0 _,((h.t.snoc hz).keeps hk3 hN).keeps hk4 (fun y hy=>.inl (D y hy)),(h.rb.keeps hk3 (hne _ bB)).keeps hk4 bI,(h.r2.keeps hk3 (hne _ bB)).keeps hk4 bA,(h.pb.keeps hk3 (hne _ bB)).keeps hk4 bA,(h.kw.own hk3 jW).own hk4 bF⟩
 ·exact A8 hk3.size hk4.size
 ·intro y hy
  have G:y<w.heap.size+6/\y≠w.heap.size+1+1:=by simp only [Ac,Ab,or_false] at hy;omega
  exact(hk4.block y (by have:=hk3.size;omega) (by simpa using G.2)).trans (hk3.block y bB (hne y G.1))
theorem YY{w:World}{v:B6}{r:CJ}{gn un fn ln:Nat}{seq:Int}{xa ga ua fa:Option Addr}{O gc uc fc B:Nat}{xs:List TV}{W0 w7 T:World}(hM:CH w v r)(hln:r.l.length=ln)(F:fK w v gn un fn ln seq r.l xa O xs W0)(hB:w.heap.size+6<=B)(hk7:Aa [] W0 w7)
 (X:F1 w7 ga gc r.slots.gens)(Y:GX w7 ua uc r.slots.used)(U:F1 w7 fa fc r.slots.free)(M:Dj B ga)(N:Dj B ua)(G:Dj B fa)(D:Aa [w.heap.size+1,w.heap.size+4] w7 T):
  ∃v':B6,pJ (pH #[pF ga gn gc,pF ua un uc,pF fa fn fc,pF xa xs.length O,I_ seq]) = pJ (pH (R_ v' gn un fn ln seq))/\CH T v' r/\IF w v'/\Aa [] w T:=by
 have hS:∀y∈[w.heap.size+1,w.heap.size+4],y<w.heap.size+6:=fun y hy=>by simp only [Ac,Ab,or_false] at hy;omega
 have E:∀y∈[w.heap.size+1,w.heap.size+4],y<B:=fun y hy=>by have:=hS y hy;omega
 have hT:=F.t.keeps hk7 (fun y hy=>by simp at hy);have hrow:AR BE 8 w7 xa O xs:=AR.row CF (Ah F.row hk7 (fun g hg=>by simp));have J:Dj (w.heap.size+6) xa:=DQ F.row;have hl:xs.length=ln:=by rw [F.t.len,hln]
 rw [hl];refine⟨⟨⟨ga,gc,ua,uc,fa,fc⟩,xa,O,xs⟩,rfl,{ s:=⟨X.keepsS D (M.out E),Y.keepsS D (N.out E),U.keepsS D (G.out E),hM.s.sg,hM.s.su,hM.s.sf⟩,l:=hrow.keepsS D (J.out hS),t:=(hT.keeps D (fun y hy=>.inl (hS y hy))).m,sl:=hM.sl,small:=hM.small },⟨⟨M.mono bB,N.mono bB,G.mono bB⟩,J.mono bB,fun u hu=>(F.t.ge u hu).mono bB⟩,(F.kw.trans hk7).own D bF⟩
theorem RI(v:B6)(r:CJ)(gn un fn ln:Nat)(hg:r.slots.gens.length=gn)(hu:r.slots.used.length=un)(hf:r.slots.free.length=fn)(hln:r.l.length=ln)(seq:Int)(hsq:r.seq=seq)(w:World)(h:CH w v r):
  Calls prog 47 #[pH (R_ v gn un fn ln seq)] w fun x w'=>∃v':B6,x = pJ (pH (R_ v' gn un fn ln seq))/\CH w' v' r/\IF w v'/\Aa [] w w':=by
 subst hsq;obtain⟨seq,U⟩:=eX r.seq;have ac:=fun W=>FU v r gn un fn ln W;rw [U] at ac ⊢;refine(callsIn_wide (n:=9)).1 ?_;have HL:=lH h.l;have HT:=lH h.t;have HLN:Hi (v.lv.length=ln):=lH lP;have ba:ln<=1000:=by have:=h.sl;omega
 have HM:=lH h;have az:=lH ac;have HG:=lH hg;have HU:=lH hu;have HF:=lH hf;clear h hln ac U hg hu hf;refine callsIn_of_wp_marks func47 rfl trivial ?_ rfl;simp only [ntmps47,Cz,Av,D4,pL,pM,Bt,Bu,Cd,BD,BH,AL];gi_wp2_with fail;refine⟨trivial,(callsIn_wide.2 (az.o _)).mono ?_⟩;rintro e w1 ⟨rfl,hw1⟩;gi_wp2_with fail;have hsz:w1.heap.size=w.heap.size+4:=by rw [<- hw1];simp
 have ah:fJ w v gn un fn ln seq [] w1:=by
  have hk:Aa [] w w1:=by rw [<- hw1];exact((((Aa.refl [] w).alloc _).alloc _).alloc _).alloc _
  refine⟨none,0,[],BQ _ _ _ _,?_,trivial,?_,?_,?_,hk⟩<;>rw [<- hw1]
  ·exact(Ar _ _ _ _ bA).alloc _
  ·exact(((Blk.new w _ _).alloc _).alloc _).alloc _
  ·exact((Ar _ _ _ _ bA).alloc _).alloc _
  ·exact Ar _ _ _ _ bA
 have ar:=lH ah;clear ah hw1;refine Cc rfl bB (gf:=72) (lb:=#[pG (some (A3 w 0))]) rfl trivial (enters_of func72 bC rfl) (FV 8 (w+1+1+1) v.la v.lc ln v.lv HLN.o ba seq) (fun _=>rfl)
  (fun D A=>fJ w v gn un fn ln seq (r.l.take D.length) A) (fun _ _=>False)
  (fun D A A' h hk=>h.keeps hk bF)
  (fun D A A' h hk=>h)
  (fun D A h=>by obtain⟨_,_,_,h⟩:=h;exact⟨h.pb.cell 3,h.pb.cell 4,HL.o.keeps h.kw⟩) ar.o
  (fun k W=>(fun u:TV=>(({ tmps:=#[pH (R_ v gn un fn ln seq),p_ w 0,p1 w 0,p2 w 0,UD,p_ W 0,UD,pH (R_ v gn un fn ln seq),
     .func (.func 72) #[] #[pG (some (A3 w 0))],I_ (k:Int),pH (U_ u seq),UD,UD,UD,UD,UD,UD,UD,UD,UD,UD,UD,UD,UD,UD,UD,UD,UD,UD,UD,UD,UD],defers:=[] } : Act),W.alloc (.cells (U_ u seq) 114))) (v.lv.getD k tv0))
  (fun k W=>(Aa.refl [] W).alloc _) ?assign ?body ?done ?stop
 case assign=>
  intro l k W K hK;simp only [Mg];dsimp only at hK;generalize v.lv.getD k tv0=u at hK ⊢;gi_wp2;exact hK
 case body=>
  rintro l D k W W2 hI G X hk2;obtain⟨rfl,hkn⟩:=E8 G;obtain⟨u,hu⟩:∃u,v.lv[k]? = some u:=⟨_,Aq iV⟩;have hgd:v.lv.getD k tv0=u:=by rw [AO,hu];rfl
  obtain⟨t,ht,J⟩:=HT.o.get? hu;dsimp only at hk2 ⊢;rw [hgd] at hk2 ⊢;rw [AP] at hI;have bi:W.heap.size+1<=W2.heap.size:=by have:=hk2.size;rw [Eo] at this;exact this
  have a3:=(hI.keeps ((Aa.refl [] W).alloc (.cells (U_ u seq) 114)) bA).keeps hk2 bF;have hb:=(Blk.new W 114 (U_ u seq)).keeps hk2 bI;obtain⟨xa,xc,xs,N⟩:=a3;have HJ:=lH N;have b:=hb.cell;have x:=N.ob.cell;obtain⟨n,hn⟩:=eX xs.length;have av:Hi ((r.l.take k).length<=1000):=lH (by rw [Ax];have:=HM.o.sl;omega);have a1:Hi (r.l.take (AC k++[k]).length=r.l.take k++[t]):=lH (by rw [Al,AP,Bp,A0 ht]);have bb:=HM.o.small t (CD ht);have a0:=lH (fun W' (hk:Aa [] W2 W')=>ZR u t seq W' (J.keeps (N.kw.trans hk)) (by have:=J.rl;omega) (by have:=J.cl;omega));have a2:Hi (∀(W5:World) (ra ca:Option Addr) (rc cc:Nat),Aa [] W2 W5->W5.ownsRow W2 59 5 (pF ra u.rl rc) u.rl (t.rules.flatMap B8)->W5.ownsRow W2 194 4 (pF ca u.cl cc) u.cl (t.creds.flatMap BT)->
    PH W5 (w.heap.size+6) { u with ra:=ra,rc:=rc,ca:=ca,cc:=cc } t):=lH fun W5 ra ca rc cc hk h1 h2=>by
   have hm:=J.keeps (N.kw.trans hk);have h1:=Bw h1 (show w.heap.size+6<=W2.heap.size by omega);have h2:=Bw h2 (show w.heap.size+6<=W2.heap.size by omega);exact⟨{ hm with rs:=AR.row Cv (by rw [hm.rl];exact h1),cs:=AR.row D0 (by rw [hm.cl];exact h2) },h1,h2⟩
  clear hI G hk2 hb N hgd hu ht J bb hn;gi_wp2_with fail;refine BA (S:=(fun W:World=>True)) bC bC (fun _ _ h=>h) trivial (fun hHeld=>?_)
  repeat' (first | exact rZ | refine rX ?_ | ((first | (refine rA 0 (fun K hK=>?_) ?_;go_simp) | (refine rA 1 (fun K hK=>?_) ?_;go_simp) | (refine rA 2 (fun K hK=>?_) ?_;go_simp;(refine(a0.o _ ((Aa.refl [] W2).drew)).mono ?_;rintro e w5 ⟨ra,rc,ca,cc,rfl,am,ak,hk5⟩;have hk5:Aa [] W2 w5:=((Aa.refl [] W2).drew).trans hk5;have Y:=lH (HJ.o.keeps hk5 bA);have x5:=Y.o.ob.cell;have ap:=a2.o _ _ _ _ _ hk5 am ak;obtain⟨g,n9,c9,W9,an,T,ai,ao,aj⟩:=Y.o.push av.o (by have:=hk5.size;omega) ap;have y5:=fun o=>((Y.o.ob.alloc o).cell);have O:=lH T;have au:=lH ai;have ax:=lH (A8 hk5.size ao);have aq:Hi (∀y∈[w1.heap.size,w1.heap.size+1],(W9.setCell (A2 w 0) (pF (some (A_ g 0)) n9 c9)).heap[y]? = W2.heap[y]?):=lH (fun y hy=>(aj y (by simpa [hsz,EA] using hy)).trans (hk5.block y gB bA));clear T ai ao aj hk5 am ak ap)) | (refine rA 3 (fun K hK=>?_) ?_;go_simp) | (refine rA 4 (fun K hK=>?_) ?_;(refine BG _ _ 27 bD bD bD bD an ?_;have f9:=O.o.frozen;have x9:=O.o.cell)) | (refine rA 5 (fun K hK=>?_) ?_;go_simp));refine rO hK trivial fun hHeld=>?_;clear hK K) | refine rB [0,1,2,3,4,5] ?_ | (refine wpAnyH_done bC ?_ _;(gi_wp2_with fail;refine⟨ax.o,aq.o,?_⟩;show fJ w v gn un fn ln seq (r.l.take (AC k++[k]).length) _;rw [a1.o];exact au.o)))
 case done=>
  rintro W hI X hK;rw [AP,Ak (by have:=AX.len HT.o;have:=HLN.o;omega)] at hI;obtain⟨xa,xc,xs,N⟩:=hI;have b:=N.rb.cell;obtain⟨W0,ab⟩:=eX (W.alloc (.cells (S_ v.s gn un fn) 26));have hk0:Aa [] W W0:=by rw [<- ab];exact(Aa.refl [] W).alloc _
  have HSB:Hi (Blk W0 W 26 (S_ v.s gn un fn)):=lH (by rw [<- ab];exact Blk.new _ _ _);have HJ:=lH (N.keeps hk0 bA);have HK:Hi (W0.heap[w.heap.size+4]? = some (.deferred (some []))):=lH (by rw [<- hsz];exact(hk0.block _ bB bA).trans hK);have aw:Hi (r.l.length=ln):=lH (by have:=AX.len HT.o;have:=HLN.o;omega);have HSZ:Hi (w.heap.size+6<=W0.heap.size/\w.heap.size+6<=W.heap.size):=lH (by have:=hk0.size;omega);have HS:Hi (∀A,Aa [w.heap.size+1] W0 A->Aa [w.heap.size+1] W0 A/\(∀i,A.cell? (A_ W i)=((S_ v.s gn un fn):Array Value)[i]?)/\(∀i,A.cell? (A2 w i)=(#[pF xa xs.length xc]:Array Value)[i]?)/\(∀i,A.cell? (A_ w i)=((R_ v gn un fn ln seq):Array Value)[i]?)):=lH fun A hk=>by
   have:=HSZ.o;exact⟨hk,(HSB.o.keeps hk bI).cell,(HJ.o.ob.keeps hk bI).cell,(HJ.o.rb.keeps hk bI).cell⟩
  have aa:Hi (∀A,Aa [w.heap.size+1] W0 A->Aa [] w A):=lH fun A hk=>HJ.o.kw.own hk bF;clear N hk0 hK;gi_wp2_with fail;clear ab b;refine I6 (S:=(fun A:World=>Aa [w.heap.size+1] W0 A/\(∀i,A.cell? (A_ W i)=((S_ v.s gn un fn):Array Value)[i]?)/\(∀i,A.cell? (A2 w i)=(#[pF xa xs.length xc]:Array Value)[i]?)/\(∀i,A.cell? (A_ w i)=((R_ v gn un fn ln seq):Array Value)[i]?))) bC bC (by((try dsimp only);(first | exact HS.o _ ((Aa.refl _ W0).drew) | exact HS.o _ (hHeld.1.trans (F.mono bA)) | exact HS.o _ (hHeld.1.trans (M.mono bA)) | exact HS.o _ (hHeld.1.trans (E.mono bA)) | exact HS.o _ (by(repeat with_reducible refine Aa.setCell ?_ (.inl bA) _);with_reducible exact hHeld.1)))) (fun hHeld=>?_)
  repeat' (first | exact rZ | refine rX ?_ | ((first | (refine rA 2 (fun K hK=>?_) ?_;go_simp;(refine(PR v.s.ga v.s.gc r.slots.gens gn HG.o (by have:=HM.o.s.sg;have:=HG.o;omega) _ (HM.o.s.g.keeps (aa.o _ hHeld.1))).mono ?_;rintro e w5 ⟨ga,gc,rfl,a9,a7,F⟩)) | (refine rA 5 (fun K hK=>?_) ?_;go_simp;(refine(Rb v.s.ua v.s.uc r.slots.used un HU.o (by have:=HM.o.s.su;have:=HU.o;omega) _ (HM.o.s.u.keeps (aa.o _ hHeld.1))).mono ?_;rintro e w6 ⟨ua,uc,rfl,bf,be,M⟩)) | (refine rA 8 (fun K hK=>?_) ?_;go_simp;(refine(PR v.s.fa v.s.fc r.slots.free fn HF.o (by have:=HM.o.s.sf;have:=HF.o;omega) _ (HM.o.s.f.keeps (aa.o _ hHeld.1))).mono ?_;rintro e w7 ⟨fa,fc,rfl,a6,a5,E⟩;have hk7:Aa [] W0 w7:=(((Aa.refl [] W0).drew.trans F).trans M).trans E;have z:=(HJ.o.r2.keeps hk7 bA).cell;have y:=(HJ.o.r2.keeps hk7 bA).frozen)) | (refine rA 14 (fun K hK=>?_) ?_;go_simp));refine rO hK (by((try dsimp only);(first | exact HS.o _ ((Aa.refl _ W0).drew) | exact HS.o _ (hHeld.1.trans (F.mono bA)) | exact HS.o _ (hHeld.1.trans (M.mono bA)) | exact HS.o _ (hHeld.1.trans (E.mono bA)) | exact HS.o _ (by(repeat with_reducible refine Aa.setCell ?_ (.inl bA) _);with_reducible exact hHeld.1)))) fun hHeld=>?_;clear hK K) | (refine rQ 0 ?_;refine rQ 1 ?_;refine rQ 3 ?_;refine rQ 4 ?_;refine rQ 6 ?_;refine rQ 7 ?_;refine rQ 10 ?_;refine rQ 11 ?_;refine rQ 12 ?_) | (refine rQ 9 ?_;refine rQ 13 ?_) | refine rB [2,5,8,14] ?_ | (refine wpAnyH_done bC ?_ _;simp only [YX];(gi_wp2_with fail;have hW:=HSZ.o;have al:=G6 w7 (w+1) (pF ga gn gc) (pF ua un uc) (pF fa fn fc) (pF xa xs.length xc) (I_ seq);have a4:=((HJ.o.r2.keeps hk7 bA).put5 (pF ga gn gc) (pF ua un uc) (pF fa fn fc) (pF xa xs.length xc) (I_ seq)).keeps (AG (S:=[w.heap.size+4]) (l:=w.heap.size+4) _ (.deferred none) bA) bA;have zF:=a4.cell;refine⟨by simp,.inl ⟨_,_,rfl,run_takeDeferred ((al.block _ (by have:=hk7.size;omega) bI).trans ((hk7.block _ bB bA).trans HK.o)),?_⟩⟩;refine⟨pH #[pF ga gn gc,pF ua un uc,pF fa fn fc,pF xa xs.length xc,I_ seq],by simp [results,results47,go_sem,zF],?_⟩;exact YY (B:=W0.heap.size) HM.o aw.o HJ.o hW.1 hk7 ((a9.keeps M).keeps E) (bf.keeps E) a6 (DQ a7) ((DQ be).mono F.size) ((DQ a5).mono (A8 F.size M.size)) ((al.mono bA).trans (AG _ _ bA)))))
 case stop=>
  rintro D W G hX X hK;exact hX.elim
end
section
open Go.RowKit
theorem O7(t:Ten)(c:FW)(now:Int):(Bv t c now).1.version=t.version:=by
 unfold Bv
 (repeat' split)<;>rfl
theorem RK(l:List EX)(a:Int)(r:EX):(BU l a r).1.length<=l.length+1:=by
 unfold BU
 repeat' split
 all_goals (try simp)
 omega
theorem Sz(l:List EX)(a:Int):(Cl l a).1.length<=l.length+1:=by
 unfold Cl
 repeat' split
 all_goals (try simp [List.length_eraseIdx])
 split<;>omega
theorem Mo(l:List El)(k:ByteArray)(a b c:Int):(Bk l k a b c).1.length<=l.length+1:=by
 have h:(Cq l a b).length<=l.length:=List.length_filterMap_le ..;unfold Bk
 repeat' split
 all_goals (try simp)
 omega
theorem SL(t:Ten)(c:FW)(now:Int):(Bv t c now).1.rules.length<=t.rules.length+1/\(Bv t c now).1.creds.length<=t.creds.length+1:=by
 have h1:=RK t.rules c.at_ c.rule;have h2:=Sz t.rules (-(c.at_+1));have h3:=Mo t.creds c.key now c.n c.m;unfold Bv
 (repeat' split)<;>dsimp only<;>omega
theorem Zr{l:List Ten}{t x:Ten}(h:x∈GI l t):x=t\/x∈l:=by
 unfold GI at h;dsimp only at h;rcases AQ.1 h with h | h
 ·exact .inr (List.mem_of_mem_take h)
 ·rcases Ac.1 h with h | h
  ·exact .inl h
  ·right
   generalize hk:(l.takeWhile fun y=>decide (y.slot<t.slot)).length=k at h;split at h
   ·rename_i y m hd
    split at h
    ·exact qI (i:=k) (by rw [hd];exact Ca _ h)
    ·exact qI (i:=k) (by rw [hd];exact h)
   ·simp at h
theorem Zs{l:List TV}{t x:TV}(h:x∈DC l t):x=t\/x∈l:=by
 unfold DC at h;rcases AQ.1 h with h | h
 ·rcases AQ.1 h with h | h
  ·exact .inr (List.mem_of_mem_take h)
  ·exact .inl bK
 ·right
  generalize hk:(l.takeWhile fun y=>decide (y.slot<t.slot)).length=k at h;split at h
  ·rename_i y m hd
   split at h
   ·exact qI (i:=k) (by rw [hd];exact Ca _ h)
   ·exact qI (i:=k) (by rw [hd];exact h)
  ·simp at h
theorem Sv(l:List Ten)(t:Ten):(GI l t).length<=l.length+1:=by
 unfold GI;dsimp only;generalize (l.takeWhile fun y=>decide (y.slot<t.slot)).length=k;rw [Al,Av,Ax];have B:(l.drop k).length=l.length - k:=B1;split
 ·rename_i y m h
  rw [h,Av] at B;split<;>(try rw [Av])<;>omega
 ·simp;omega
theorem AX.eraseIdx{w:World}{V:List TV}{L:List Ten}(h:AX w V L)(k:Nat):AX w (V.eraseIdx k) (L.eraseIdx k):=by
 rw [List.eraseIdx_eq_take_drop_succ,List.eraseIdx_eq_take_drop_succ];exact(AX.take k h).app (AX.drop (k+1) h)
def DW(Q:Nat->Prop)(a:Option Addr)(n:Nat):Prop:=0<n->∀g o,a=some ⟨g,o,none⟩->¬Q g
def Ky(Q:Nat->Prop)(u:TV):Prop:=DW Q u.ra u.rl/\DW Q u.ca u.cl
structure CL(Q:Nat→Prop)(v:B6)(r:CJ):Prop where
 g:DW Q v.s.ga r.slots.gens.length
 u:DW Q v.s.ua r.slots.used.length
 f:DW Q v.s.fa r.slots.free.length
 l:DW Q v.la v.lv.length
 t:∀u∈v.lv,Ky Q u
theorem Dj.no{B n:Nat}{a:Option Addr}{Q:Nat->Prop}(h:Dj B a)(hQ:∀y,Q y->y<B):DW Q a n:=fun _ g o e hq=>by
 have:=h g o e;have:=hQ g hq;omega
theorem AR.no{α:Type}{enc:α->List Value}{n m:Nat}{w:World}{a:Option Addr}{c:Nat}{xs:List α}{Q:Nat->Prop}(h:AR enc n w a c xs)(hm:xs.length=m)(hQ:∀y,Q y->w.heap.size<=y):DW Q a m:=fun h0 g o e hq=>by
 obtain⟨g',o',e',hl,_⟩:=h.at_ bB;rw [e'] at e;injection e with e;injection e with e _ _
 have:=hQ g hq;omega
theorem Cj.no{w:World}{u:TV}{t:Ten}{Q:Nat->Prop}(h:Cj w u t)(hQ:∀y,Q y->w.heap.size<=y):Ky Q u:=⟨h.rs.no h.rl hQ,h.cs.no h.cl hQ⟩
theorem EY.no{B:Nat}{u u':TV}{Q:Nat->Prop}(h:EY B u u')(hu:Ky Q u)(hQ:∀y,Q y->y<B):Ky Q u':=
 ⟨h.1.elim (fun e=>by rw [e.1,e.2];exact hu.1) (fun e=>e.no hQ),h.2.elim (fun e=>by rw [e.1,e.2];exact hu.2) (fun e=>e.no hQ)⟩
theorem AX.no{w:World}{Q:Nat->Prop}(hQ:∀y,Q y->w.heap.size<=y):∀ {V:List TV} {L:List Ten},AX w V L->∀u∈V,Ky Q u
 | [],[],_,u,hu=>by simp at hu
 | _::_,_::_,h,u,hu=>by
  rcases Ac.1 hu with rfl | hu
  ·exact h.1.no hQ
  ·exact AX.no hQ h.2 u hu
 | [],_::_,h,_,_=>h.elim
 | _::_,[],h,_,_=>h.elim
theorem CH.later{w:World}{v:B6}{r:CJ}{Q:Nat->Prop}(h:CH w v r)(hQ:∀y,Q y->w.heap.size<=y):CL Q v r:=
 ⟨h.s.g.no rfl hQ,h.s.u.no rfl hQ,h.s.f.no rfl hQ,h.l.no rfl hQ,AX.no hQ h.t⟩
theorem IF.no{B:Nat}{v:B6}{r:CJ}{Q:Nat->Prop}(h:IF B v)(hQ:∀y,Q y->y<B):CL Q v r:=
 ⟨Dj.no h.s.1 hQ,Dj.no h.s.2.1 hQ,Dj.no h.s.2.2 hQ,h.l.no hQ,fun u hu=>⟨(h.t u hu).1.no hQ,(h.t u hu).2.no hQ⟩⟩
theorem Cj.stay{w w':World}{u:TV}{t:Ten}{Q:Nat->Prop}{S:List Nat}(h:Cj w u t)(hn:Ky Q u)(hk:Aa S w w')(hS:∀y∈S,Q y):Cj w' u t:=
 { h with rs:=h.rs.keepsN hk (fun h0 g o e hm=>hn.1 (by rw [<- h.rl];exact h0) g o e (hS g hm)),cs:=h.cs.keepsN hk (fun h0 g o e hm=>hn.2 (by rw [<- h.cl];exact h0) g o e (hS g hm)) }
theorem AX.stay{w w':World}{Q:Nat->Prop}{S:List Nat}(hk:Aa S w w')(hS:∀y∈S,Q y):∀ {V:List TV} {L:List Ten},AX w V L->(∀u∈V,Ky Q u)->AX w' V L
 | [],[],_,_=>trivial
 | _::_,_::_,h,hn=>⟨h.1.stay (hn _ bA) hk hS,AX.stay hk hS h.2 (fun u hu=>hn u (by simp [hu]))⟩
 | [],_::_,h,_=>h.elim
 | _::_,[],h,_=>h.elim
theorem CH.stay{w w':World}{v:B6}{r:CJ}{Q:Nat->Prop}{S:List Nat}(h:CH w v r)(hn:CL Q v r)(hk:Aa S w w')(hS:∀y∈S,Q y):CH w' v r:=
 { h with s:=⟨h.s.g.keepsN hk (fun h0 g o e hm=>hn.g h0 g o e (hS g hm)),h.s.u.keepsN hk (fun h0 g o e hm=>hn.u h0 g o e (hS g hm)),h.s.f.keepsN hk (fun h0 g o e hm=>hn.f h0 g o e (hS g hm)),h.s.sg,h.s.su,h.s.sf⟩,l:=h.l.keepsN hk (fun h0 g o e hm=>hn.l h0 g o e (hS g hm)),t:=AX.stay hk hS h.t hn.t }
theorem CL.put{Q:Nat->Prop}{v:B6}{r:CJ}{U:TV}{T:Ten}{a:Option Addr}{c:Nat}{seq:Int}(h:CL Q v r)(ha:DW Q a (DC v.lv U).length)(hU:Ky Q U):CL Q ⟨v.s,a,c,DC v.lv U⟩ ⟨r.slots,GI r.l T,seq⟩:=
 ⟨h.g,h.u,h.f,ha,fun u hu=>by
  rcases Zs hu with rfl | hu
  ·exact hU
  ·exact h.t u hu⟩
def OB(w:World)(v:B6)(r:CJ)(v':B6)(r':CJ):Prop:=∀Q:Nat->Prop,(∀y,Q y->y<w.heap.size)->CL Q v r->CL Q v' r'
theorem CH.put{w W:World}{v:B6}{r:CJ}{U:TV}{T:Ten}{a:Option Addr}{c:Nat}(h:CH w v r)(hk:Aa [] w W)(hs:AR BE 8 W a c (DC v.lv U))(E:Cj W U T)(hl:r.l.length<=900)(D:T.rules.length<=1000/\T.creds.length<=1000)(seq:Int):
  CH W ⟨v.s,a,c,DC v.lv U⟩ ⟨r.slots,GI r.l T,seq⟩/\(GI r.l T).length=(DC v.lv U).length:=by
 have B:=Zt (AX.keeps h.t hk) E;refine⟨⟨h.s.keeps hk,hs,B,?_,?_⟩,(AX.len B).symm⟩
 ·exact A8 (Sv r.l T) bB
 ·intro t B
  rcases Zr B with rfl | B
  ·exact D
  ·exact h.small t B
def Ht:Array Value->Nat->List Value->Array Value
 | cs,_,[]=>cs
 | cs,o,v::r=>Ht (cs.setIfInBounds o v) (o+1) r
theorem Blk.puts{b:Nat}{t:TypeId}: ∀(vs:List Value) (o:Nat) {W:World} {cs:Array Value},Blk W b t cs->Blk (W.setCells b o vs) b t (Ht cs o vs)
 | [],_,_,_,h=>h
 | v::r,o,_,_,h=>Blk.puts r (o+1) (h.set_ o v)
theorem NF:∀(vs:List Value) (o:Nat) (cs:Array Value),(Ht cs o vs).size=cs.size
 | [],_,_=>rfl
 | v::r,o,cs=>by rw [Ht,NF r];simp
theorem LL:∀(vs:List Value) (o:Nat) (cs:Array Value) (i:Nat),o+vs.length<=cs.size->(Ht cs o vs)[i]? = if o<=i/\i<o+vs.length then vs[i - o]? else cs[i]?
 | [],o,cs,i,_=>by rw [Ht,if_neg bA]
 | v::r,o,cs,i,h=>by
  rw [Av] at h;rw [Ht,LL r (o+1) _ i bG];by_cases h1:i=o
  ·subst h1
   rw [if_neg bB,if_pos bA];rw [Bj,if_pos rfl,if_pos bB];simp
  ·by_cases h2:o+1<=i/\i<o+1+r.length
   ·rw [if_pos h2,if_pos (by rw [Av];omega)]
    obtain⟨k,hk⟩:∃k,i - o=k+1:=⟨i - o - 1,by omega⟩;rw [hk,Ao,show i - (o+1)=k by omega]
   ·rw [if_neg h2,if_neg (by rw [Av];omega),Bj,if_neg (fun e=>h1 e.symm)]
theorem Blk.putAll{W:World}{b:Nat}{t:TypeId}{cs ds:Array Value}(h:Blk W b t cs)(hs:cs.size=ds.size):Blk (W.setCells b 0 ds.toList) b t ds:=by
 have:=Blk.puts ds.toList 0 h;have he:Ht cs 0 ds.toList=ds:=by
  apply Array.ext_getElem?;intro i;rw [LL _ _ _ _ bG];by_cases hi:i<ds.size
  ·rw [if_pos (by simp;exact hi)];simp
  ·rw [if_neg bG,Array.getElem?_eq_none bB,Array.getElem?_eq_none bB]
 rwa [he] at this
theorem Blk.there{w:World}{b:Nat}{t:TypeId}{cs:Array Value}(h:Blk w b t cs)(o n:Nat)(hn:o+n<=cs.size):w.there b o n:=fun j hj=>
 ⟨by rw [h.cell];simp;omega,h.frozen _⟩
theorem DT{P:Program}{op:Oper}{a:Act}{w:World}{K:Act->World->Prop}{Q:Exit->Act->World->Prop}(ty:TypeId)(x y:Operand)(ho:op.op = .store ty x y)
 (b:Nat)(cells:Array Value)(hx:a.eval x = p_ b 0)(hy:a.eval y = .agg cells)(t:TypeId)(old:Array Value)(hb:Blk w b t old)(hs:old.size=cells.size)
 (hi:(P.info? ty).map (·.size)=some cells.size)(h1:cells.all (·.oneCell')=true)(h:∀W',Blk W' b t cells->Aa [b] w W'->K (a.put op.dst UD) W'):op.wp P a w K Q:=
 wp_store_mid ty x y ho b 0 cells hx hy (Blk.there hb 0 cells.size bB) hi h1 (h _ (hb.putAll hs) (Bb b 0 _ w))
theorem As{P:Program}{ops:Array Oper}{rest:List Oper}{o:Oper}{a:Act}{w:World}{Q:Exit->Act->World->Prop}(hgd:o.guard=none)(ty:TypeId)(x y:Operand)(ho:o.op = .store ty x y)
 (b:Nat)(cells:Array Value)(hx:a.eval x = p_ b 0)(hy:a.eval y = .agg cells)(t:TypeId)(old:Array Value)(hb:Blk w b t old)(hs:old.size=cells.size)
 (hi:(P.info? ty).map (·.size)=some cells.size)(h1:cells.all (·.oneCell')=true)(h:∀W',Blk W' b t cells->Aa [b] w W'->wpList P ops Q rest (a.put o.dst UD) W'):wpList P ops Q (o::rest) a w:=
 wpList_store_mid hgd ty x y ho b 0 cells hx hy (Blk.there hb 0 cells.size bB) hi h1 (h _ (hb.putAll hs) (Bb b 0 _ w))
theorem FN(w:World)(b o:Nat)(x0 x1 x2 x3 x4:Value):Aa [b] w (((((w.setCell (A_ b o) x0).setCell (A_ b (o+1)) x1).setCell (A_ b (o+2)) x2).setCell (A_ b (o+3)) x3).setCell (A_ b (o+4)) x4):=
 ((((Ae w b o x0).trans (Ae _ b (o+1) x1)).trans (Ae _ b (o+2) x2)).trans (Ae _ b (o+3) x3)).trans (Ae _ b (o+4) x4)
end
section
open Go.RowKit Go.Shelf
attribute [local go_sem] pN Lr Ls Lp Lq
attribute [local go_sem ↓] wp_at_zero wp_at_succ
structure Lw(w:World)(v:B6)(r:CJ):Prop where
 g:F1 w v.s.ga v.s.gc r.slots.gens
 u:GX w v.s.ua v.s.uc r.slots.used
 f:F1 w v.s.fa v.s.fc r.slots.free
 l:AR BE 8 w v.la v.lc v.lv
 t:AX w v.lv r.l
 small:∀t∈r.l,t.name.size≤maxLen∧t.rules.length≤9223372036854775807∧t.creds.length≤9223372036854775807∧∀c∈t.creds,c.key.size≤maxLen
theorem Lw.keeps{w w':World}{v:B6}{r:CJ}(h:Lw w v r)(hk:Aa [] w w'):Lw w' v r:={ h with g:=h.g.keeps hk,u:=h.u.keeps hk,f:=h.f.keeps hk,l:=h.l.keeps hk,t:=h.t.keeps hk }
structure iP(wd:World)(ob:Nat)(x0 x1 x2:Value)(seq:Int)(L:List Ten)(xa:Option Addr)(xc:Nat)(xs:List TV)(A:World):Prop where
 row:A.ownsRow wd.heap.size 112 8 (pF xa xs.length xc) xs.length (xs.flatMap BE)
 bx:Blk A ob 29 #[x0,x1,x2,pF xa xs.length xc,pE pK seq]
 t:EK A wd.heap.size xs L
 kw:Aa [ob] wd A
theorem iP.push{wd:World}{E:Nat}{T U X:Value}{seq:Int}{L:List Ten}{J:Option Addr}{M:Nat}{xs:List TV}{A:World}(ab:E<wd.heap.size)(h:iP wd E T U X seq L J M xs A)(hl:L.length<=1000){W:World}(hk:Aa [] A W){z:TV}{t:Ten}(hz:PH W wd z t):
  ∃g c W3,(BI #[27,27] 27 #[pF J xs.length M,pF (some (A_ W 0)) 1 1]).run prog (W.alloc (.cells (BE z).toArray 112)) = .ok (pF (some (A_ g 0)) (xs.length+1) c) W3/\
   Blk W3 E 29 #[T,U,X,pF J xs.length M,I_ seq]/\iP wd E T U X seq (L++[t]) (some (A_ g 0)) c (xs++[z]) (W3.setCell (A_ E 3) (pF (some (A_ g 0)) (xs.length+1) c)):=by
 have hrow:=Ah h.row hk (fun _ _=>by simp);have F:=h.bx.keeps hk bA;have hT:=h.t.keeps hk (fun y hy=>by simp at hy);have N:wd.heap.size<=W.heap.size:=A8 h.kw.size hk.size;obtain⟨g,c,W3,G,B,hk3,_⟩:=CO (enc:=BE) prog (t:=27) underlying27 Io bE CF FB hrow N z (by have:=h.t.len;omega) 27;have hgeS:=AZ hrow;have hne:E∉(pF J xs.length M).ownBlock.toList:=fun hm=>by have:=hgeS _ hm;omega
 have D:=F.keeps hk3 hne;have hN:U3 W wd (pF J xs.length M).ownBlock.toList:=fun y hy=>.inr (DP hrow bU);have hk4:Aa [E] W3 (W3.setCell (A_ E 3) (pF (some (A_ g 0)) (xs.length+1) c)):=Ae _ _ _ _;refine⟨g,c,W3,G,D,?_⟩;have h9:=Ah B hk4 (fun Y O hm'=>by have:=(B.lt Y O).1;simp only [Ac,Ab,or_false] at hm';omega);rw [Al,Bp] at h9;refine⟨by rw [Al,Bp];exact h9,by rw [Al,Bp];exact D.set_ 3 _,((hT.snoc hz).keeps hk3 hN).keeps hk4 (fun y hy=>.inl gB),?_⟩;exact((h.kw.trans (hk.mono bA)).trans' hk3 (fun y hy=>.inr (hgeS y hy))).trans hk4
def comA(c:FW):Array Value:=(K_ c)
end
section
open Go.RowKit Go.Shelf
attribute [local go_sem] pN
attribute [local go_sem ↓] wp_at_zero wp_at_succ
def QG(k:Int)(f n:Nat):MapEntry:={ key:=pE pK k,val:=.func (.func f) #[] #[],born:=n }
def IP:Array MapEntry:=#[QG 2 51 0,QG 3 169 1,QG 4 170 2,QG 6 171 3,QG 7 172 4,QG 5 173 5,QG 8 173 6,QG 10 173 7]
theorem GU(es:Array MapEntry)(c:Nat)(k:Int)(f:Nat)(hf:B0 (.int .i64) (I_ k) es.toList 0=some none)(w:World):
  (Instr.mapUpdate 260 (.map (some w)) (I_ k) (.func (.func f) #[] #[])).run prog (w.alloc (.map es c)) = .ok () (w.alloc (.map (es.push (QG k f c)) (c+1))):=
 Fh underlying260 underlying3 rfl hf
theorem Xp(w:World):Calls prog 132 #[] w fun r w'=>r = pJ (.map (some w))/\w.alloc (.map IP 8)=w':=by
 have hm:=fun W=>run_makeMap (P:=prog) 260 W;have h1:=GU #[] 0 2 51 rfl w;have h2:=GU (IP.extract 0 1) 1 3 169 rfl w;have h3:=GU (IP.extract 0 2) 2 4 170 rfl w;have h4:=GU (IP.extract 0 3) 3 6 171 rfl w;have B:=GU (IP.extract 0 4) 4 7 172 rfl w;have D:=GU (IP.extract 0 5) 5 5 173 rfl w;have E:=GU (IP.extract 0 6) 6 8 173 rfl w;have h8:=GU (IP.extract 0 7) 7 10 173 rfl w;simp only [IP,List.extract_toArray,List.extract_eq_take_drop,BC,Nat.sub_zero,List.take_succ_cons,List.take_zero,Cd,BH,AL,pL] at h1 h2 h3 h4 B D E h8;go_enter func132,ntmps132;go_wp2;go_ret;exact⟨rfl,rfl⟩
theorem Xo(cb:Nat)(u:TV)(t:Ten)(seq:Int)(c:FW)(now:Int)(hv:c.verb=2\/c.verb=3\/c.verb=4\/c.verb=5\/c.verb=6\/c.verb=7\/c.verb=8\/c.verb=10)(D:0<=now/\now<=1000000000000)(hat : -9223372036854775808<=c.at_/\c.at_<=9223372036854775807)(F:t.rules.length<=999/\t.creds.length<=1000):
  ∃f,(∀(W:World) (b:Nat),W.heap[b]? = some (.map IP 8)->(Ed 260 (.map (some b)) (I_ c.verb) false).run prog W = .ok (.func (.func f) #[] #[]) W)/\(∀(W:World) args,(callFunc f args).run prog W = .ok (.enter f args) W)/\
   ∀(w:World) (E:Nat->Addr),Et w->Fp w E->Blk w cb 143 (K7 u seq c now)->Cj w u t->FX cb u->Calls prog f #[pG (some (A_ cb 0))] w (Gt cb u seq c now (Bv t c now) w):=by
 have hl:∀(k:Int) (f i:Nat),B0 (.int .i64) (I_ k) IP.toList 0=some (some (i,.func (.func f) #[] #[]))->∀(W:World) (b:Nat),W.heap[b]? = some (.map IP 8)->(Ed 260 (.map (some b)) (I_ k) false).run prog W = .ok (.func (.func f) #[] #[]) W:=
  fun k f i hf W b hb=>(DD underlying260 underlying3 hb bS hf).2
 rcases hv with h | h | h | h | h | h | h | h
 ·refine⟨51,by rw [h];exact hl _ _ _ rfl,fun W args=>enters_of func51 bC rfl args W,fun w E _ _ hb B hf=>?_⟩
  rw [show Bv t c now=_ by unfold Bv;rw [if_pos h]];exact Mq cb u t seq c now w hb B hf
 ·refine⟨169,by rw [h];exact hl _ _ _ rfl,fun W args=>enters_of func169 bC rfl args W,fun w E _ _ hb B hf=>?_⟩
  rw [show Bv t c now=_ by unfold Bv;rw [if_neg bB,if_pos h]];exact Uj cb u t seq c now w hb B hf
 ·refine⟨170,by rw [h];exact hl _ _ _ rfl,fun W args=>enters_of func170 bC rfl args W,fun w E _ _ hb B hf=>?_⟩
  rw [show Bv t c now=_ by unfold Bv;rw [if_neg bB,if_neg bB,if_pos h]];exact VT cb u t seq c now D w hb B hf
 ·refine⟨173,by rw [h];exact hl _ _ _ rfl,fun W args=>enters_of func173 bC rfl args W,fun w E _ _ hb B hf=>?_⟩
  rw [show Bv t c now=(t,0) by unfold Bv;rw [if_neg bB,if_neg bB,if_neg bB,if_neg bB,if_neg bB]];exact Jo cb u t seq c now w hb B
 ·refine⟨171,by rw [h];exact hl _ _ _ rfl,fun W args=>enters_of func171 bC rfl args W,fun w E hg _ hb B hf=>?_⟩
  rw [show Bv t c now=_ by unfold Bv;rw [if_neg bB,if_neg bB,if_neg bB,if_pos h]];exact Ri cb u t seq c now w hg hb B F.2 hf
 ·refine⟨172,by rw [h];exact hl _ _ _ rfl,fun W args=>enters_of func172 bC rfl args W,fun w E _ hE hb B hf=>?_⟩
  rw [show Bv t c now=Vv t c by unfold Bv;rw [if_neg bB,if_neg bB,if_neg bB,if_neg bB,if_pos h];rfl];exact XW cb u t seq c now hat w E hE hb B F.1 hf
 ·refine⟨173,by rw [h];exact hl _ _ _ rfl,fun W args=>enters_of func173 bC rfl args W,fun w E _ _ hb B hf=>?_⟩
  rw [show Bv t c now=(t,0) by unfold Bv;rw [if_neg bB,if_neg bB,if_neg bB,if_neg bB,if_neg bB]];exact Jo cb u t seq c now w hb B
 ·refine⟨173,by rw [h];exact hl _ _ _ rfl,fun W args=>enters_of func173 bC rfl args W,fun w E _ _ hb B hf=>?_⟩
  rw [show Bv t c now=(t,0) by unfold Bv;rw [if_neg bB,if_neg bB,if_neg bB,if_neg bB,if_neg bB]];exact Jo cb u t seq c now w hb B
def jF(w0:World)(v0:B6)(r0:CJ)(w:World)(r:CJ)(x:Value):Prop:=∃(v:B6) (gn un fn ln:Nat),x = pH (R_ v gn un fn ln r.seq)/\r.slots.gens.length=gn/\r.slots.used.length=un/\r.slots.free.length=fn/\r.l.length=ln/\CH w v r/\OB w0 v0 r0 v r
def D8(v0:B6)(r0:CJ)(w:World)(R:CJ×Ten×Int):Ending->World->Prop:=fun e w'=>∃(v:B6) (gn un fn ln:Nat) (seq:Int) (u:TV),e = pJ (.tuple #[pH (R_ v gn un fn ln seq),pH (T_ u),FY R.2.2])/\
 (R.2.2=0->seq=R.1.seq/\R.1.slots.gens.length=gn/\R.1.slots.used.length=un/\R.1.slots.free.length=fn/\R.1.l.length=ln/\CH w' v R.1/\OB w v0 r0 v R.1/\u.slot=R.2.1.slot/\u.gen=R.2.1.gen/\u.version=R.2.1.version/\u.state=R.2.1.state)/\Aa [] w w'
def kT:TV:=⟨0,0,⟨#[]⟩,0,0,none,0,0,none,0,0,0⟩
theorem Il{v0:B6}{r0:CJ}{w w1 w':World}{R:CJ×Ten×Int}{v:B6}{gn un fn ln:Nat}{seq:Int}{er:Int}{S:List Nat}(h:R.2.2=er)(h0:er≠0)(hk:Aa [] w w1)(hk2:Aa S w1 w')(hS:∀y∈S,w.heap.size<=y):D8 v0 r0 w R (pJ (.tuple #[pH (R_ v gn un fn ln seq),.agg OC.k,.iface 200 (pH #[pE pK er])])) w':=
 ⟨v,gn,un,fn,ln,seq,kT,by rw [h,FY,if_neg h0];rfl,fun e=>absurd (h▸e) h0,hk.own hk2 hS⟩
theorem MN{F:B6}{E:CJ}{w w':World}{R:CJ×Ten×Int}{D:CJ}{B:Ten}{x:Value}{u:TV}(h:R=(D,B,0))(hx:jF w F E w' D x)(h1:u.slot=B.slot)(h2:u.gen=B.gen)(h3:u.version=B.version)(h4:u.state=B.state)(hk:Aa [] w w'):D8 F E w R (pJ (.tuple #[x,pH (T_ u),.nilIface])) w':=by
 subst h;obtain⟨v,gn,un,fn,ln,rfl,G,J,M,N,O,T⟩:=hx;exact⟨v,gn,un,fn,ln,_,u,rfl,fun _=>⟨rfl,G,J,M,N,O,T,h1,h2,h3,h4⟩,hk⟩
theorem EY.mono{B B':Nat}{u u':TV}(h:EY B u u')(hb:B'<=B):EY B' u u':=⟨h.1.imp id (fun e=>e.mono hb),h.2.imp id (fun e=>e.mono hb)⟩
theorem ZW{k:Int}(h:k=8\/k=10)(h8:(k==8)=false):(k==10)=true:=by
 have h1:¬k=8:=by simpa using h8
 simpa using h.resolve_left h1
theorem ZB{w:World}{B n c E:Nat}{e:TypeId}{a:Option Addr}{xs:List Value}(h:w.ownsRow B e E (pF a n c) n xs)(h0:0<n):∃g,a=some (A_ g 0)/\B<=g/\g<w.heap.size:=by
 obtain⟨m,rfl⟩:∃m,n=m+1:=⟨n - 1,by omega⟩;obtain⟨g,F,D,hb,hl⟩:=QC h;injection D with D _ _
 exact⟨g,D,hb,hl⟩
theorem ZT{A:World}{a:Option Addr}{c i g1 o1:Nat}{xs:List TV}{u1:TV}(h:AR BE 8 A a c xs)(hx:xs[i]? = some u1)(B:a=some (A_ g1 o1)):A.cell? (A_ g1 (o1+i*8))=some (I_ u1.slot)/\A.cell? (A_ g1 (o1+i*8+1))=some (I_ u1.gen)/\A.cell? (A_ g1 (o1+i*8+2))=some (Dz u1.name)/\A.cell? (A_ g1 (o1+i*8+3))=some (I_ u1.state)/\A.cell? (A_ g1 (o1+i*8+4))=some (I_ u1.version)/\A.cell? (A_ g1 (o1+i*8+5))=some (pF u1.ra u1.rl u1.rc)/\A.cell? (A_ g1 (o1+i*8+6))=some (pF u1.ca u1.cl u1.cc)/\A.cell? (A_ g1 (o1+i*8+7))=some (I_ u1.deadline):=by
 have hi:=(Ad.1 hx).1;obtain⟨g,o,u,e,_,hx2,hat⟩:=h.at_k hi;rw [hx] at hx2;injection hx2 with hx2
 subst hx2;rw [B] at e;injection e with e;injection e with e1 e2 _
 subst e1;subst e2;exact⟨hat 0 _ rfl,hat 1 _ rfl,hat 2 _ rfl,hat 3 _ rfl,hat 4 _ rfl,hat 5 _ rfl,hat 6 _ rfl,hat 7 _ rfl⟩
theorem Ud{l:List Ten}{B:ByteArray}{i:Nat}(h:C7 l B=some i):∃t,l[i]? = some t/\l.getD i IX=t:=by
 unfold C7 at h;have:=(Dx.1 h).1;exact⟨l[i],Aq this,by rw [AO,Aq this];rfl⟩
theorem AX.getV{w:World}{V:List TV}{L:List Ten}(h:AX w V L){k:Nat}{t:Ten}(B:L[k]? = some t):∃u,V[k]? = some u/\Cj w u t:=by
 obtain⟨hk,e⟩:=Ad.1 B;have hk2:k<V.length:=by rw [h.len];exact hk
 exact⟨V[k],Aq hk2,by rw [<- e];exact h.get k hk2 hk⟩
theorem Qt(v:B6)(r:CJ)(gn un fn ln:Nat)(hg:r.slots.gens.length=gn)(hu:r.slots.used.length=un)(hf:r.slots.free.length=fn)(hln:r.l.length=ln)(seq:Int)(hsq:r.seq=seq)(c:FW)(now:Int)
 (hv:c.verb=2\/c.verb=3\/c.verb=4\/c.verb=5\/c.verb=6\/c.verb=7\/c.verb=8\/c.verb=10)(b6:0<=now/\now<=1000000000000)(hat : -9223372036854775808<=c.at_/\c.at_<=9223372036854775807)
 (aw:r.l.length<=900/\(∀t∈r.l,t.rules.length<=900/\t.creds.length<=900/\0<=t.version/\t.version<=1000000000000))(w:World)(E:Nat->Addr)(hE:Fp w E)(bx:Et w)(h:CH w v r):
  Calls prog 95 #[pH (R_ v gn un fn ln seq),pH (K_ c),I_ now] w (D8 v r w (EL r c now)):=by
 obtain⟨wz,hwz⟩:=eX ((((w.alloc (.cells (R_ v gn un fn ln seq) 29)).alloc (.cells (K_ c) 61)).alloc (.cells LU.k 29)).alloc (.cells OC.k 112));have hz:Aa [] w wz:=by rw [<- hwz];exact((((Aa.refl [] w).alloc _).alloc _).alloc _).alloc _
 have HB0:Hi (Blk wz w 29 (R_ v gn un fn ln seq)):=lH nB;have HB1:Hi (Blk wz (w+1) 61 (K_ c)):=lH mZ;have HB2:Hi (Blk wz (w+1+1) 29 LU.k):=lH jU;have D:Hi (Blk wz (w+1+1+1) 112 OC.k):=lH aF;have HSZ:Hi (wz.heap.size=w.heap.size+4):=lH gA;have cq:=lH (Pv v r gn un fn ln lP (by have:=h.sl;omega) seq hsq c.name wz (h.l.keeps hz) (h.t.keeps hz));have Y:=HB0.o.cell;have b1:=HB1.o.cell;have HM:=lH h;have HG:=lH hg;have HU:=lH hu;have HF:=lH hf;have HLN:=lH hln;have HSQ:=lH hsq;have HZ:=lH hz;have ao:=lH aw;have cn:=lH hE;have co:=lH bx;obtain⟨R,hR⟩:=eX (EL r c now);rw [hR];have HR:=lH hR;clear hg hu hf hln hsq hz h aw hE bx hR;go_enter func95,ntmps95;go_wp2_with fail;clear hwz;refine cq.o.mono ?_;rintro e w1 ⟨rfl,hk1⟩;replace HB0:=lH (HB0.o.keeps hk1 bA);replace HB1:=lH (HB1.o.keeps hk1 bA);replace HB2:=lH (HB2.o.keeps hk1 bA);replace D:=lH (D.o.keeps hk1 bA);have hs1:=hk1.size;clear Y b1;have Y:=HB0.o.cell;have b1:=HB1.o.cell;have HK1:=lH (HZ.o.trans hk1);cases hp:C7 r.l c.name with
 | none=>
  have ac:Hi (R.2.2=154):=lH (by rw [<- HR.o];unfold EL;rw [hp]);clear hk1 hp;have y2:=HB2.o.frozen;have y3:=D.o.frozen;have z2:=HB2.o.cell;have z3:=D.o.cell;simp only [Option.isSome_none,Option.getD_none];go_wp2_with fail;exact bodyPost_ret (v:=.tuple #[pH (R_ v gn un fn ln seq),.agg OC.k,.iface 200 (pH #[pE pK 154])]) (by simp [results,results95,go_sem,z2,z3]) rfl (Il ac.o bE HK1.o (S:=[w.heap.size+1+1,w.heap.size+1+1+1]) bJ bF)
 | some i=>
  obtain⟨t,ht,bl⟩:=Ud hp;obtain⟨u,hu,cf⟩:=HM.o.t.getV ht;have av:i<ln:=by rw [<- HLN.o];exact(Ad.1 ht).1
  have X:v.lv.length=ln:=by rw [AX.len HM.o.t,HLN.o]
  obtain⟨g1,o1,u1,bi,hg1,hx1,hat1⟩:=(HM.o.l.keeps HK1.o).at_k (k:=i) (by rw [X];exact av);obtain rfl:u1=u:=by rw [hx1] at hu;injection hu
  have q:=fun j x=>hat1 j x;have bz:R=(if c.want≠0/\c.want≠t.version then(r,IX,155) else
   if(Bv t c now).2≠0 then(r,IX,(Bv t c now).2) else
    if c.verb=8\/c.verb=10 then(r,t,0)
    else if c.verb=5 then(⟨(CW r.slots ((Bv t c now).1.slot,(Bv t c now).1.gen)).1,r.l.eraseIdx i,r.seq⟩,{ (Bv t c now).1 with version:=(Bv t c now).1.version+1 },0)
    else(⟨r.slots,GI r.l { (Bv t c now).1 with version:=(Bv t c now).1.version+1 },r.seq⟩,{ (Bv t c now).1 with version:=(Bv t c now).1.version+1 },0)):=by
   rw [<- HR.o];unfold EL;rw [hp];simp only [bl]
  have ac:=lH bz;have O:=lH cf;have HI:=lH bl;have ap:=lH (ao.o.2 t (CD ht));have be:=lH hx1;have q0:=hat1 0 _ rfl;have q1:=hat1 1 _ rfl;have q2:=hat1 2 _ rfl;have q3:=hat1 3 _ rfl;have q4:=hat1 4 _ rfl;have q5:=hat1 5 _ rfl;have q6:=hat1 6 _ rfl;have q7:=hat1 7 _ rfl;rw [bi] at Y;rw [AT] at q0;have i1:(0:Int)<=(i:Int):=bB;have i2:(i:Int)<(ln:Int):=bB;have a9:=lH bi;clear hk1 hp ht bl hu cf av X hx1 hat1 q bz hg1 bi;simp only [Option.isSome_some,Option.getD_some];go_upto_region 4 with fail
  go_cut [11] (fun x wc=>∃cb,x = p_ cb 0/\Hi (Blk wc cb 143 (K7 u1 seq c now)/\Aa [] w1 wc/\w1.heap.size<=cb))
  case first=>
   go_region;go_wp2_with fail;go_meet;exact⟨_,rfl,lH ⟨by first | exact Blk.new _ _ _ | exact(Blk.new _ _ _).drewN _,by first | exact((Aa.refl [] w1).drewN _).alloc _ | exact((Aa.refl [] w1).alloc _).drewN _ | exact(Aa.refl [] w1).alloc _,by first | exact Aw _ | simp⟩⟩
  case rest=>
   obtain⟨cb,rfl,HC⟩:=hcut
   rename World=>wc
   clear q0 q1 q2 q3 q4 q5 q6 q7;replace HB0:=lH (HB0.o.keeps HC.o.2.1 bA);replace HB1:=lH (HB1.o.keeps HC.o.2.1 bA);replace HB2:=lH (HB2.o.keeps HC.o.2.1 bA);replace D:=lH (D.o.keeps HC.o.2.1 bA);replace HK1:=lH (HK1.o.trans HC.o.2.1);clear Y b1;have b1:=HB1.o.cell;have x0:=HC.o.1.cell;obtain⟨bw,b2⟩:=eX (decide (c.want≠0/\c.want≠u1.version));have a4:=lH b2;clear b2;go_upto_region 5 with fail
   go_cut [51] (fun x wd=>x = pI bw/\Hi (Aa [] wc wd))
   case first=>
    simp only [K7] at x0;by_cases h0:c.want=0
    ·have f1:(c.want != 0)=false:=by simpa using h0
     obtain rfl:bw=false:=by rw [<- a4.o];exact decide_eq_false (fun h=>h.1 h0)
     clear h0;go_region;go_wp2_with fail;go_meet;exact⟨rfl,lH (by first | exact(Aa.refl [] wc) | exact(Aa.refl [] wc).drewN _)⟩
    ·have f1:(c.want != 0)=true:=by simpa using h0
     have f2:(c.want != u1.version)=bw:=by rw [<- a4.o];by_cases h:c.want=u1.version<;>simp [h0,h,bne]
     clear h0;go_region;go_wp2_with fail;go_meet;exact⟨rfl,lH (by first | exact(Aa.refl [] wc) | exact(Aa.refl [] wc).drewN _)⟩
   case rest=>
    obtain⟨rfl,HD⟩:=hcut
    rename World=>wd
    replace HB0:=lH (HB0.o.keeps HD.o bA);replace HB1:=lH (HB1.o.keeps HD.o bA);replace HB2:=lH (HB2.o.keeps HD.o bA);replace D:=lH (D.o.keeps HD.o bA);replace HK1:=lH (HK1.o.trans HD.o);have bs:=lH (HC.o.1.keeps HD.o bA);clear b1 x0;have ax:(c.want≠0/\c.want≠t.version)=(c.want≠0/\c.want≠u1.version):=by rw [O.o.version]
    have au:=a4.o;cases bw with
    | true=>
     have bd:Hi (R.2.2=155):=lH (by rw [ac.o,if_pos (by rw [ax];exact of_decide_eq_true au)]);have Y:=HB0.o.cell;have y2:=HB2.o.frozen;have y3:=D.o.frozen;have z2:=HB2.o.cell;have z3:=D.o.cell;clear ax au;go_wp2_with fail;exact bodyPost_ret (v:=.tuple #[pH (R_ v gn un fn ln seq),.agg OC.k,.iface 200 (pH #[pE pK 155])]) (by simp [results,results95,go_sem,z2,z3]) rfl (Il bd.o bE HK1.o (S:=[w.heap.size+1+1,w.heap.size+1+1+1]) bJ bF)
    | false=>
     have bg:=ac.o;rw [if_neg (by rw [ax];exact of_decide_eq_false au)] at bg;replace ac:=lH bg;clear ax au bg;obtain⟨f,ae,hent,hcall⟩:=Xo cb u1 t seq c now hv b6 hat ⟨by have:=ap.o;omega,by have:=ap.o;omega⟩;have ba:=lH ae;have HENT:=lH hent;have HCALL:=lH hcall;clear ae hent hcall;have b1:=HB1.o.ce 0;have an:Hi (w.heap.size+4<=cb/\cb<wd.heap.size):=lH ⟨by have h1:=HC.o.2.2;have h2:=HSZ.o;have h3:=hs1;omega,bs.o.lt⟩;have HS:Hi (∀A,Aa [cb] wd A->Aa [cb] wd A/\A.cell? (A1 w 0)=some (I_ c.verb)):=lH fun A hk=>⟨hk,(HB1.o.keeps hk (by have:=an.o;simp only [Ac,Ab,or_false];omega)).cell 0⟩;clear b1;go_upto_region 7 with fail
     go_cut [12] (fun x we=>x=FY (Bv t c now).2/\Hi (((Bv t c now).2=0->∃u',Blk we cb 143 (K7 u' seq c now)/\Cj we u' (Bv t c now).1/\EY wd u1 u')/\Aa [cb] wd we))
     case first=>
      refine wp_region_held_drew (S:=(fun A:World=>Aa [cb] wd A/\A.cell? (A1 w 0)=some (I_ c.verb))) bC lG (fun hHeld=>?_);refine rQ 1 ?_;refine rQ 2 ?_;refine rQ 4 ?_;refine rC 0 fun K hK=>?_;go_simp
      (refine(Xp _).mono ?_;rintro e w2 ⟨rfl,bm⟩;have hl:=ba.o w2 wd (by rw [<- bm];exact heap_alloc_new wd.drew _);have hk2:Aa [] wd w2:=(by rw [<- bm];exact((Aa.refl [] wd).drew).alloc _);clear bm)
      refine rO hK lG fun hHeld=>?_;clear hK K;refine rC 3 fun K hK=>?_;go_simp;refine rO hK lG fun hHeld=>?_;clear hK K;refine rC 5 fun K hK=>?_;go_simp
      (rw [HENT.o,Oper.upon_enter];refine(HCALL.o _ E (co.o.keeps (HK1.o.trans hk2) bA) (cn.o.keep (HK1.o.trans hk2)) (bs.o.keeps hk2 bA) (O.o.keeps (HK1.o.trans hk2)) (FX.of O.o (by have:=an.o;omega))).mono ?_;rintro e w9 ⟨rfl,cy,hk9⟩)
      refine rO hK lG fun hHeld=>?_;clear hK K;refine rQ 6 ?_;refine wpAnyH_done bC ?_ _
      (go_wp2_with fail;go_meet;exact⟨rfl,lH ⟨fun h0=>(by obtain⟨u',a1,a2,a3⟩:=cy h0;exact⟨u',a1,a2,a3.mono hk2.size⟩),(hk2.mono bA).trans hk9⟩⟩)
     case rest=>
      obtain⟨rfl,HV⟩:=hcut
      rename World=>we
      have cv:=an.o;have hn:∀y,y<w.heap.size+4->y∉[cb]:=fun y hy=>by simp only [Ac,Ab,or_false];omega
      replace HB0:=lH (HB0.o.keeps HV.o.2 (hn _ bB));replace HB1:=lH (HB1.o.keeps HV.o.2 (hn _ bB));replace HB2:=lH (HB2.o.keeps HV.o.2 (hn _ bB));replace D:=lH (D.o.keeps HV.o.2 (hn _ bB));replace HK1:=lH (HK1.o.own HV.o.2 bF);obtain⟨⟨N,er⟩,ag⟩:∃r,Bv t c now=r:=⟨_,rfl⟩;have bv:=lH ag;have HR3:Hi (R=if er≠0 then(r,IX,er) else
        if c.verb=8\/c.verb=10 then(r,t,0)
        else if c.verb=5 then(⟨(CW r.slots (N.slot,N.gen)).1,r.l.eraseIdx i,r.seq⟩,{ N with version:=N.version+1 },0)
        else(⟨r.slots,GI r.l { N with version:=N.version+1 },r.seq⟩,{ N with version:=N.version+1 },0)):=lH (by have h:=ac.o;rw [ag] at h;exact h)
      have bu:Hi (er=0->∃u',Blk we cb 143 (K7 u' seq c now)/\Cj we u' N/\EY wd u1 u'):=lH (by have h:=HV.o.1;rw [ag] at h;exact h);rw [ag];dsimp only;have Y:=HB0.o.cell;have y2:=HB2.o.frozen;have y3:=D.o.frozen;have z2:=HB2.o.cell;have z3:=D.o.cell;clear ag hn;by_cases he:er=0
      ·subst he
       simp only [FY,if_true];obtain⟨B,hb2,cd,b8⟩:=bu.o rfl;have HB:=lH hb2;have aq:=lH cd;have bt:=lH b8;have bh:=HR3.o;rw [if_neg bA] at bh;have HR4:=lH bh;have b1:=HB1.o.cell;clear hb2 cd b8 bh bu HR3;by_cases h8:c.verb=8\/c.verb=10
       ·have cr:Hi (R=(r,t,0)):=lH (by rw [HR4.o,if_pos h8])
        obtain⟨q8,cz⟩:=eX ((c.verb==8));have HSA:Hi (∀A,Aa [w.heap.size+1+1,w.heap.size+1+1+1] we A->Aa [w.heap.size+1+1,w.heap.size+1+1+1] we A/\(∀k,A.cell? (A_ w k)=((R_ v gn un fn ln seq):Array Value)[k]?)/\A.cell? (A_ g1 (o1+i*8))=some (I_ u1.slot)/\A.cell? (A_ g1 (o1+i*8+1))=some (I_ u1.gen)/\A.cell? (A_ g1 (o1+i*8+2))=some (Dz u1.name)/\A.cell? (A_ g1 (o1+i*8+3))=some (I_ u1.state)/\A.cell? (A_ g1 (o1+i*8+4))=some (I_ u1.version)/\A.cell? (A_ g1 (o1+i*8+5))=some (pF u1.ra u1.rl u1.rc)/\A.cell? (A_ g1 (o1+i*8+6))=some (pF u1.ca u1.cl u1.cc)/\A.cell? (A_ g1 (o1+i*8+7))=some (I_ u1.deadline)):=lH fun A hk=>⟨hk,(HB0.o.keeps hk bI).cell,ZT (HM.o.l.keeps (HK1.o.own hk bF)) be.o a9.o⟩;rw [a9.o] at Y HSA;have b7:q8=false->(c.verb==10)=true:=fun e=>ZW h8 (cz.trans e);cases q8;all_goals
         try have ct:=b7 rfl
         go_wp2_with fail;refine wp_region_held_drew (S:=(fun A:World=>Aa [w.heap.size+1+1,w.heap.size+1+1+1] we A/\(∀k,A.cell? (A_ w k)=(#[pF v.s.ga gn v.s.gc,pF v.s.ua un v.s.uc,pF v.s.fa fn v.s.fc,pF (some (A_ g1 o1)) ln v.lc,I_ seq]:Array Value)[k]?)/\A.cell? (A_ g1 (o1+i*8))=some (I_ u1.slot)/\A.cell? (A_ g1 (o1+i*8+1))=some (I_ u1.gen)/\A.cell? (A_ g1 (o1+i*8+2))=some (Dz u1.name)/\A.cell? (A_ g1 (o1+i*8+3))=some (I_ u1.state)/\A.cell? (A_ g1 (o1+i*8+4))=some (I_ u1.version)/\A.cell? (A_ g1 (o1+i*8+5))=some (pF u1.ra u1.rl u1.rc)/\A.cell? (A_ g1 (o1+i*8+6))=some (pF u1.ca u1.cl u1.cc)/\A.cell? (A_ g1 (o1+i*8+7))=some (I_ u1.deadline))) bC mM (fun hHeld=>?_);refine rQ 0 ?_;refine rQ 1 ?_;refine rQ 2 ?_;refine rQ 3 ?_;refine rQ 4 ?_;refine rQ 5 ?_;refine rC 6 fun K hK=>?_;go_simp;refine rO hK mM fun hHeld=>?_;clear hK K;refine rC 7 fun K hK=>?_;go_simp;refine rO hK mM fun hHeld=>?_;clear hK K;refine rQ 8 ?_;refine wpAnyH_done bC ?_ _
         (go_wp2_with fail;exact bodyPost_ret (v:=.tuple #[pH #[pF v.s.ga gn v.s.gc,pF v.s.ua un v.s.uc,pF v.s.fa fn v.s.fc,pF (some (A_ g1 o1)) ln v.lc,I_ seq],pH (T_ u1),.nilIface]) (by simp [results,results95,go_sem,z2,z3]) rfl (MN cr.o ⟨v,gn,un,fn,ln,by rw [a9.o,HSQ.o],HG.o,HU.o,HF.o,HLN.o,HM.o.keeps (HK1.o.own hHeld.1 bF),fun _ _ h=>h⟩ O.o.slot O.o.gen O.o.version O.o.state (HK1.o.own hHeld.1 bF)))
       ·have f8:(c.verb==8)=false:=by simpa using fun h=>h8 (.inl h)
        have ct:(c.verb==10)=false:=by simpa using fun h=>h8 (.inr h)
        have ad:=HR4.o;rw [if_neg h8] at ad;have af:B.version=N.version/\N.version=t.version:=⟨aq.o.version,by have:=O7 t c now;rw [bv.o] at this;exact this⟩;have hw1:IntKind.i64.wrap (B.version+1)=B.version+1:=IntWalk.i64_in _ (by have:=ap.o;omega);have c9:=lH af;have x0:=HB.o.cell;have y0:=HB.o.frozen;simp only [K7] at x0;obtain⟨wf,hwf⟩:=eX (we.setCell (A_ cb 4) (I_ (B.version+1)));have hkf:Aa [cb] we wf:=by rw [<- hwf];exact Ae _ _ _ _
        have HBF:Hi (Blk wf cb 143 (K7 { B with version:=B.version+1 } seq c now)):=lH (by rw [<- hwf];exact HB.o.set_ 4 _);have aa:Hi (Cj wf { B with version:=B.version+1 } { N with version:=N.version+1 }):=lH (by
         have h:=O.o.src aq.o bt.o hkf mW;exact { h with version:=by dsimp only;rw [af.1] })
        have HSF:Hi (EY wd u1 { B with version:=B.version+1 }):=lH bt.o;have hn:∀y,y<w.heap.size+4->y∉[cb]:=fun y hy=>by simp only [Ac,Ab,or_false];omega
        replace HB0:=lH (HB0.o.keeps hkf (hn _ bB));replace HB1:=lH (HB1.o.keeps hkf (hn _ bB));replace HB2:=lH (HB2.o.keeps hkf (hn _ bB));replace D:=lH (D.o.keeps hkf (hn _ bB));replace HK1:=lH (HK1.o.own hkf bF);clear h8 af hkf hn Y y2 y3 z2 z3;by_cases h5:c.verb=5
        ·have f5:(c.verb==5)=true:=by simpa using h5
         have bb:Hi (R=(⟨(CW r.slots (N.slot,N.gen)).1,r.l.eraseIdx i,r.seq⟩,{ N with version:=N.version+1 },0)):=lH (by rw [ad,if_pos h5]);clear ad h5;have HSG:Hi (∀A,Aa [w.heap.size] wf A->Aa [w.heap.size] wf A/\(∀k,A.cell? (A_ cb k)=((G_ B seq c now):Array Value)[k]?)):=lH fun A hk=>⟨hk,(HBF.o.keeps hk bI).cell⟩;go_upto_region 16 with fail
         clear hwf x0 y0;have Y:=HB0.o.cell;go_cut [91] (fun _ wg=>∃(F:DF) (n1 n2 n3:Nat),Hi (Blk wg w 29 #[pF F.ga n1 F.gc,pF F.ua n2 F.uc,pF F.fa n3 F.fc,pF v.la ln v.lc,I_ seq]/\Dy wg F (CW r.slots (B.slot,B.gen)).1/\Ja wf F/\(CW r.slots (B.slot,B.gen)).1.gens.length=n1/\(CW r.slots (B.slot,B.gen)).1.used.length=n2/\(CW r.slots (B.slot,B.gen)).1.free.length=n3/\Aa [w.heap.size] wf wg))
         case first=>
          refine wp_region_held_drew (S:=(fun A:World=>Aa [w.heap.size] wf A/\(∀k,A.cell? (A_ cb k)=((G_ B seq c now):Array Value)[k]?))) bC lC (fun hHeld=>?_);refine rQ 0 ?_;refine rQ 2 ?_;refine rQ 3 ?_;refine rQ 4 ?_;refine rQ 5 ?_;refine rQ 6 ?_;refine rQ 7 ?_;refine rC 1 fun K hK=>?_;go_simp;refine rO hK lC fun hHeld=>?_;clear hK K;refine rC 8 fun K hK=>?_;go_simp
          (refine(Xz v.s r.slots gn un fn HG.o HU.o HF.o B.slot B.gen _ (HM.o.s.keeps (HK1.o.own hHeld.1 bF))).mono ?_;rintro e w6 ⟨rv,rfl,⟨F,n1,n2,n3,rfl,l1,l2,l3,aw,b9⟩,hk6⟩;have hkw6:Aa [w.heap.size] wf w6:=hHeld.1.trans (hk6.mono bA);have J:Aa [] wf w6:=((Aa.refl [] wf).drew).trans hk6;clear Y;have Y:=(HB0.o.keeps J bA).cell;have y0:=(HB0.o.keeps J bA).frozen)
          refine rO hK lC fun hHeld=>?_;clear hK K;refine rQ 9 ?_;refine rQ 10 ?_;refine rQ 11 ?_;refine rQ 12 ?_;refine rC 13 fun K hK=>?_;go_simp;refine rO hK lC fun hHeld=>?_;clear hK K;refine wpAnyH_done bC ?_ _
          (go_wp2_with fail;go_meet;exact⟨F,n1,n2,n3,lH ⟨((((HB0.o.keeps J bA).set_ 0 _).set_ 1 _).set_ 2 _),aw.ge b9 (G5 _ _ _ _ _) (fun y hy=>by have:=HB0.o.lt;simp only [Ac,Ab,or_false] at hy;subst hy;exact this),b9,l1,l2,l3,hkw6.trans (G5 _ _ _ _ _)⟩⟩)
         case rest=>
          obtain⟨F,n1,n2,n3,G⟩:=hcut
          rename World=>wg
          clear Y;have X:v.lv.length=ln:=by rw [AX.len HM.o.t,HLN.o]
          have av:i<ln:=by rw [<- X];exact(Ad.1 be.o).1
          have dp:ln<=900:=by have:=ao.o.1;have:=HLN.o;omega
          have HKG:Hi (Aa [] w wg):=lH (HK1.o.own G.o.2.2.2.2.2.2 bF);have dm:IntKind.i64.wrap ((i:Int)+1)=(i:Int)+1:=IntWalk.i64_in _ bB;have ck:Hi (Blk wg cb 143 (G_ B seq c now)):=lH (HBF.o.keeps G.o.2.2.2.2.2.2 bI);replace HB2:=lH (HB2.o.keeps G.o.2.2.2.2.2.2 bI);replace D:=lH (D.o.keeps G.o.2.2.2.2.2.2 bI);have Y:=G.o.1.cell;go_wp2_with fail;refine(Tm v.la v.lc v.lv ln X bB wg (HM.o.l.keeps HKG.o)).mono ?_;rintro e w7 ⟨a7,c7,rfl,c1,bj,hk7⟩;obtain⟨g7,rfl,cx,b4⟩:=ZB bj bB;go_wp2_with fail;refine(Tt v.lv ln i g7 c7 wg X av bB w7 bj).mono ?_;rintro e w8 ⟨rfl,hs8,hk8⟩;have M:Aa [] wg w8:=hk7.own hk8 bF;have cu:=G.o.1.lt;have ar:=G.o.1.keeps M bA;clear Y;have Y:=ar.cell;have y0:=ar.frozen;obtain⟨wh,hwh⟩:=eX (w8.setCell (A_ w 3) (pF (some (A_ g7 0)) (ln - 1) c7));have hkh:Aa [w.heap.size] w8 wh:=by rw [<- hwh];exact Ae _ _ _ _
          have HBH:Hi (Blk wh w 29 #[pF F.ga n1 F.gc,pF F.ua n2 F.uc,pF F.fa n3 F.fc,pF (some (A_ g7 0)) (ln - 1) c7,I_ seq]):=lH (by rw [<- hwh];exact ar.set_ 3 _);have cm:Hi (Blk wh cb 143 (G_ B seq c now)):=lH ((ck.o.keeps M bA).keeps hkh bI);replace HB2:=lH ((HB2.o.keeps M bA).keeps hkh bI);replace D:=lH ((D.o.keeps M bA).keeps hkh bI);have a5:Hi (∀WF,Aa [w.heap.size+1+1,w.heap.size+1+1+1] wh WF->D8 v r w R (pJ (.tuple #[pH #[pF F.ga n1 F.gc,pF F.ua n2 F.uc,pF F.fa n3 F.fc,pF (some (A_ g7 0)) (ln - 1) c7,I_ seq],pH #[pE pK B.slot,I_ B.gen,Dz B.name,I_ B.state,I_ (B.version+1),pF B.ra B.rl B.rc,pF B.ca B.cl B.cc,I_ B.deadline],.nilIface])) WF):=lH fun WF h4=>by
           have hlt:=HBF.o.lt;have dl:=G.o.2.2.2.2.2.2.size;have ab:Aa [w.heap.size,w.heap.size+1+1,w.heap.size+1+1+1] w8 WF:=(hkh.mono bA).trans (h4.mono bA);have hS:∀y∈[w.heap.size,w.heap.size+1+1,w.heap.size+1+1+1],w.heap.size<=y/\y<wd.heap.size/\y<wf.heap.size/\y<wg.heap.size:=fun y hy=>by simp only [Ac,Ab,or_false] at hy;omega
           have b5:Aa [] w WF:=(HKG.o.trans M).own ab (fun y hy=>(hS y hy).1);have h1:=aq.o.slot;have h2:=aq.o.gen;have hR:=bb.o;rw [<- h1,<- h2] at hR;have dj:=HK1.o.size;have b3:∀ {α:Type} (xs:List α),xs.length=ln->(xs.eraseIdx i).length=ln - 1:=fun xs hx=>by rw [List.length_eraseIdx,if_pos bB,hx]
           refine MN (u:={ B with version:=B.version+1 }) hR ⟨⟨F,some (A_ g7 0),c7,v.lv.eraseIdx i⟩,n1,n2,n3,ln - 1,by rw [HSQ.o],G.o.2.2.2.1,G.o.2.2.2.2.1,G.o.2.2.2.2.2.1,b3 _ HLN.o,⟨(G.o.2.1.keeps M).ge G.o.2.2.1 ab (fun y hy=>(hS y hy).2.2.1),hs8.keepsS ab (fun g o e hm=>by injection e with e;injection e with e _ _;subst e;have:=hS _ hm;omega),(AX.keeps HM.o.t b5).eraseIdx i,by rw [b3 _ HLN.o];omega,fun t' c2=>HM.o.small t' (List.mem_of_mem_eraseIdx c2)⟩,fun Q hQ h=>⟨Dj.no G.o.2.2.1.1 bN,Dj.no G.o.2.2.1.2.1 bN,Dj.no G.o.2.2.1.2.2 bN,fun _ g o e hq=>by injection e with e;injection e with e _ _;subst e;have:=hQ _ hq;omega,fun u' c3=>h.t u' (List.mem_of_mem_eraseIdx c3)⟩⟩ rfl rfl aa.o.version aa.o.state b5
          clear hs8 hk8 c1 bj hk7 M ar hkh cu cx b4;go_wp2_with fail;clear hwh Y y0;have y2:=HB2.o.frozen;have y3:=D.o.frozen;have z2:=HB2.o.cell;have z3:=D.o.cell;have HSH:Hi (∀A,Aa [w.heap.size+1+1,w.heap.size+1+1+1] wh A->Aa [w.heap.size+1+1,w.heap.size+1+1+1] wh A/\(∀k,A.cell? (A_ w k)=(#[pF F.ga n1 F.gc,pF F.ua n2 F.uc,pF F.fa n3 F.fc,pF (some (A_ g7 0)) (ln - 1) c7,I_ seq]:Array Value)[k]?)/\(∀k,A.cell? (A_ cb k)=((G_ B seq c now):Array Value)[k]?)):=lH fun A hk=>⟨hk,(HBH.o.keeps hk bI).cell,(cm.o.keeps hk bI).cell⟩;refine wp_region_held_drew (S:=(fun A:World=>Aa [w.heap.size+1+1,w.heap.size+1+1+1] wh A/\(∀k,A.cell? (A_ w k)=(#[pF F.ga n1 F.gc,pF F.ua n2 F.uc,pF F.fa n3 F.fc,pF (some (A_ g7 0)) (ln - 1) c7,I_ seq]:Array Value)[k]?)/\(∀k,A.cell? (A_ cb k)=((G_ B seq c now):Array Value)[k]?))) bC mN (fun hHeld=>?_);refine rQ 0 ?_;refine rQ 1 ?_;refine rQ 2 ?_;refine rQ 3 ?_;refine rQ 4 ?_;refine rQ 5 ?_;refine rC 6 fun K hK=>?_;go_simp;refine rO hK mN fun hHeld=>?_;clear hK K;refine rC 7 fun K hK=>?_;go_simp;refine rO hK mN fun hHeld=>?_;clear hK K;refine rQ 8 ?_;refine wpAnyH_done bC ?_ _
          (go_wp2_with fail;exact bodyPost_ret (v:=.tuple #[pH #[pF F.ga n1 F.gc,pF F.ua n2 F.uc,pF F.fa n3 F.fc,pF (some (A_ g7 0)) (ln - 1) c7,I_ seq],pH #[pE pK B.slot,I_ B.gen,Dz B.name,I_ B.state,I_ (B.version+1),pF B.ra B.rl B.rc,pF B.ca B.cl B.cc,I_ B.deadline],.nilIface]) (by simp [results,results95,go_sem,z2,z3]) rfl (a5.o _ hHeld.1))
        ·have f5:(c.verb==5)=false:=by simpa using h5
         have bb:Hi (R=(⟨r.slots,GI r.l { N with version:=N.version+1 },r.seq⟩,{ N with version:=N.version+1 },0)):=lH (by rw [ad,if_neg h5]);clear ad h5;go_wp2_with fail;clear hwf x0 y0;have X:v.lv.length=ln:=by rw [AX.len HM.o.t,HLN.o]
         have HSP:Hi (∀A,Aa [w.heap.size+1+1,w.heap.size+1+1+1] wf A->Aa [w.heap.size+1+1,w.heap.size+1+1+1] wf A/\(∀k,A.cell? (A_ w k)=((R_ v gn un fn ln seq):Array Value)[k]?)/\(∀k,A.cell? (A_ cb k)=((G_ B seq c now):Array Value)[k]?)):=lH fun A hk=>⟨hk,(HB0.o.keeps hk bI).cell,(HBF.o.keeps hk bI).cell⟩;have a5:Hi (∀(w6 WF:World) (a6:Option Addr) (c6:Nat),Aa [] wf w6->AR BE 8 w6 a6 c6 (DC v.lv { B with version:=B.version+1 })->Dj wf a6->Aa [w.heap.size+1+1,w.heap.size+1+1+1] w6 WF->
           D8 v r w R (pJ (.tuple #[pH #[pF v.s.ga gn v.s.gc,pF v.s.ua un v.s.uc,pF v.s.fa fn v.s.fc,pF a6 (DC v.lv { B with version:=B.version+1 }).length c6,I_ seq],pH #[pE pK B.slot,I_ B.gen,Dz B.name,I_ B.state,I_ (B.version+1),pF B.ra B.rl B.rc,pF B.ca B.cl B.cc,I_ B.deadline],.nilIface])) WF):=lH fun w6 WF a6 c6 h1 h2 h3 h4=>by
          have hlt:=HBF.o.lt;have hS:∀y∈[w.heap.size+1+1,w.heap.size+1+1+1],w.heap.size<=y/\y<wd.heap.size/\y<wf.heap.size:=fun y hy=>by simp only [Ac,Ab,or_false] at hy;omega
          have ab:Aa [w.heap.size+1+1,w.heap.size+1+1+1] wf WF:=(h1.mono bA).trans h4;have hsz:=SL t c now;rw [bv.o] at hsz;dsimp only at hsz;have dq:=ap.o;obtain⟨q1,q3⟩:=HM.o.put (T:={ N with version:=N.version+1 }) (U:={ B with version:=B.version+1 }) (HK1.o.own ab (fun y hy=>(hS y hy).1)) (h2.keepsS h4 (h3.out (fun y hy=>(hS y hy).2.2))) (O.o.src aa.o HSF.o ab (fun y hy=>⟨(hS y hy).1,(hS y hy).2.1⟩)) ao.o.1 ⟨by dsimp only;omega,by dsimp only;omega⟩ r.seq;have di:=HK1.o.size;have dk:=an.o;exact MN bb.o ⟨_,gn,un,fn,_,by rw [HSQ.o],HG.o,HU.o,HF.o,q3,q1,fun Q hQ h=>h.put (h3.no bN) (HSF.o.no (h.t _ (CD be.o)) bN)⟩ aa.o.slot aa.o.gen aa.o.version aa.o.state (HK1.o.own ab (fun y hy=>(hS y hy).1))
         refine wp_region_held_drew (S:=(fun A:World=>Aa [w.heap.size+1+1,w.heap.size+1+1+1] wf A/\(∀k,A.cell? (A_ w k)=((R_ v gn un fn ln seq):Array Value)[k]?)/\(∀k,A.cell? (A_ cb k)=((G_ B seq c now):Array Value)[k]?))) bC lD (fun hHeld=>?_);refine rQ 0 ?_;refine rQ 1 ?_;refine rQ 2 ?_;refine rQ 3 ?_;refine rQ 4 ?_;refine rQ 5 ?_;refine rQ 7 ?_;refine rQ 8 ?_;refine rQ 9 ?_;refine rQ 10 ?_;refine rQ 11 ?_;refine rC 6 fun K hK=>?_;go_simp
         (refine(Q6 v gn un fn ln X (by have:=ao.o.1;have:=HLN.o;omega) seq { B with version:=B.version+1 } _ (HM.o.l.keeps (HK1.o.own hHeld.1 bF))).mono ?_;rintro e w6 ⟨a6,c6,rfl,c0,cw,hk6⟩;have hkw6:Aa [w.heap.size+1+1,w.heap.size+1+1+1] wf w6:=hHeld.1.trans (hk6.mono bA);have J:Aa [] wf w6:=((Aa.refl [] wf).drew).trans hk6;have z2:=(HB2.o.keeps J bA).cell;have z3:=(D.o.keeps J bA).cell;have y2:=(HB2.o.keeps J bA).frozen;have y3:=(D.o.keeps J bA).frozen)
         refine rO hK lD fun hHeld=>?_;clear hK K;refine rC 12 fun K hK=>?_;go_simp;refine rO hK lD fun hHeld=>?_;clear hK K;refine rC 13 fun K hK=>?_;go_simp;refine rO hK lD fun hHeld=>?_;clear hK K;refine rQ 14 ?_;refine wpAnyH_done bC ?_ _
         (go_wp2_with fail;exact bodyPost_ret (v:=.tuple #[pH #[pF v.s.ga gn v.s.gc,pF v.s.ua un v.s.uc,pF v.s.fa fn v.s.fc,pF a6 (DC v.lv { B with version:=B.version+1 }).length c6,I_ seq],pH #[pE pK B.slot,I_ B.gen,Dz B.name,I_ B.state,I_ (B.version+1),pF B.ra B.rl B.rc,pF B.ca B.cl B.cc,I_ B.deadline],.nilIface]) (by simp [results,results95,go_sem,z2,z3]) rfl (a5.o w6 _ a6 c6 J c0 cw bJ))
      ·simp only [FY,if_neg he]
       have bd:Hi (R.2.2=er):=lH (by rw [HR3.o,if_pos he]);clear cv;go_wp2_with fail;exact bodyPost_ret (v:=.tuple #[pH (R_ v gn un fn ln seq),.agg OC.k,.iface 200 (pH #[pE pK er])]) (by simp [results,results95,go_sem,z2,z3]) rfl (Il bd.o he HK1.o (S:=[w.heap.size+1+1,w.heap.size+1+1+1]) bJ bF)
end
section
open Go.RowKit Go.Shelf
attribute [local go_sem] pN Lr Ls Lp Lq
attribute [local go_sem ↓] wp_at_zero wp_at_succ
theorem RH(v:B6)(r:CJ)(gn un fn ln:Nat)(hg:r.slots.gens.length=gn)(hu:r.slots.used.length=un)(hf:r.slots.free.length=fn)(hln:r.l.length=ln)(seq:Int)(hsq:r.seq=seq)(c:FW)(now:Int)
 (a3:r.l.length<=900)(w:World)(a1:Et w)(h:CH w v r):
  Calls prog 94 #[pH (R_ v gn un fn ln seq),pH (K_ c),I_ now] w (D8 v r w (Gm r c now)):=by
 obtain⟨wz,hwz⟩:=eX ((((w.alloc (.cells (R_ v gn un fn ln seq) 29)).alloc (.cells (K_ c) 61)).alloc (.cells LU.k 29)).alloc (.cells OC.k 112));have hz:Aa [] w wz:=by rw [<- hwz];exact((((Aa.refl [] w).alloc _).alloc _).alloc _).alloc _
 have HB0:Hi (Blk wz w 29 (R_ v gn un fn ln seq)):=lH nB;have HB1:Hi (Blk wz (w+1) 61 (K_ c)):=lH mZ;have HB2:Hi (Blk wz (w+1+1) 29 LU.k):=lH jU;have al:Hi (Blk wz (w+1+1+1) 112 OC.k):=lH aF;have HSZ:Hi (wz.heap.size=w.heap.size+4):=lH gA;have br:=HB0.o.rl;have bs:=HB1.o.rl;have aj:=HB2.o.rl;have ak:=al.o.rl;have bd:=lH (fun W (hk:Aa [] wz W)=>Pv v r gn un fn ln lP (by have:=h.sl;omega) seq hsq c.name W (h.l.keeps (hz.trans hk)) (h.t.keeps (hz.trans hk)));have HM:=lH h;have HG:=lH hg;have HU:=lH hu;have HF:=lH hf;have HLN:=lH hln;have HSQ:=lH hsq;have HZ:=lH hz;have a0:=lH a3;have ay:=lH a1;obtain⟨R,hR⟩:=eX (Gm r c now);rw [hR];have HR:=lH hR;clear hg hu hf hln hsq hz h a3 a1 hR;obtain⟨bn,hbn⟩:=eX (IK c.name);have HBN:=lH hbn;go_enter func94,ntmps94;go_wp2_with fail;clear hwz;refine(Nl c.name bn HBN.o wz).mono ?_;rintro e w1 ⟨rfl,hk1⟩;have r1:=hk1.rl;have HK1:=lH (HZ.o.trans hk1);have hR:=HR.o;unfold Gm at hR;rw [hbn] at hR;clear hbn;cases bn with
 | false=>
  have X:Hi (R.2.2=152):=lH (by rw [<- hR];rfl);clear hR;go_wp2_with fail;exact bodyPost_ret (v:=.tuple #[pH (R_ v gn un fn ln seq),.agg OC.k,.iface 200 (pH #[pE pK 152])]) (by simp [results,results94,go_sem,aj,ak,r1]) rfl (Il X.o bE HK1.o (S:=[w.heap.size+1+1,w.heap.size+1+1+1]) bJ bF)
 | true=>
  rw [if_pos rfl] at hR;go_wp2_with fail;refine(bd.o w1 hk1).mono ?_;rintro e w2 ⟨rfl,hk2⟩;have M:=hk1.trans hk2;clear r1;have r2:=M.rl;have HK2:=lH (HK1.o.trans hk2);cases hp:C7 r.l c.name with
  | some i=>
   rw [hp] at hR;have X:Hi (R.2.2=153):=lH (by rw [<- hR]);clear hR hp;simp only [Option.isSome_some,Option.getD_some];go_wp2_with fail;exact bodyPost_ret (v:=.tuple #[pH (R_ v gn un fn ln seq),.agg OC.k,.iface 200 (pH #[pE pK 153])]) (by simp [results,results94,go_sem,aj,ak,r2]) rfl (Il X.o bE HK2.o (S:=[w.heap.size+1+1,w.heap.size+1+1+1]) bJ bF)
  | none=>
   rw [hp] at hR;dsimp only at hR;have HR3:=lH hR;clear hR hp;simp only [Option.isSome_none,Option.getD_none];go_wp2_with fail;refine(X6 v.s r.slots gn un fn HG.o HU.o HF.o w2 (HM.o.s.keeps HK2.o)).mono ?_;rintro e w3 ⟨x3,rfl,⟨B,n1,n2,n3,rfl,l1,l2,l3,N,af⟩,hk3⟩;have ae:=M.trans hk3;clear r2;have r3:=ae.rl;have bb:=lH (HK2.o.trans hk3);obtain⟨⟨s',D,er⟩,ao⟩:∃t,Bn r.slots=t:=⟨_,rfl⟩;rw [ao] at l1 l2 l3 N ⊢;have hR:=HR3.o;rw [ao] at hR;dsimp only at hR l1 l2 l3 N ⊢;obtain⟨wa,ap⟩:=eX ((w3.alloc (.cells (S_ B n1 n2 n3) 26)).alloc (.cells #[pE pK D.1,I_ D.2] 65));have am:Aa [] w3 wa:=by rw [<- ap];exact((Aa.refl [] w3).alloc _).alloc _
   have E:=ae.trans am;clear r3;have ra:=E.rl;have bt:=Blk.rl (show Blk wa w3 26 (S_ B n1 n2 n3) by rw [<- ap];exact(Blk.new w3 _ _).alloc _);have bu:=Blk.rl (show Blk wa (w3+1) 65 #[pE pK D.1,I_ D.2] by rw [<- ap];exact Ar _ _ _ _ bA);have ab:=lH (bb.o.trans am);by_cases he:er=0
   ·subst he
    rw [if_neg bA] at hR;have HR4:=lH hR;have HS:=lH (N.keeps am);have HSG:=lH af;clear hR N af HR3 ao;go_wp2_with fail;clear ap;refine(ME none 0 [] 0 rfl bB c.key now 0 c.n wa (ay.o.keeps ab.o bA) (BS (Be w _ ay.o) ab.o.size) AR.none_).mono ?_;rintro e w5 ⟨x5,rfl,⟨G,O,rfl,J,Y⟩,hk5⟩;obtain⟨⟨l,id,er⟩,an⟩:∃t,Bk [] c.key now 0 c.n=t:=⟨_,rfl⟩;have hR:=HR4.o;rw [an] at hR J ⊢;dsimp only at hR J ⊢;by_cases he:er=0
    ·subst he
     rw [if_neg bA] at hR;have be:=lH hR;have F:=E.trans hk5;have HK5:=lH (ab.o.trans hk5);obtain⟨wb,aq⟩:=eX ((((w5.setCell (A_ w 0) (pF B.ga n1 B.gc)).setCell (A_ w 1) (pF B.ua n2 B.uc)).setCell (A_ w 2) (pF B.fa n3 B.fc)).alloc (.cells #[pE pK D.1,I_ D.2,Dz c.name,I_ 1,I_ 1,pF none 0 0,pF G l.length O,I_ 0] 112));have ad:Aa [w.heap.size] w5 wb:=by rw [<- aq];exact(G5 _ _ _ _ _).alloc _
     have hb0:Blk wb w 29 #[pF B.ga n1 B.gc,pF B.ua n2 B.uc,pF B.fa n3 B.fc,pF v.la ln v.lc,I_ seq]:=by rw [<- aq];exact((((HB0.o.keeps F bA).set_ 0 _).set_ 1 _).set_ 2 _).alloc _
     have hlt:=(HB0.o.keeps F bA).lt;have hb1:Blk wb w5 112 #[pE pK D.1,I_ D.2,Dz c.name,I_ 1,I_ 1,pF none 0 0,pF G l.length O,I_ 0]:=by rw [<- aq];simpa [World.setCell] using Blk.new (((w5.setCell (A_ w 0) (pF B.ga n1 B.gc)).setCell (A_ w 1) (pF B.ua n2 B.uc)).setCell (A_ w 2) (pF B.fa n3 B.fc)) 112 #[pE pK D.1,I_ D.2,Dz c.name,I_ 1,I_ 1,pF none 0 0,pF G l.length O,I_ 0]
     have HB2:=lH ((HB2.o.keeps F bA).keeps ad bI);have al:=lH ((al.o.keeps F bA).keeps ad bI);have bh:=hk3.size;have bf:Hi (Dy wb B s'):=lH ((HS.o.keeps hk5).ge HSG.o ad (by intro y hy;have h1:=M.size;have h2:=HSZ.o;simp only [Ac,Ab,or_false] at hy;omega));have a9:Hi (Hg wb G O l):=lH (J.keepsS ad (fun g o e hm=>by have h1:=Y g o e;have h2:=E.size;have h3:=HSZ.o;simp only [Ac,Ab,or_false] at hm;omega));have au:=lH (HK5.o.own ad bF);have aa:Hi (Ja (w.heap.size+4) B/\Dj (w.heap.size+4) G):=lH ⟨HSG.o.mono (by have:=M.size;have:=HSZ.o;omega),fun g o e=>A8 (by have:=E.size;have:=HSZ.o;omega) (Y g o e)⟩;have ar:Hi (w.heap.size+4<=w5.heap.size/\w5.heap.size<wb.heap.size):=lH ⟨by have h2:=F.size;have h3:=HSZ.o;omega,hb1.lt⟩;have bj:v.lv.length=ln:=by rw [AX.len HM.o.t,HLN.o]
     have a7:Hi (l.length<=1):=lH (by have:=Mo [] c.key now 0 c.n;rw [an] at this;exact this);have r5:=(E.trans hk5).rl;have a4:=hk5.rl;clear hR an ra HR4 hk5 HS HSG J Y bh F am ae M hk3 hk2 hk1 E;go_wp2_with fail;clear aq r5 a4 br bs aj ak bt bu;have e1:¬w5.heap.size=w.heap.size+1+1:=by have:=ar.o;omega
     have e2:¬w5.heap.size=w.heap.size+1+1+1:=by have:=ar.o;omega
     have q0:=hb0.rl;have q1:=hb1.rl;have az:Hi (∀W,Aa [] w W->Calls prog 52 #[pH #[pF B.ga n1 B.gc,pF B.ua n2 B.uc,pF B.fa n3 B.fc,pF v.la ln v.lc,I_ seq],pH #[pE pK D.1,I_ D.2,Dz c.name,I_ 1,I_ 1,pF none 0 0,pF G l.length O,I_ 0]] W fun e w'=>∃a k,e = pJ (pH #[pF B.ga n1 B.gc,pF B.ua n2 B.uc,pF B.fa n3 B.fc,pF a (DC v.lv ⟨D.1,D.2,c.name,1,1,none,0,0,G,l.length,O,0⟩).length k,I_ seq])/\AR BE 8 w' a k (DC v.lv ⟨D.1,D.2,c.name,1,1,none,0,0,G,l.length,O,0⟩)/\Dj W a/\Aa [] W w'):=lH fun W hk=>
      Q6 { v with s:=B } n1 n2 n3 ln bj (by have:=a0.o;have:=HLN.o;omega) seq ⟨D.1,D.2,c.name,1,1,none,0,0,G,l.length,O,0⟩ W (HM.o.l.keeps hk)
     have ba:Hi (∀(w6 WF:World) (a6:Option Addr) (c6:Nat),Aa [] wb w6->AR BE 8 w6 a6 c6 (DC v.lv ⟨D.1,D.2,c.name,1,1,none,0,0,G,l.length,O,0⟩)->Dj wb a6->Aa [w.heap.size+1+1,w.heap.size+1+1+1] w6 WF->
       D8 v r w R (pJ (.tuple #[pH #[pF B.ga n1 B.gc,pF B.ua n2 B.uc,pF B.fa n3 B.fc,pF a6 (DC v.lv ⟨D.1,D.2,c.name,1,1,none,0,0,G,l.length,O,0⟩).length c6,I_ seq],pH #[pE pK D.1,I_ D.2,Dz c.name,I_ 1,I_ 1,pF none 0 0,pF G l.length O,I_ 0],.nilIface])) WF):=lH fun w6 WF a6 c6 h1 h2 h3 h4=>by
      have b3:=ar.o;have hS:∀y∈[w.heap.size+1+1,w.heap.size+1+1+1],w.heap.size<=y/\y<w.heap.size+4/\y<wb.heap.size:=fun y hy=>by simp only [Ac,Ab,or_false] at hy;omega
      have aw:Aa [w.heap.size+1+1,w.heap.size+1+1+1] wb WF:=(h1.mono bA).trans h4;have a2:Aa [] w WF:=au.o.own aw (fun y hy=>(hS y hy).1);have hM:CH WF { v with s:=B } ⟨s',r.l,r.seq⟩:={ HM.o.keeps a2 with s:=bf.o.ge aa.o.1 aw (fun y hy=>(hS y hy).2.1) };have hT:Cj WF ⟨D.1,D.2,c.name,1,1,none,0,0,G,l.length,O,0⟩ ⟨D.1,D.2,c.name,1,1,[],l,0⟩:=⟨rfl,rfl,rfl,rfl,rfl,rfl,rfl,rfl,AR.none_,a9.o.keepsS aw (aa.o.2.out (fun y hy=>(hS y hy).2.1))⟩;obtain⟨q1,q3⟩:=hM.put (T:=⟨D.1,D.2,c.name,1,1,[],l,0⟩) (U:=⟨D.1,D.2,c.name,1,1,none,0,0,G,l.length,O,0⟩) (Aa.refl [] WF) (h2.keepsS h4 (h3.out (fun y hy=>(hS y hy).2.2))) hT a0.o ⟨by simp,by have:=a7.o;dsimp only;omega⟩ r.seq;have b2:=au.o.size;exact MN (u:=⟨D.1,D.2,c.name,1,1,none,0,0,G,l.length,O,0⟩) be.o.symm ⟨_,n1,n2,n3,_,by rw [HSQ.o],l1,l2,l3,q3,q1,fun Q hQ h=>CL.put (v:={ v with s:=B }) (r:=⟨s',r.l,r.seq⟩) ⟨Dj.no aa.o.1.1 bN,Dj.no aa.o.1.2.1 bN,Dj.no aa.o.1.2.2 bN,h.l,h.t⟩ (h3.no bN) ⟨(Dj.none_ (w.heap.size+4)).no bN,aa.o.2.no bN⟩⟩ rfl rfl rfl rfl a2
     refine wp_region_held_drew (S:=(Aa [w.heap.size+1+1,w.heap.size+1+1+1] wb)) bC fA (fun hHeld=>?_);refine rK 0 ?_;refine rK 1 ?_;refine rK 3 ?_;refine rC 2 fun K hK=>?_;go_simp
     (refine(az.o _ (au.o.own hHeld bF)).mono ?_;rintro e w6 ⟨a6,c6,rfl,bi,bg,hk6⟩;have hkw6:Aa [w.heap.size+1+1,w.heap.size+1+1+1] wb w6:=hHeld.trans (hk6.mono bA);have ac:Aa [] wb w6:=((Aa.refl [] wb).drew).trans hk6;have z2:=(HB2.o.keeps ac bA).rl;have z3:=(al.o.keeps ac bA).rl)
     (try clear rH);refine rP hK fA fun rH hHeld=>?_;clear hK K
     refine rC 4 fun K hK=>?_;go_simp
     (try clear rH);refine rP hK fA fun rH hHeld=>?_;clear hK K
     refine rC 5 fun K hK=>?_;go_simp
     (try clear rH);refine rP hK fA fun rH hHeld=>?_;clear hK K
     refine rK 6 ?_;refine wpAnyH_done bC ?_ _
     (go_wp2_with fail;exact bodyPost_ret (v:=.tuple #[pH #[pF B.ga n1 B.gc,pF B.ua n2 B.uc,pF B.fa n3 B.fc,pF a6 (DC v.lv ⟨D.1,D.2,c.name,1,1,none,0,0,G,l.length,O,0⟩).length c6,I_ seq],pH #[pE pK D.1,I_ D.2,Dz c.name,I_ 1,I_ 1,pF none 0 0,pF G l.length O,I_ 0],.nilIface]) (by simp [results,results94,go_sem,z2,z3]) rfl (ba.o w6 _ a6 c6 ac bi bg bJ))
    ·have X:Hi (R.2.2=er):=lH (by rw [<- hR,if_pos he])
     have f1:(er != 0)=true:=by simpa using he
     have r5:=(E.trans hk5).rl;have a4:=hk5.rl;clear hR J Y HR4 an ra;go_wp2_with fail;exact bodyPost_ret (v:=.tuple #[pH (R_ v gn un fn ln seq),.agg OC.k,.iface 200 (pH #[pE pK er])]) (by simp [results,results94,go_sem,aj,ak,r5]) rfl (Il X.o he (ab.o.trans hk5) (S:=[w.heap.size+1+1,w.heap.size+1+1+1]) bJ bF)
   ·have X:Hi (R.2.2=er):=lH (by rw [<- hR,if_pos he])
    have f1:(er != 0)=true:=by simpa using he
    clear hR N af HR3 ao;go_wp2_with fail;exact bodyPost_ret (v:=.tuple #[pH (R_ v gn un fn ln seq),.agg OC.k,.iface 200 (pH #[pE pK er])]) (by simp [results,results94,go_sem,aj,ak,ra]) rfl (Il X.o he ab.o (S:=[w.heap.size+1+1,w.heap.size+1+1+1]) bJ bF)
theorem OB.down{w w':World}{v v':B6}{r r':CJ}(h:OB w' v r v' r')(hs:w.heap.size<=w'.heap.size):OB w v r v' r':=fun Q hQ hn=>h Q (fun y hy=>BS (hQ y hy) hs) hn
theorem D8.up{v:B6}{r:CJ}{w wz w9 D:World}{R:CJ×Ten×Int}{e:Ending}{S:List Nat}(hm:CH w v r)(hz:Aa [] w wz)(h:D8 v r wz R e w9)(hk:Aa S w9 D)(hS:∀y∈S,w.heap.size<=y/\y<wz.heap.size):D8 v r w R e D:=by
 obtain⟨v9,T,U,X,Y,sq,u9,he,B,hk9⟩:=h;refine⟨v9,T,U,X,Y,sq,u9,he,fun h0=>?_,(hz.trans hk9).own hk (fun y hy=>(hS y hy).1)⟩;obtain⟨F,G,J,M,N,O,E,a8⟩:=B h0;exact⟨F,G,J,M,N,O.stay (E (·∈S) (fun y hy=>(hS y hy).2) (hm.later (fun y hy=>(hS y hy).1))) hk (fun y hy=>hy),E.down hz.size,a8⟩
theorem cM(v:B6)(r:CJ)(gn un fn ln:Nat)(hg:r.slots.gens.length=gn)(hu:r.slots.used.length=un)(hf:r.slots.free.length=fn)(hln:r.l.length=ln)(seq:Int)(hsq:r.seq=seq)(c:FW)(now:Int)
 (hv:1<=c.verb/\c.verb<=10)(ae:0<=now/\now<=1000000000000)(hat : -9223372036854775808<=c.at_/\c.at_<=9223372036854775807)
 (F:r.l.length<=900/\(∀t∈r.l,t.rules.length<=900/\t.creds.length<=900/\0<=t.version/\t.version<=1000000000000))(w:World)(E:Nat->Addr)(hE:Fp w E)(B:Et w)(h:CH w v r):
  Calls prog 49 #[pH (R_ v gn un fn ln seq),pH (K_ c),I_ now] w (D8 v r w (Xv r c now)):=by
 obtain⟨wz,hwz⟩:=eX ((((w.alloc (.cells (R_ v gn un fn ln seq) 29)).alloc (.cells (K_ c) 61)).alloc (.cells LU.k 29)).alloc (.cells OC.k 112));have hz:Aa [] w wz:=by rw [<- hwz];exact((((Aa.refl [] w).alloc _).alloc _).alloc _).alloc _
 have hsz:wz.heap.size=w.heap.size+4:=by rw [<- hwz];simp
 have ai:=Blk.rl (show Blk wz w 29 (R_ v gn un fn ln seq) by rw [<- hwz];exact(((Blk.new w _ _).alloc _).alloc _).alloc _);have aj:=Blk.rl (show Blk wz (w+1) 61 (K_ c) by rw [<- hwz];exact((Ar _ _ _ _ bA).alloc _).alloc _);have U:=Blk.rl (show Blk wz (w+1+1) 29 LU.k by rw [<- hwz];exact(Ar _ _ _ _ bA).alloc _);have X:=Blk.rl (show Blk wz (w+1+1+1) 112 OC.k by rw [<- hwz];exact Ar _ _ _ _ bA);have ac:Hi (∀(R:CJ×Ten×Int) (e:Ending) (w9 J:World),D8 v r wz R e w9->Aa [w.heap.size+1+1,w.heap.size+1+1+1] w9 J->D8 v r w R e J):=lH fun R e w9 J h1 h2=>h1.up h hz h2 mW;obtain⟨R,hR⟩:=eX (Xv r c now);rw [hR];unfold Xv at hR;by_cases h1:c.verb=1
 ·rw [if_pos h1] at hR
  have f1:(c.verb==1)=true:=bR;have HC:=lH (RH v r gn un fn ln hg hu hf hln seq hsq c now F.1 wz (B.keeps hz bA) (h.keeps hz));rw [hR] at HC;clear hg hu hf hln hsq hz hsz h F hE B hR h1;go_enter func49,ntmps49;go_wp2_with fail;clear hwz;refine HC.o.mono ?_;rintro e w9 ⟨v9,M,N,O,T,Y,u9,rfl,D,hk9⟩;have G:Hi (D8 v r wz R (pJ (.tuple #[pH (R_ v9 M N O T Y),pH (T_ u9),FY R.2.2])) w9):=lH ⟨v9,M,N,O,T,Y,u9,rfl,D,hk9⟩;have r9:=hk9.rl;clear D hk9;go_wp2_with fail;exact bodyPost_ret (v:=.tuple #[pH (R_ v9 M N O T Y),pH (T_ u9),FY R.2.2]) (by simp [results,results49,go_sem,U,X,r9]) rfl (ac.o _ _ w9 _ G.o bJ)
 ·rw [if_neg h1] at hR
  have f1:(c.verb==1)=false:=bR;by_cases h9:c.verb=9
  ·rw [if_pos h9] at hR
   have f9:(c.verb==9)=true:=by simpa using h9
   have af:Hi (∀J,Aa [w.heap.size+1+1,w.heap.size+1+1+1] wz J->D8 v r w R (pJ (.tuple #[pH (R_ v gn un fn ln seq),.agg OC.k,.nilIface])) J):=lH fun J hk=>by
    have ad:=hz.own hk bF;exact MN (u:=kT) hR.symm ⟨v,gn,un,fn,ln,by rw [hsq],hg,hu,hf,hln,h.keeps ad,fun _ _ h=>h⟩ rfl rfl rfl rfl ad
   clear hg hu hf hln hsq hz hsz h F hE B hR h1 h9;go_enter func49,ntmps49;go_wp2_with fail;clear hwz;exact bodyPost_ret (v:=.tuple #[pH (R_ v gn un fn ln seq),.agg OC.k,.nilIface]) (by simp [results,results49,go_sem,U,X]) rfl (af.o _ bJ)
  ·rw [if_neg h9] at hR
   have f9:(c.verb==9)=false:=by simpa using h9
   have HC:=lH (Qt v r gn un fn ln hg hu hf hln seq hsq c now bB ae hat F wz E (hE.keep hz) (B.keeps hz bA) (h.keeps hz));rw [hR] at HC;clear hg hu hf hln hsq hz hsz h F hE B hR h1 h9;go_enter func49,ntmps49;go_wp2_with fail;clear hwz;refine HC.o.mono ?_;rintro e w9 ⟨v9,M,N,O,T,Y,u9,rfl,D,hk9⟩;have G:Hi (D8 v r wz R (pJ (.tuple #[pH (R_ v9 M N O T Y),pH (T_ u9),FY R.2.2])) w9):=lH ⟨v9,M,N,O,T,Y,u9,rfl,D,hk9⟩;have r9:=hk9.rl;clear D hk9;go_wp2_with fail;exact bodyPost_ret (v:=.tuple #[pH (R_ v9 M N O T Y),pH (T_ u9),FY R.2.2]) (by simp [results,results49,go_sem,U,X,r9]) rfl (ac.o _ _ w9 _ G.o bJ)
end
end Go.Proofs.YtncebikgoleolaaGreatDoor
