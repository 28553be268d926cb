/- Steps. -/
import Derived.Test.YtncebikgoleolaaGreatDoorKag
import Derived.Deep.QuietTactic
import Derived.BigQuiet
set_option maxRecDepth 100000
set_option maxHeartbeats 8000000
set_option linter.all false
namespace Go.Proofs.YtncebikgoleolaaGreatDoor
open Tryz
open Ending renaming returned→pJ
open Instr renaming slice→AV
open IntKind renaming i64→pK
open _root_.List renaming eq_nil_of_length_eq_zero→Ds,getElem?_eq_getElem→Aq,length_append→Al,length_singleton→Bp,map_append→pO,mem_map→BO,take_of_length_le→Ak
open _root_.Nat renaming le_refl→Aw,lt_or_ge→pP,min_eq_left→DE,zero_le→Ba
open Value renaming agg→pH,int→pE,ownBlock→EZ,slice→pF,string→Dz
open World renaming cell?_of_block→BL,ownsRow_nil→BQ
section
open Go.RowKit Go.Shelf
attribute [local go_sem ↓] wp_at_zero wp_at_succ
def MT(x:ByteArray):ByteArray:=x.extract 0 (min x.size 65)
def EN(xs:List ByteArray):List ByteArray:=(xs.take 66).map MT
theorem OO(x:ByteArray):(MT x).size<=65:=by unfold MT;simp;omega
theorem Ou(xs:List ByteArray):∀x∈EN xs,x.size<=65:=fun x hx=>by
 obtain⟨y,_,rfl⟩:=BO.1 hx;exact OO y
theorem PU(xs:List ByteArray):(EN xs).length<=66:=by simp [EN];omega
theorem Xc(A:World)(b:Nat)(y:ByteArray)(hy:y.size<=maxLen)(h:Blk A b 9 #[Dz y]):Cy A (some (A_ b 0)) 1 [y]:=
 ⟨Aw _,fun _=>⟨b,0,#[Dz y],(0,0),rfl,h,fun i hi=>by
  obtain rfl:i=0:=by simpa using hi
  exact h.cell 0⟩,by simp,by simpa using hy,fun e=>by cases e⟩
theorem Wo{w wr w9:World}{v:Value}{n:Nat}{xs:List Value}{cs:Array Value}(B:Below w w wr)(hR:wr.ownsRow w 9 1 v n xs)(hg:((wr.alloc (.cells cs 9)).drew).grownBy w9 v.ownBlock):Below w w w9:=
 ((B.alloc B.size _).drew).grown hg (by have:=B.size;simp;omega) (fun j ej=>by
  rcases hR.2 with⟨rfl,_⟩ | ⟨g',cap,cur,rfl,hb,_,_⟩
  ·simp [EZ] at ej
  ·obtain rfl:g'=j:=by simpa [EZ] using ej
   exact hb)
theorem TH{w wr w9:World}{v:Value}{n g o:Nat}{xs:List Value}{cs:Array Value}(hR:wr.ownsRow w 9 1 v n xs)(hg:((wr.alloc (.cells cs 9)).drew).grownBy w9 v.ownBlock)(hl:g<wr.heap.size)(B:g<w.heap.size):w9.cell? (A_ g o)=wr.cell? (A_ g o):=by
 have h1:=hg.block g bG (fun e=>by
  rcases hR.2 with⟨rfl,_⟩ | ⟨g',cap,cur,rfl,hb,_,_⟩
  ·simp [EZ] at e
  ·obtain rfl:g=g':=by simpa [EZ] using e
   omega)
 exact BL (a:=A_ g o) (h1.trans (Below.heap_alloc wr _ g hl))
theorem TI(w:World)(g off c:Nat)(xs:List ByteArray)(hx:ST w g off xs)(hg:g<w.heap.size)(ad:xs.length<=9223372036854775807)(hs:∀x∈xs,x.size<=maxLen):
  Calls prog 56 #[pF (some (A_ g off)) xs.length c] w fun e w'=>∃v,e = pJ v/\w'.ownsRow w 9 1 v (EN xs).length ((EN xs).map Dz)/\Below w w w':=by
 have HX:=lH hx;have HS:=lH hs;clear hx hs;go_enter func56,ntmps56;go_wp2;go_loopw [3,4] (fun v i wr=>∃k:Nat,k<=min xs.length 66/\i = I_ k/\Hi (wr.ownsRow w 9 1 v ((xs.take k).map MT).length (((xs.take k).map MT).map Dz))/\Hi (Below w w wr)) (fun _ i _=>66 - (intOf i).toNat)
 case atStart=>exact⟨0,Ba _,rfl,lH (BQ _ _ _ _),lH (Below.refl _ _)⟩
 case round=>
  obtain⟨k,hk,rfl,HR,HB⟩:=hrel;by_cases hlt:k<xs.length/\k<66
  ·obtain⟨h1,h2⟩:=hlt
   obtain⟨x,hx⟩:=eX (xs[k]);have hc:=HX.o k h1;rw [hx] at hc;have hsz:x.size<=maxLen:=HS.o x kG;unfold maxLen at hsz;rw [<- HB.o.cell (by exact hg)] at hc;have i1:(0:Int)<=(k:Int):=bB;have i2:(k:Int)<(xs.length:Int):=bB;have i3:(k:Int)<66:=bB;have X:Hi (w.heap.size<=wr.heap.size):=lH HB.o.size;have HGW:Hi (g<wr.heap.size):=lH (by have:=HB.o.size;omega);have Y:Hi (xs[k]? = some x):=lH (by rw [Aq h1,hx]);have J:∀(j:Nat) (W:World),j<=x.size->(AV 9 (Dz x) none (some (I_ (j:Int))) none).run prog W = .ok (Dz (x.extract 0 j)) W:=fun j W hj=>by
    have:=run_slice_string_h (P:=prog) (w:=W) (t:=9) (s:=x) underlying9 .i64 (j:Int) bB bB;simpa using this
   obtain⟨y,hy⟩:=eX (MT x);have aa:Hi (y.size<=maxLen):=lH (by have:=OO x;rw [hy] at this;unfold maxLen;omega);have HTK:Hi ((xs.take (k+1)).map MT=(xs.take k).map MT++[y]):=lH (by rw [DS Y.o,pO,List.map_singleton,hy]);have HCA:=lH hc;clear hx;rcases pP 65 x.size with hz | hz
   have U:∀W:World,(AV 9 (Dz x) none (some (I_ (65:Int))) none).run prog W = .ok (Dz y) W:=fun W=>by
    have:=J 65 W bB;rw [<- hy];unfold MT;rw [Nat.min_eq_right bB];exact this
   have ac:(65:Int)<(x.size:Int):=bB;rotate_left;have U:∀W:World,(AV 9 (Dz x) none (some (I_ (x.size:Int))) none).run prog W = .ok (Dz y) W:=fun W=>by
    have:=J x.size W bB;rw [<- hy];unfold MT;rw [DE bB];exact this
   have ac:¬(65:Int)<(x.size:Int):=bB;rotate_right
   all_goals
    clear J hy;go_wp2_with fail;try have af:(if(65:Int)<(x.size:Int) then(65:Int) else(x.size:Int))=(x.size:Int):=by rw [if_neg bB]
    refine wp_region_held_drew (S:=(fun w':World=>w'.cell? (A_ g (off+k))=some (Dz x))) bC nU (fun hHeld=>?_);refine rQ 0 ?_;refine rQ 1 ?_;refine rQ 2 ?_;refine rQ 3 ?_;refine rQ 4 ?_;refine rQ 5 ?_;refine rQ 6 ?_;refine rQ 7 ?_;refine rQ 8 ?_;refine rQ 9 ?_;refine rQ 10 ?_;refine rQ 11 ?_;refine rC 12 fun K hK=>?_;go_simp;refine rO hK nU fun hHeld=>?_;clear hK K;refine rC 13 fun K hK=>?_
    (obtain⟨v9,w9,B,E,F⟩:=QP (W:=(wr.alloc (.cells #[Dz y] 9)).drew) (xs:=[y]) ((HR.o.alloc _).drew) (by have:=X.o;simp;omega) (Xc _ wr y aa.o (Blk.drew (Blk.new wr 9 #[Dz y]))) bG 41;simp only [Bp] at B;refine Cf _ _ 41 bD bD bD bD B ?_;have D:=Wo HB.o HR.o F;have HC9:=lH (show w9.cell? (A_ g (off+k))=some (Dz x) from(TH HR.o F HGW.o (by have:=hg;omega)).trans HCA.o);have N:=lH E;have M:=lH D;clear E F B D)
    refine rO hK nU fun hHeld=>?_;clear hK K;refine rQ 14 ?_;refine wpAnyH_done bC ?_ _
    (go_wp2;go_roundw;(case rel=>exact⟨k+1,by omega,by go_num,lH (by rw [HTK.o];exact N.o),M⟩);(case measure=>(simp [intOf];omega)))
  ·have hk2:k=min xs.length 66:=bB;have T:EN xs=(xs.take k).map MT:=by
    unfold EN;rw [hk2,Nat.min_comm,<- List.take_eq_take_min]
   have G:=HR.o;rw [<- T] at G;have O:=lH G;clear G T hk2;rcases pP k xs.length with h1 | h1
   ·have h2:(66:Int)<=(k:Int):=bB;clear hlt;go_wp2;go_ret;exact⟨_,rfl,O.o,HB.o⟩
   ·have h2:(xs.length:Int)<=(k:Int):=bB;clear hlt;go_wp2;go_ret;exact⟨_,rfl,O.o,HB.o⟩
theorem Wp(w:World)(c:Nat)(a:Option Addr):
  Calls prog 56 #[pF a 0 c] w fun e w'=>e = pJ (pF none 0 0)/\w=w':=by
 go_enter func56,ntmps56;go_wp2
 go_loop [3,4] (fun v i=>v = pF none 0 0/\i = I_ 0) (fun _ _=>0)
 case atStart=>exact⟨rfl,rfl⟩
 case round=>
  obtain⟨rfl,rfl⟩:=hrel;go_wp2;go_ret;exact⟨rfl,rfl⟩
theorem Pd(a:Option Addr)(c:Nat)(xs:List ByteArray)(n:Nat)(hn:xs.length=n)(w:World)(h:J5 w a xs):
  Calls prog 56 #[pF a n c] w fun e w'=>∃a' m c',e = pJ (.slice a' m c')/\(EN xs).length=m/\Cy w' a' c' (EN xs)/\Aa [] w w':=by
 subst hn;rcases Nat.eq_zero_or_pos xs.length with h0 | h0
 ·obtain rfl:=Ds h0
  refine(Wp w c a).mono ?_;rintro e w' ⟨rfl,rfl⟩;exact⟨none,0,0,rfl,rfl,P4 w,Aa.refl _ _⟩
 ·obtain⟨g,off,rfl,hg,hat⟩:=h.at_ h0
  refine(TI w g off c xs hat hg h.small h.size).mono ?_;rintro e w' ⟨v,rfl,hrow,hb⟩;obtain⟨a',c',rfl,hs⟩:=J0 hrow (by have:=PU xs;omega) (fun x hx=>by have:=Ou xs x hx;unfold maxLen;omega);exact⟨a',_,c',rfl,rfl,hs,Aa.of_below hb []⟩
def OP(s:Sn):Sn:={ s with items:=EN s.items }
def Rk(l:List Sn):List Sn:=(l.take 5).map OP
theorem NC{w:World}{b:Nat}{cs:Array Value}(h:Blk w b 32 cs):ID w [b]:=fun k hk cs' fz hh=>by
 simp at hk;subst hk;have h':w.heap[k]? = some (.cells cs 32 (0,0)):=h;rw [h'] at hh;injection hh with hh;injection hh with _ h3 _
 exact absurd h3 bE
structure aK(w A:World)(a:Option Addr)(n c:Nat)(next:Int)(v:Value)(V:List SV)(L:List Sn):Prop where
 b0:Blk A w.heap.size 32 #[pF a n c,pE pK next]
 b1:Blk A (w.heap.size+1) 32 #[pF none 0 0,pE pK 0]
 b2:Blk A (w.heap.size+1+1) 32 #[v,pE pK next]
 row:Da A (w.heap.size+3) v V
 mt:Mt A V L
 below:Below w.heap.size w A
theorem UG{w wr w5 w9:World}{a:Option Addr}{n c:Nat}{next:Int}{v D:Value}{E:List SV}{F:List Sn}{x:SV}{s:Sn}{cs:Array Value}{M:TypeId}
 (h:aK w wr a n c next v E F)(hk:Aa [] wr w5)(hs:Da w9 (w.heap.size+3) D (E++[x]))(hst:D7 (w.heap.size+3) (w5.alloc (.cells cs M)) w9)(hx:Oh w5 x s):
  Blk w9 (w+1+1) 32 #[v,I_ next]/\aK w (w9.setCell (A2 w 0) D) a n c next D (E++[x]) (F++[s]):=by
 have B:=hk.alloc (.cells cs M);have N:Blk w9 w 32 #[pF a n c,I_ next]:=(hst.low.block _ bB).trans (h.b0.keeps B bA);have O:Blk w9 (w+1) 32 #[pF none 0 0,I_ 0]:=(hst.low.block _ bB).trans (h.b1.keeps B bA);have J:Blk w9 (w+1+1) 32 #[v,I_ next]:=(hst.low.block _ bB).trans (h.b2.keeps B bA);have G:Aa [w.heap.size+1+1] w9 (w9.setCell (A2 w 0) D):=(Aa.refl _ w9).setCell (p:=A2 w 0) (.inl bA) D;have hm:Mt w9 (E++[x]) (F++[s]):=((h.mt.keeps B).strK hst).app ⟨(hx.keeps ((Aa.refl [] w5).alloc _)).strK hst,trivial⟩;refine⟨J,N.far (p:=A2 w 0) bH _,O.far (p:=A2 w 0) bH _,J.set_ 0 D,hs.far (p:=A2 w 0) bH _,hm.keepsS G (NC J),?_⟩;exact((h.below.trans (B.below h.below.size bA)).trans (hst.low.mono bB)).setCell (p:=A2 w 0) bH _
theorem YR(a:Option Addr)(c:Nat)(V:List SV)(L:List Sn)(n:Nat)(hn:V.length=n)(next:Int)(w:World)(hP:Ib w a V L):
  Calls prog 25 #[pH #[pF a n c,I_ next]] w fun r w'=>∃a' n' c' V',r = pJ (pH #[.slice a' n' c',I_ next])/\V'.length=n'/\BP w' a' c' V' ⟨Rk L,next⟩/\Aa [] w w':=by
 have HP:=lH hP;have HN:=lH hn;have a2:n<=9223372036854775807:=by rw [<- hn];exact hP.small
 have ah:Hi (aK w (((w.alloc (.cells #[pF a n c,I_ next] 32)).alloc (.cells #[pF none 0 0,I_ 0] 32)).alloc (.cells #[pF none 0 0,I_ next] 32)) a n c next (pF none 0 0) [] []):=lH
  ⟨((Blk.new w _ _).alloc _).alloc _,(Ar _ _ _ _ bA).alloc _,Ar _ _ _ _ bA,.inl ⟨rfl,rfl⟩,trivial,(((Below.refl _ w).alloc (Aw _) _).alloc bA _).alloc bG _⟩
 have p1:(w.alloc (.cells #[pF a n c,I_ next] 32)).cell? (A_ w 1)=some (I_ next):=(Blk.new w 32 #[pF a n c,I_ next]).cell 1;clear hP hn;go_enter func25,ntmps25;go_wp2;go_loopw [4] (fun i wr=>∃(k:Nat) (v:Value) (V':List SV),k<=n/\k<=5/\i = I_ k/\V'.length=k/\Hi (aK w wr a n c next v V' ((L.take k).map OP))) (fun i _=>5 - (intOf i).toNat)
 case atStart=>exact⟨0,_,[],Ba _,Ba _,rfl,rfl,ah⟩
 case round=>
  obtain⟨k,v,V',hkn,hk5,rfl,am,HI⟩:=hrel;have HVK:=lH am;have z0:wr.cell? (A_ w 0)=some (pF a n c):=HI.o.b0.cell 0;clear am p1 ah;by_cases hlt:k<n/\k<5
  ·obtain⟨h1,h2⟩:=hlt
   have hk1:k<V.length:=by rw [HN.o];exact h1
   have hkL:k<L.length:=by rw [<- HP.o.len];exact hk1
   obtain⟨y,hy⟩:=eX (V[k]);obtain⟨s,hs⟩:=eX (L[k]);have hm:=HP.o.mt k hk1 hkL;rw [hy,hs] at hm;obtain⟨g,off,rfl,hg,hat⟩:=HP.o.row gC;have q1:=hat k hk1;rw [hy] at q1;obtain⟨p0,p1,p2⟩:=q1;have hkw:=Aa.of_below HI.o.below [];rw [<- hkw.cell (by exact hg) bA] at p0 p1 p2;have i1:(0:Int)<=(k:Int):=bB;have i2:(k:Int)<(n:Int):=bB;have i3:(k:Int)<5:=bB;have HG:Hi (g<w.heap.size):=lH hg;have N:=lH hm;have HSA:=lH (hm.2.2.2.keeps hkw);have ap:Hi (L[k]? = some s):=lH kF;have z2:wr.cell? (A2 w 0)=some v:=HI.o.b2.cell 0;have al:wr.cell? (A_ g (off+k*3))=some (I_ y.cur)/\wr.cell? (A_ g (off+k*3+1))=some (pF y.ia y.il y.ic)/\wr.cell? (A_ g (off+k*3+2))=some (I_ y.used)/\wr.cell? (A_ w 0)=some (pF (some (A_ g off)) n c):=⟨p0,p1,p2,z0⟩;have ay:=lH al;have B:Hi (∀w':World,(∀j,j<w.heap.size+1->w'.heap[j]? = wr.heap[j]?)->w'.cell? (A_ g (off+k*3))=some (I_ y.cur)/\w'.cell? (A_ g (off+k*3+1))=some (pF y.ia y.il y.ic)/\w'.cell? (A_ g (off+k*3+2))=some (I_ y.used)/\w'.cell? (A_ w 0)=some (pF (some (A_ g off)) n c)):=lH (fun w' hh=>⟨(BL (a:=A_ g (off+k*3)) (hh g bB)).trans p0,(BL (a:=A_ g (off+k*3+1)) (hh g bB)).trans p1,(BL (a:=A_ g (off+k*3+2)) (hh g bB)).trans p2,(BL (a:=A_ w 0) (hh w bB)).trans z0⟩);have HWS:Hi (w.heap.size+3<=wr.heap.size):=lH (by have:=HI.o.b2.lt;omega);clear hat hy hs hm hkw hk1 hkL al;go_wp2_with fail;refine wp_region_held_drew (S:=(fun w':World=>w'.cell? (A_ g (off+k*3))=some (I_ y.cur)/\w'.cell? (A_ g (off+k*3+1))=some (pF y.ia y.il y.ic)/\w'.cell? (A_ g (off+k*3+2))=some (I_ y.used)/\w'.cell? (A_ w 0)=some (pF (some (A_ g off)) n c))) bC (by((try dsimp only);(first | exact O.o _ | exact af.o | exact B.o _ (fun j hj=>(HK5.o.alloc _).block j aY bA) | exact B.o _ (fun j hj=>HK5.o.block j aY bA) | exact B.o _ (fun _ _=>rfl)))) (fun hHeld=>?_)
   repeat' (first | exact rZ | refine rX ?_ | ((first | (refine rA 1 (fun K hK=>?_) ?_;go_simp) | (refine rA 14 (fun K hK=>?_) ?_;go_simp;(first | ((refine(Pd y.ia y.ic s.items y.il N.o.2.2.1 _ (HSA.o.keeps ((Aa.refl [] wr).drew))).mono ?_);rintro e5 w5 ⟨Y,m5,c5,rfl,U,G,hk5⟩;have HK5:=lH (((Aa.refl [] wr).drew).trans hk5);have T:=lH G;have ae:=lH U;have z5:w5.cell? (A2 w 0)=some v:=(HI.o.b2.keeps HK5.o bA).cell 0;have av:∀o,(w5.alloc o).cell? (A2 w 0)=some v:=fun o=>((HI.o.b2.keeps HK5.o bA).alloc o).cell 0;clear G hk5 U) | (obtain⟨v9,w9,D,F,hk9⟩:=Da.push ((HI.o.row.keeps HK5.o).keeps ((Aa.refl [] w5).alloc (.cells (SV.arr (⟨y.cur,Y,m5,c5,y.used⟩:SV)) 43))) mB (by have:=HK5.o.size;have:=HWS.o;simp;omega) w5 (⟨y.cur,Y,m5,c5,y.used⟩:SV) (Blk.new w5 43 (SV.arr (⟨y.cur,Y,m5,c5,y.used⟩:SV))) 30;obtain⟨J,M,h9,_,_⟩:=F.row;obtain⟨n9,X⟩:=eX ((V'++[(⟨y.cur,Y,m5,c5,y.used⟩:SV)]).length);rw [X] at h9;subst h9;clear X;have E:=UG (s:=OP s) HI.o HK5.o F hk9 ⟨N.o.1,N.o.2.1,ae.o.symm,T.o⟩;simp only [SV.arr] at D;refine Cf _ _ 30 bD bD bD bD D ?_;have z9:w9.cell? (A2 w 0)=some v:=E.1.cell 0;have f9:=E.1.frozen 0;have HC9:=lH E.2;have af:=lH (B.o w9 (fun j hj=>(hk9.low.block j bB).trans ((HK5.o.alloc _).block j aY bA)));have O:=lH (fun u=>B.o (w9.setCell (A2 w 0) u) (fun j hj=>(Below.heap_setCell _ _ _ _ bH).trans ((hk9.low.block j bB).trans ((HK5.o.alloc _).block j aY bA))));clear F hk9 E D))) | (refine rA 22 (fun K hK=>?_) ?_;go_simp) | (refine rA 23 (fun K hK=>?_) ?_;(first | ((refine(Pd y.ia y.ic s.items y.il N.o.2.2.1 _ (HSA.o.keeps ((Aa.refl [] wr).drew))).mono ?_);rintro e5 w5 ⟨Y,m5,c5,rfl,U,G,hk5⟩;have HK5:=lH (((Aa.refl [] wr).drew).trans hk5);have T:=lH G;have ae:=lH U;have z5:w5.cell? (A2 w 0)=some v:=(HI.o.b2.keeps HK5.o bA).cell 0;have av:∀o,(w5.alloc o).cell? (A2 w 0)=some v:=fun o=>((HI.o.b2.keeps HK5.o bA).alloc o).cell 0;clear G hk5 U) | (obtain⟨v9,w9,D,F,hk9⟩:=Da.push ((HI.o.row.keeps HK5.o).keeps ((Aa.refl [] w5).alloc (.cells (SV.arr (⟨y.cur,Y,m5,c5,y.used⟩:SV)) 43))) mB (by have:=HK5.o.size;have:=HWS.o;simp;omega) w5 (⟨y.cur,Y,m5,c5,y.used⟩:SV) (Blk.new w5 43 (SV.arr (⟨y.cur,Y,m5,c5,y.used⟩:SV))) 30;obtain⟨J,M,h9,_,_⟩:=F.row;obtain⟨n9,X⟩:=eX ((V'++[(⟨y.cur,Y,m5,c5,y.used⟩:SV)]).length);rw [X] at h9;subst h9;clear X;have E:=UG (s:=OP s) HI.o HK5.o F hk9 ⟨N.o.1,N.o.2.1,ae.o.symm,T.o⟩;simp only [SV.arr] at D;refine Cf _ _ 30 bD bD bD bD D ?_;have z9:w9.cell? (A2 w 0)=some v:=E.1.cell 0;have f9:=E.1.frozen 0;have HC9:=lH E.2;have af:=lH (B.o w9 (fun j hj=>(hk9.low.block j bB).trans ((HK5.o.alloc _).block j aY bA)));have O:=lH (fun u=>B.o (w9.setCell (A2 w 0) u) (fun j hj=>(Below.heap_setCell _ _ _ _ bH).trans ((hk9.low.block j bB).trans ((HK5.o.alloc _).block j aY bA))));clear F hk9 E D))) | (refine rA 25 (fun K hK=>?_) ?_;go_simp));refine rO hK (by((try dsimp only);(first | exact O.o _ | exact af.o | exact B.o _ (fun j hj=>(HK5.o.alloc _).block j aY bA) | exact B.o _ (fun j hj=>HK5.o.block j aY bA) | exact B.o _ (fun _ _=>rfl)))) fun hHeld=>?_;clear hK K) | (refine rQ 0 ?_;refine rQ 2 ?_;refine rQ 3 ?_;refine rQ 4 ?_;refine rQ 5 ?_;refine rQ 6 ?_;refine rQ 7 ?_;refine rQ 8 ?_;refine rQ 9 ?_;refine rQ 10 ?_;refine rQ 11 ?_;refine rQ 12 ?_;refine rQ 13 ?_;refine rQ 15 ?_;refine rQ 16 ?_;refine rQ 17 ?_;refine rQ 18 ?_;refine rQ 19 ?_;refine rQ 20 ?_) | (refine rQ 21 ?_) | (refine rQ 24 ?_) | refine rB [1,14,22,23,25] ?_ | (refine wpAnyH_done bC ?_ _;(go_wp2;go_roundw;(case rel=>exact⟨k+1,_,V'++[⟨y.cur,Y,m5,c5,y.used⟩],by omega,by omega,by go_num,by rw [Al,HVK.o];rfl,by rw [DS ap.o,pO];exact HC9⟩);(case measure=>(simp [intOf];omega)))))
  ·obtain⟨J,M,rfl,ad,aq⟩:=HI.o.row.row
   have e1:((n:Nat):Int)<=(k:Int)\/(5:Int)<=(k:Int):=bB;have eL:Rk L=(L.take k).map OP:=by
    have h0:=HP.o.len;have h1:=HN.o;unfold Rk;rcases pP k 5 with h | h
    ·rw [Ak (show L.length<=5 by omega),Ak (show L.length<=k by omega)]
    ·rw [show k=5 by omega]
   have ao:=lH eL;have z1:wr.cell? (A2 w 0)=some (pF J V'.length M):=HI.o.b2.cell 0;have z2:wr.cell? (A2 w 1)=some (I_ next):=HI.o.b2.cell 1;have c1:=HI.o.b1.cell 0;have c2:=HI.o.b1.cell 1;have f1:=HI.o.b1.frozen 0;have f2:=HI.o.b1.frozen 1;have ak:Blk ((wr.setCell (A1 w 0) (pF J V'.length M)).setCell (A1 w 1) (I_ next)) (w+1) 32 #[pF J V'.length M,I_ next]:=(HI.o.b1.set_ 0 _).set_ 1 _;have hk9:Aa [w.heap.size+1] wr ((wr.setCell (A1 w 0) (pF J V'.length M)).setCell (A1 w 1) (I_ next)):=((Aa.refl _ wr).setCell (p:=A1 w 0) (.inl bA) _).setCell (p:=A1 w 1) (.inl bA) _;have aj:BP ((wr.setCell (A1 w 0) (pF J V'.length M)).setCell (A1 w 1) (I_ next)) J M V' ⟨Rk L,next⟩:=by
    have F:=(HI.o.row.far (p:=A1 w 0) bH (pF J V'.length M)).far (p:=A1 w 1) bH (I_ next);obtain⟨a0,c0,h0,_,hr⟩:=F.row;cases h0;exact⟨ad,by have:=HVK.o;omega,hr,by rw [ao.o];exact HI.o.mt.keepsS hk9 (NC HI.o.b1)⟩
   have hkw:Aa [] w ((wr.setCell (A1 w 0) (pF J V'.length M)).setCell (A1 w 1) (I_ next)):=Aa.of_below ((HI.o.below.setCell (p:=A1 w 0) bH _).setCell (p:=A1 w 1) bH _) [];have ac:=lH ak;have ai:=lH aj;have HK9:=lH hkw;clear ak aj hkw hk9 eL aq ad;have HKV:=lH HVK.o;rcases pP k n with hk | hk
   ·have i2:(k:Int)<(n:Int):=bB;have i3:¬(k:Int)<5:=bB;clear e1;go_wp2_with fail;exact bodyPost_ret (v:=pH #[pF J V'.length M,I_ next]) (by have q0:=ac.o.cell 0;have q1:=ac.o.cell 1;simp [results,results25,go_sem,q0,q1]) rfl ⟨J,V'.length,M,rfl,V',rfl,ai.o,HK9.o⟩
   ·have i2:¬(k:Int)<(n:Int):=bB;clear e1;go_wp2_with fail;exact bodyPost_ret (v:=pH #[pF J V'.length M,I_ next]) (by have q0:=ac.o.cell 0;have q1:=ac.o.cell 1;simp [results,results25,go_sem,q0,q1]) rfl ⟨J,V'.length,M,rfl,V',rfl,ai.o,HK9.o⟩
end
end Go.Proofs.YtncebikgoleolaaGreatDoor
