/- Steps. -/
import Derived.Test.YtjieiikpolahfaaGreatDoorKaa
import Derived.Deep.RegionHeld3
import Derived.Deep.DeepCutAuto
import Derived.Laws.IdiomCopy
set_option maxRecDepth 100000
set_option maxHeartbeats 8000000
set_option linter.all false
namespace Go.Proofs.YtjieiikpolahfaaGreatDoor
open Tryz
open _root_.Go renaming undef→UD
open _root_.Array renaming length_toList→BX,replicate_succ→Bt,replicate_zero→Bu
open _root_.Bool renaming and_assoc→EJ,and_eq_true→Af,eq_iff_iff→DI,false_and→Ep,true_and→DJ
open Builtin renaming copy_→E3
open _root_.ByteArray renaming toList_eq→ED
open Ending renaming returned→pJ
open Exit renaming noGoto_normal→AY
open Fence renaming wide→Bx
open Instr renaming lookup→Ed
open _root_.Int renaming toNat_natCast→pW
open IntKind renaming i64→pK
open _root_.List renaming append_assoc→CC,append_toArray→BD,cons_append→AL,getD_eq_getElem?_getD→AO,getElem?_cons_succ→Ao,getElem?_cons_zero→Aj,getElem?_eq_getElem→Aq,getElem?_eq_some_iff→Ad,getElem?_toArray→An,isEmpty_eq_false_iff→E9,length_append→Al,length_cons→Av,length_map→Bd,length_nil→D4,length_range→AP,length_singleton→Bp,length_take→Ax,map_append→pO,map_cons→CR,mem_append→AQ,mem_cons→Ac,mem_map→BO,mem_of_getElem?→CD,mem_singleton→Ag,nil_append→BH,not_mem_nil→Ab,push_toArray→Cd,range_succ→B3,range→AC,size_toArray→Cz,take_append_drop→Dn,take_of_length_le→Ak
open _root_.Nat renaming add_zero→AT,le_refl→Aw,le_trans→A8,lt_of_lt_of_le→BS,lt_or_ge→pP,min_eq_left→DE,mul_one→pR,reduceAdd→pL,reduceSub→pM,zero_add→AW,zero_le→Ba
open Oper renaming semAt_some→pN
open Program renaming fieldsOf→CK
open Value renaming agg→pH,bool→pI,int→pE,ownBlock→EZ,pointer→pG,slice→pF,string→Dz
open World renaming block_lt_of_cell?→Be,ownsRow_nil→BQ,size_alloc→Eo
section
open Go.RowKit Go.Shelf
attribute [local go_sem] pN
attribute [local go_sem ↓] wp_at_zero wp_at_succ
theorem WH(x y:Int)(b:Bool)(hb:decide (x<=y)=b)(w:World):Calls prog 249 #[pH #[pE pK x,I_ y]] w fun e w'=>e = pJ (pI b)/\Aa [] w w':=by
 have HK:=lH ((Aa.refl [] w).alloc (.cells #[pE pK x,I_ y] 399));subst hb;go_enter func249,ntmps249;go_wp2;go_ret;exact⟨rfl,HK.o⟩
theorem Uc(x y:Int)(b:Bool)(hb:decide (0<=x)=b)(w:World):Calls prog 250 #[pH #[pE pK x,I_ y]] w fun e w'=>e = pJ (pI b)/\Aa [] w w':=by
 have HK:=lH ((Aa.refl [] w).alloc (.cells #[pE pK x,I_ y] 399));subst hb;go_enter func250,ntmps250;go_wp2;go_ret;exact⟨rfl,HK.o⟩
theorem Sm(x y:Int)(b:Bool)(hb:decide (y<=65535)=b)(w:World):Calls prog 251 #[pH #[pE pK x,I_ y]] w fun e w'=>e = pJ (pI b)/\Aa [] w w':=by
 have HK:=lH ((Aa.refl [] w).alloc (.cells #[pE pK x,I_ y] 399));subst hb;go_enter func251,ntmps251;go_wp2;go_ret;exact⟨rfl,HK.o⟩
def Ta:Array Value:=#[.func (.func 249) #[] #[],.func (.func 250) #[] #[],.func (.func 251) #[] #[]]
theorem Zg(x y:Int)(fb:Nat)(ty:TypeId)(b:Bool)(hb:Hd x y=b)(w:World)(hf:Blk w fb ty Ta):Calls prog 248 #[pH #[pE pK x,I_ y],pF (some (A_ fb 0)) 3 3] w fun e w'=>e = pJ (pI b)/\Aa [] w w':=by
 obtain⟨wz,hwz⟩:=eX ((w.alloc (.cells #[pE pK x,I_ y] 53)));have HK0:Hi (Aa [] w wz):=lH jV;have hb0:Blk wz w 53 #[pE pK x,I_ y]:=by rw [<- hwz];exact Blk.new w _ _
 have hb1:Blk wz fb ty Ta:=hf.keeps HK0.o bA;obtain⟨b1,h1⟩:=eX (decide (x<=y));obtain⟨b2,h2⟩:=eX (decide (0<=x));obtain⟨b3,h3⟩:=eX (decide (y<=65535));have Y:Hd x y=(b1&&(b2&&b3)):=by rw [<- h1,<- h2,<- h3];unfold Hd;simp only [EJ]
 rw [Y] at hb;have H1:=lH h1;have H2:=lH h2;have H3:=lH h3;have HB:=lH hb;clear h1 h2 h3 Y hb hf;have HB0:=lH hb0;have HB1:=lH hb1;clear hb0 hb1;go_enter func248,ntmps248;go_wp2;refine wp_loop_rounds 4 ?_;rw [rounds_succ];have hb0:=HB0.o;have hb1:=HB1.o;clear hwz;have E:=hb1.cell 0;have F:=hb1.cell 1;have G:=hb1.cell 2;have B:=hb0.cell 0;have D:=hb0.cell 1;simp only [Ta,An,Aj,Ao] at E F G B D;have J:=lH hb0;have O:=lH hb1;clear hb0 hb1;go_wp2_with fail;refine(WH x y b1 H1.o _).mono ?_;rintro e w1 ⟨rfl,hk1⟩;have HK1:=lH (HK0.o.trans hk1);have hb0:=J.out.keeps hk1 bA;have hb1:=O.out.keeps hk1 bA;clear E F G B D hk1;cases b1 with
 | false=>
  obtain rfl:b=false:=by rw [<- HB.o];simp
  go_wp2;go_ret;exact⟨rfl,HK1.o⟩
 | true=>
  go_wp2_with fail;rw [rounds_succ];have E:=hb1.cell 0;have F:=hb1.cell 1;have G:=hb1.cell 2;have B:=hb0.cell 0;have D:=hb0.cell 1;simp only [Ta,An,Aj,Ao] at E F G B D;have M:=lH hb0;have T:=lH hb1;clear hb0 hb1;go_wp2_with fail;refine(Uc x y b2 H2.o _).mono ?_;rintro e w2 ⟨rfl,hk2⟩;have HK2:=lH (HK1.o.trans hk2);have hb0:=M.out.keeps hk2 bA;have hb1:=T.out.keeps hk2 bA;clear E F G B D hk2;cases b2 with
  | false=>
   obtain rfl:b=false:=by rw [<- HB.o];simp
   go_wp2;go_ret;exact⟨rfl,HK2.o⟩
  | true=>
   go_wp2_with fail;rw [rounds_succ];have E:=hb1.cell 0;have F:=hb1.cell 1;have G:=hb1.cell 2;have B:=hb0.cell 0;have D:=hb0.cell 1;simp only [Ta,An,Aj,Ao] at E F G B D;have N:=lH hb0;have U:=lH hb1;clear hb0 hb1;go_wp2_with fail;refine(Sm x y b3 H3.o _).mono ?_;rintro e w3 ⟨rfl,hk3⟩;have X:=lH (HK2.o.trans hk3);have hb0:=N.out.keeps hk3 bA;have hb1:=U.out.keeps hk3 bA;clear E F G B D hk3;cases b3 with
   | false=>
    obtain rfl:b=false:=by rw [<- HB.o];simp
    go_wp2;go_ret;exact⟨rfl,X.o⟩
   | true=>
    go_wp2_with fail;rw [rounds_succ];obtain rfl:b=true:=by rw [<- HB.o];rfl
    go_wp2;go_ret;exact⟨rfl,X.o⟩
theorem N7(x y:Int)(b:Bool)(hb:Hd x y=b)(w:World):Calls prog 216 #[pH #[pE pK x,I_ y]] w fun e w'=>e = pJ (pI b)/\Aa [] w w':=by
 have HK0:=lH (((Aa.refl [] w).alloc (.cells #[pE pK x,I_ y] 53)).alloc (.cells Ta 397));have HB1:=lH (Ar (w.alloc (.cells #[pE pK x,I_ y] 53)) 397 Ta (w+1) bA);have HB:=lH hb;clear hb;go_enter func216,ntmps216;go_wp2_with fail;refine(Zg x y _ 397 b HB.o _ HB1.o).mono ?_;rintro e w1 ⟨rfl,hk1⟩;have HK1:=lH (HK0.o.trans hk1);clear hk1;go_wp2;go_ret;exact⟨rfl,HK1.o⟩
theorem I2(r:EX)(b:Bool)(hb:La r=b)(w:World):Calls prog 174 #[pH (L_ r)] w fun e w'=>e = pJ (pI b)/\Aa [] w w':=by
 obtain⟨B,a,n,x,y⟩:=r;dsimp only at hb ⊢;obtain⟨D,h1⟩:=eX (FI a n);obtain⟨b2,h2⟩:=eX (Hd x y);have hp:La ⟨B,a,n,x,y⟩=(D&&b2):=by rw [<- h1,<- h2];rfl
 rw [hp] at hb;have HK0:=lH ((Aa.refl [] w).alloc (.cells #[pI B,I_ a,I_ n,I_ x,I_ y] 311));have HB0:=lH (Blk.new w 311 #[pI B,I_ a,I_ n,I_ x,I_ y]);have E:=lH h1;have H2:=lH h2;have HB:=lH hb;clear h1 h2 hp hb;go_enter func174,ntmps174;go_wp2_with fail;refine(Ke a n D E.o _).mono ?_;rintro e w1 ⟨rfl,hk1⟩;have HK1:=lH (HK0.o.trans hk1);have hb0:=HB0.o.keeps hk1 bA;have F:=hb0.ce 3;have G:=hb0.ce 4;clear hk1 hb0;cases D with
 | false=>
  obtain rfl:b=false:=by rw [<- HB.o];rfl
  go_wp2;go_ret;exact⟨rfl,HK1.o⟩
 | true=>
  obtain rfl:b=b2:=by rw [<- HB.o];rfl
  go_wp2_with fail;refine(N7 x y b H2.o _).mono ?_;rintro e w2 ⟨rfl,hk2⟩;have HK2:=lH (HK1.o.trans hk2);clear hk2;go_wp2;go_ret;exact⟨rfl,HK2.o⟩
def aR:Array Value:=#[.func (.func 174) #[] #[]]
theorem QM(a:Option Addr)(c:Nat)(L:List EX)(n:Nat)(hn:L.length=n)(hL:n<=1000000)(fb:Nat)(ty:TypeId)(b:Bool)(hb:L.all La=b)(w:World)(h:AR B8 5 w a c L)(hf:Blk w fb ty aR):
  Calls prog 173 #[pF a n c,pF (some (A_ fb 0)) 1 1] w fun e w'=>e = pJ (pI b)/\Aa [] w w':=by
 have HH:=lH h;have HN:=lH hn;have HB:=lH hb;have HF:=lH hf;clear h hn hb hf;go_enter func173,ntmps173;go_wp2;go_loopw [11] (fun i wr=>∃k:Nat,i = I_ k/\k<=n/\Hi ((L.take k).all La=true)/\Hi (Aa [] w wr)) (fun i _=>n - (intOf i).toNat)
 case atStart=>exact⟨0,rfl,Ba _,lH rfl,lH (Aa.refl _ _)⟩
 case round=>
  obtain⟨k,rfl,hk,HP,HK⟩:=hrel;by_cases hlt:k<n
  ·obtain⟨g,off,⟨D,E,a2,F,G⟩,rfl,hg,hx,hat⟩:=HH.o.at_k (k:=k) bO
   have U:=hat 0 (pI D) rfl;have q1:=hat 1 (I_ E) rfl;have q2:=hat 2 (I_ a2) rfl;have q3:=hat 3 (I_ F) rfl;have q4:=hat 4 (I_ G) rfl;rw [AT] at U;rw [<- HK.o.cell (p:=A_ g (off+k*5)) hg bA] at U;rw [<- HK.o.cell (p:=A_ g (off+k*5+1)) hg bA] at q1;rw [<- HK.o.cell (p:=A_ g (off+k*5+2)) hg bA] at q2;rw [<- HK.o.cell (p:=A_ g (off+k*5+3)) hg bA] at q3;rw [<- HK.o.cell (p:=A_ g (off+k*5+4)) hg bA] at q4;have i1:(0:Int)<=(k:Int):=bB;have i2:(k:Int)<(n:Int):=bB;obtain⟨T,hb1⟩:=eX (La ⟨D,E,a2,F,G⟩);have hp:La ⟨D,E,a2,F,G⟩=(T):=by rw [<- hb1];try(rfl)
   have X:=lH hx;have HPX:=lH hp;have H1:=lH hb1;have hk0:=HK.o.alloc (.cells #[pI D,I_ E,I_ a2,I_ F,I_ G] 55);have J:=Blk.new wr 55 #[pI D,I_ E,I_ a2,I_ F,I_ G];have M:=HF.o.keeps hk0 bA;have HK0:=lH hk0;have B:=lH J;have N:=lH M;clear hat hg hx hp hb1 hk0 J M;go_wp2;refine wp_loop_rounds 2 ?_;rw [rounds_succ];have s0:=N.o.cell 0;have Y:=B.o.cell 0;have d1:=B.o.cell 1;have d2:=B.o.cell 2;have d3:=B.o.cell 3;have d4:=B.o.cell 4;simp only [aR,An,Aj,Ao] at s0 Y d1 d2 d3 d4;go_wp2_with fail;refine(I2 ⟨D,E,a2,F,G⟩ T H1.o _).mono ?_;rintro e w1 ⟨rfl,hk1⟩;clear s0 Y d1 d2 d3 d4 U q1 q2 q3 q4;have HK1:=lH (HK0.o.trans hk1);clear hk1;cases T with
   | false=>
    obtain rfl:b=false:=by rw [<- HB.o];exact Ih X.o (by rw [HPX.o];try rfl)
    go_wp2;go_ret;exact⟨rfl,HK1.o⟩
   | true=>
    have O:Hi ((L.take (k+1)).all La=true):=lH (by rw [Kz X.o,HP.o,HPX.o];try rfl);go_wp2_with fail;rw [rounds_succ];go_wp2;go_roundw;case rel=>exact⟨k+1,by go_num,by omega,O,HK1⟩
    case measure=>simp [intOf];omega
  ·obtain rfl:k=n:=bB;obtain rfl:b=true:=by rw [<- HB.o,<- HP.o,Ak bL]
   go_wp2;go_ret;exact⟨rfl,HK.o⟩
theorem JU(a:Option Addr)(c:Nat)(L:List EX)(n:Nat)(hn:L.length=n)(hL:n<=1000000)(b:Bool)(hb:Ew L=b)(w:World)(h:Ku w a c L):Calls prog 138 #[pF a n c] w fun e w'=>e = pJ (pI b)/\Aa [] w w':=by
 obtain⟨y,hy⟩:=eX (L.all La);have B:b=(decide (n<=16)&&y):=by rw [<- hb];unfold Ew;rw [hy,hn]
 have HBB:=lH B;have E:=lH hy;have HN:=lH hn;have HH:=lH h;clear hb hy B hn h;by_cases h10:n<=16
 ·have F:(n:Int)<=16:=bB;obtain rfl:b=y:=by rw [HBB.o,decide_eq_true h10];rfl
  have D:=lH (Blk.new w 309 aR);have HKF:=lH ((Aa.refl [] w).alloc (.cells aR 309));clear h10;go_enter func138,ntmps138;go_wp2_with fail;refine(QM a c L n HN.o hL _ _ b E.o _ (HH.o.keeps HKF.o) D.o).mono ?_;rintro e w1 ⟨rfl,hk1⟩;have HK1:=lH (HKF.o.trans hk1);clear hk1;go_wp2;go_ret;exact⟨rfl,HK1.o⟩
 ·have F:¬(n:Int)<=16:=bB;obtain rfl:b=false:=by rw [HBB.o,decide_eq_false h10];rfl
  clear h10;go_enter func138,ntmps138;go_wp2;go_ret;exact⟨rfl,Aa.refl [] w⟩
structure Kw(w:World)(tb:Nat)(v:DF)(s:Fz)(gn un fn:Nat):Prop where
 blk:Blk w tb 250 (S_ v gn un fn)
 m:Dy w v s
 lg:s.gens.length=gn
 lu:s.used.length=un
 lf:s.free.length=fn
theorem Kw.keeps{w w':World}{tb:Nat}{v:DF}{s:Fz}{gn un fn:Nat}(h:Kw w tb v s gn un fn)(hk:Aa [] w w'):Kw w' tb v s gn un fn:={ h with blk:=h.blk.keeps hk bA,m:=h.m.keeps hk }
theorem Kw.cells{w:World}{tb:Nat}{v:DF}{s:Fz}{gn un fn:Nat}(h:Kw w tb v s gn un fn):w.cell? (A_ tb 0)=some (pF v.ga gn v.gc)/\w.cell? (A_ tb 1)=some (pF v.ua un v.uc)/\w.cell? (A_ tb 2)=some (pF v.fa fn v.fc):=⟨h.blk.cell 0,h.blk.cell 1,h.blk.cell 2⟩
def Mj(gn un:Nat):Bool:=decide (1<=gn)&&decide (gn<=64)&&decide (un=gn)
theorem TE(B:Nat)(v:DF)(s:Fz)(gn un fn:Nat)(b:Bool)(hb:Mj gn un=b)(w:World)(h:Kw w B v s gn un fn):
  Calls prog 133 #[pG (some (A_ B 0))] w fun e w'=>e = pJ (pI b)/\Aa [] w w':=by
 obtain⟨E,F,G⟩:=h.cells;clear h;by_cases h1:1<=gn
 ·have i1:(1:Int)<=(gn:Int):=bB;by_cases h2:gn<=64
  ·have i2:(gn:Int)<=64:=bB;by_cases h3:un=gn
   ·subst h3
    obtain rfl:b=true:=by rw [<- hb];simp [Mj,h1,h2]
    clear hb h1 h2;go_enter func133,ntmps133;go_wp2;go_quiet (fail);go_wp2;go_ret;exact⟨rfl,(Aa.refl [] w).drewN _⟩
   ·have D:((un:Int)==(gn:Int))=false:=by simp;omega
    obtain rfl:b=false:=by rw [<- hb];simp [Mj,h3]
    clear hb h1 h2 h3;go_enter func133,ntmps133;go_wp2;go_quiet (fail);go_wp2;go_ret;exact⟨rfl,(Aa.refl [] w).drewN _⟩
  ·have i2:decide ((gn:Int)<=64)=false:=decide_eq_false bB
   obtain rfl:b=false:=by rw [<- hb];simp [Mj,h2]
   clear hb h1 h2;go_enter func133,ntmps133;go_wp2;go_quiet (fail);go_wp2;go_ret;exact⟨rfl,(Aa.refl [] w).drewN _⟩
 ·have i1:decide ((1:Int)<=(gn:Int))=false:=decide_eq_false bB
  obtain rfl:b=false:=by rw [<- hb];simp [Mj,h1]
  clear hb h1;go_enter func133,ntmps133;go_wp2;go_quiet (fail);go_wp2;go_ret;exact⟨rfl,(Aa.refl [] w).drewN _⟩
def Qu(n:Int):Bool:=decide (0<=n)&&decide (n<=1000000000)
theorem PN(n:Int)(b:Bool)(hb:Qu n=b)(w:World):Calls prog 171 #[pE pK n] w fun e w'=>e = pJ (pI (!b))/\w=w':=by
 by_cases h1:n<0
 ·obtain rfl:b=false:=by rw [<- hb];simp [Qu];omega
  clear hb;go_enter func171,ntmps171;go_wp2;go_ret;exact⟨rfl,rfl⟩
 ·have B:0<=n:=bB;by_cases h2:1000000000<n
  ·obtain rfl:b=false:=by rw [<- hb];simp [Qu];omega
   clear hb;go_enter func171,ntmps171;go_wp2;go_ret;exact⟨rfl,rfl⟩
  ·have D:n<=1000000000:=bB;obtain rfl:b=true:=by rw [<- hb];simp [Qu];omega
   clear hb h1 h2;go_enter func171,ntmps171;go_wp2;go_ret;exact⟨Jv bG,rfl⟩
theorem Qv(a:Option Addr)(c:Nat)(L:List Int)(n:Nat)(hn:L.length=n)(hL:n<=1000000)(b:Bool)(hb:L.all Qu=b)(w:World)(h:F1 w a c L):
  Calls prog 214 #[pF a n c,.func (.func 171) #[] #[]] w fun r w'=>(∃i:Int,r = pJ (I_ i)/\(decide (0<=i) = !b))/\w=w':=by
 have HH:=lH h;have HN:=lH hn;have HB:=lH hb;clear h hn hb;go_enter func214,ntmps214;go_wp2;go_loopw [5,8] (fun _ i wr=>∃k:Nat,k<=n/\i = I_ k/\Hi ((L.take k).all Qu=true)/\w=wr) (fun _ i _=>n - (intOf i).toNat)
 case atStart=>exact⟨0,Ba _,rfl,lH rfl,rfl⟩
 case round=>
  obtain⟨k,hk,rfl,E,rfl⟩:=hrel;by_cases hlt:k<n
  ·obtain⟨g,off,x,rfl,hg,hx,hat⟩:=HH.o.at_k (k:=k) bO
   have G:=hat 0 (I_ x) rfl;rw [AT,pR] at G;have i1:(0:Int)<=(k:Int):=bB;have i2:(k:Int)<(n:Int):=bB;obtain⟨y,hy⟩:=eX (Qu x);have F:=lH hx;have D:=lH hy;clear hat hg hx hy;go_wp2_with fail;refine(PN x y D.o _).mono ?_;rintro r w2 ⟨rfl,rfl⟩;cases y with
   | true=>
    have B:Hi ((L.take (k+1)).all Qu=true):=lH (by rw [Kz F.o,E.o,D.o];rfl);go_wp2;go_roundw;case rel=>exact⟨k+1,by omega,by go_num,B,trivial⟩
    case measure=>simp [intOf];omega
   | false=>
    obtain rfl:b=false:=by rw [<- HB.o];exact Ih F.o D.o
    go_wp2;go_ret;exact⟨⟨_,rfl,by simp⟩,rfl⟩
  ·obtain rfl:k=n:=bB;obtain rfl:b=true:=by
    rw [<- HB.o];have:=E.o
    rwa [Ak bL] at this
   go_wp2;go_ret;exact⟨⟨_,rfl,by simp⟩,rfl⟩
theorem Mw(a:Option Addr)(c:Nat)(L:List Int)(n:Nat)(hn:L.length=n)(hL:n<=1000000)(b:Bool)(hb:L.all Qu=b)(w:World)(h:F1 w a c L):
  Calls prog 172 #[pF a n c,.func (.func 171) #[] #[]] w fun r w'=>r = pJ (pI (!b))/\w=w':=by
 have HH:=lH h;have HN:=lH hn;have HB:=lH hb;clear h hn hb;go_enter func172,ntmps172;go_wp2_with fail;refine(Qv a c L n HN.o hL b HB.o w HH.o).mono ?_;rintro r w' ⟨⟨i,rfl,hi⟩,rfl⟩;go_wp2;go_ret;exact⟨rfl,rfl⟩
theorem QR(B:Nat)(v:DF)(s:Fz)(gn un fn:Nat)(b:Bool)(hb:UN s.gens=b)(w:World)(h:Kw w B v s gn un fn):
  Calls prog 134 #[pG (some (A_ B 0))] w fun e w'=>e = pJ (pI b)/\w=w':=by
 obtain⟨D,E,F⟩:=h.cells;have hl:=h.m.sg;rw [h.lg] at hl;have HC:=lH (Mw v.ga v.gc s.gens gn h.lg bB b hb w h.m.g);clear h hb;go_enter func134,ntmps134;go_wp2_with fail;refine HC.o.mono ?_;rintro r w' ⟨rfl,rfl⟩;go_wp2;go_ret;exact⟨Jv bA,rfl⟩
theorem JK:∀(u u':List Bool) (g g':List Int) (i:Nat),u.length=g.length->usedL i (u++u') (g++g')=usedL i u g++usedL (i+u.length) u' g'
 | [],u',[],g',i,_=>by simp [usedL]
 | true::u,u',z::g,g',i,h=>by
  simp only [Av,Nat.add_right_cancel_iff] at h;simp only [AL,usedL,JK u u' g g' (i+1) h,Av];rw [show i+1+u.length=i+(u.length+1) by omega]
 | false::u,u',z::g,g',i,h=>by
  simp only [Av,Nat.add_right_cancel_iff] at h;simp only [AL,usedL,JK u u' g g' (i+1) h,Av];rw [show i+1+u.length=i+(u.length+1) by omega]
 | [],_,_::_,_,_,h=>by simp at h
 | _::_,_,[],_,_,h=>by simp at h
def Hz(s:Fz)(k:Nat):List (Int×Int):=usedL 0 (s.used.take k) (s.gens.take k)
theorem Uw{s:Fz}{k:Nat}{b:Bool}{z:Int}(h1:s.used[k]? = some b)(h2:s.gens[k]? = some z):Hz s (k+1)=Hz s k++(if b then [((k:Int),z)] else []):=by
 unfold Hz;have B:=(Ad.1 h1).1;have D:=(Ad.1 h2).1;rw [A0 h1,A0 h2,JK _ _ _ _ _ nH];rw [Ax,AW,DE bB];cases b<;>simp [usedL]
theorem Xm(s:Fz)(h:s.used.length=s.gens.length)(k:Nat):Hz s k <+: usedL 0 s.used s.gens:=by
 unfold Hz;have:=JK (s.used.take k) (s.used.drop k) (s.gens.take k) (s.gens.drop k) 0 (by rw [Ax,Ax,h]);rw [Dn,Dn] at this;rw [this];exact List.prefix_append _ _
def RQ(h:Int×Int):Array Value:=#[pH #[pE pK h.1,pE pK h.2]]
theorem SJ(p:Addr)(w:World):Calls prog 131 #[pG (some p)] w fun r w'=>r = pJ (.func (.func 170) #[] #[pG (some (A_ w 0))])/\w.alloc (.cells #[pG (some p)] 248)=w':=by
 go_enter func131,ntmps131;go_wp2;go_ret;exact⟨rfl,rfl⟩
theorem ZU(n l pb tb:Nat)(v:DF)(s:Fz)(gn fn:Nat)(ad:gn<=1000)(J Jx:List (Int×Int)->World->Prop)(W:World)(hV:∀z A,J z A->A.cell? (A_ pb 0)=some (p_ tb 0)/\Kw A tb v s gn gn fn)
 (hY:∀pre x W1,J pre W1->pre++[x] <+: usedL 0 s.used s.gens->YieldAt Bx (n - 1) prog l (RQ x) W1 fun e W'=>
   (e = pJ (pI true)/\J (pre++[x]) W')\/(e = pJ (pI false)/\Jx (pre++[x]) W'))
 (h0:J [] W):
  CallsIn Bx n prog 170 #[.func (.yield l) #[] #[],p_ pb 0] W fun e W'=>(∃v,e = pJ v)/\
   (J (usedL 0 s.used s.gens) W'\/(∃pre,pre <+: usedL 0 s.used s.gens/\Jx pre W')):=by
 have HV:=lH hV;have HY:=lH hY;have ae:Hi (J (Hz s 0) W):=lH (by simpa [Hz,usedL] using h0);obtain⟨p0,F⟩:=hV _ _ h0;obtain⟨c0,c1,c2⟩:=F.cells;have Y:=F.lu;have X:=F.lg;have N:=lH Y;have M:=lH X;clear hV hY h0 F Y X;have ag:Fence.wide.depth.isSome=true->1<=n:=by intro h;cases h
 refine callsIn_of_wp func170 rfl trivial ?_ rfl;simp only [ntmps170,Cz,Av,D4,pL,pM,Bt,Bu,Cd,BD,BH,AL];gi_wp2;refine BW (wpIn_seq (wpIn_label ?_));gi_wp2
 gi_loopw [11] (fun i wr=>∃k:Nat,i = I_ k/\k<=gn/\Hi (J (Hz s k) wr)) (fun i _=>gn - (intOf i).toNat)
 case atStart=>exact⟨0,rfl,Ba _,ae⟩
 case round=>
  obtain⟨k,rfl,hk,D⟩:=hrel;clear p0 c0 c1 c2;obtain⟨p0,E⟩:=HV.o _ _ D.o;obtain⟨c0,c1,c2⟩:=E.cells;by_cases hlt:k<gn
  ·have i1:(0:Int)<=(k:Int):=bB;have i2:(k:Int)<(gn:Int):=bB;obtain⟨g1,o1,b,O,_,hx1,hat1⟩:=E.m.u.at_k (k:=k) (by rw [N.o];exact hlt);obtain⟨g2,o2,z,U,_,hx2,hat2⟩:=E.m.g.at_k (k:=k) (by rw [M.o];exact hlt);have q1:=hat1 0 (pI b) rfl;have q2:=hat2 0 (I_ z) rfl;rw [AT,pR] at q1 q2;rw [U] at c0;rw [O] at c1;have hsn:=Uw hx1 hx2;rw [O];clear E hat1 hat2 hx1 hx2 O U;cases b with
   | false=>
    have G:Hi (J (Hz s (k+1)) wr):=lH (by rw [hsn];simpa using D.o);clear hsn;gi_wp2;refine⟨(fun f hf=>by cases hf),?_⟩;gi_wp2;go_roundw;case rel=>exact⟨k+1,by go_num,by omega,G⟩
    case measure=>simp [intOf];omega
   | true=>
    have B:Hz s k++[((k:Int),z)] <+: usedL 0 s.used s.gens:=by
     have:=Xm s (by rw [N.o,M.o]) (k+1);rw [hsn] at this;exact this
    have aa:=Dq (HY.o _ _ _ D.o B);rw [show Hz s k++[((k:Int),z)]=Hz s (k+1) by rw [hsn];rfl] at aa B;obtain⟨ap,tmps,assign,body,hy,hR⟩:=aa;simp only [RQ] at hy;have T:=lH B;clear hsn B;gi_wp2;refine⟨ag,?_⟩;refine hR.mono ?_;rintro e W3 ⟨g,rfl,E,hF⟩;clear hR hy p0 c0 c1 c2 q1 q2;cases g with
    | false=>
     have af:=lH (hF.out rfl);clear E hF;gi_wp2;try rw [AY]
     go_end0
     exact⟨⟨_,rfl⟩,.inr ⟨_,T.o,af.out⟩⟩
    | true=>
     have G:=lH (E.out rfl);clear E hF;gi_wp2;go_roundw;case rel=>exact⟨k+1,by go_num,by omega,G⟩
     case measure=>simp [intOf];omega
  ·obtain rfl:k=gn:=bB;clear E;gi_wp2;try rw [AY]
   go_end0
   refine⟨⟨_,rfl⟩,.inl ?_⟩;have:=D.o;unfold Hz at this
   rwa [Ak (by rw [N.o];exact Aw _),Ak (by rw [M.o];exact Aw _)] at this
theorem SK(n pb tb:Nat)(v:DF)(s:Fz)(gn fn:Nat)(hg:gn<=1000):
  QL Bx n prog 170 #[pG (some (A_ pb 0))] RQ (usedL 0 s.used s.gens) (fun A=>A.cell? (A_ pb 0)=some (p_ tb 0)/\Kw A tb v s gn gn fn):=fun l J Jx W _ _ hV hY h0=>
 ZU n l pb tb v s gn fn hg J Jx W hV hY h0
def G2(used:List Bool)(met:List Int)(i:Int):Bool:=decide (0<=i)&&decide (i<used.length)&&!(used.getD i.toNat true)&&!decide (i∈met)
theorem RG(D:List Bool)(A B:List Int):∀(met:List Int),Fk D met (A++B)=(Fk D met A&&Fk D (met++A) B):=by
 induction A with
 | nil=>intro met;simp [Fk]
 | cons o A ih=>intro met;simp [Fk,ih,EJ]
theorem OZ{B:List Bool}{L:List Int}{k:Nat}{i:Int}(h:L[k]? = some i):Fk B [] (L.take (k+1))=(Fk B [] (L.take k)&&G2 B (L.take k) i):=by
 rw [A0 h,RG];simp [Fk,G2]
theorem KN{B:List Bool}{L:List Int}{k:Nat}{i:Int}(h:L[k]? = some i)(hb:G2 B (L.take k) i=false):Fk B [] L=false:=by
 have e:L=L.take (k+1)++L.drop (k+1):=(Dn _ _).symm;rw [e,RG,OZ h,hb];simp
theorem H8:∀(u:List Bool) (g:List Int) (i:Nat),u.length=g.length->(usedL i u g).length=u.count true
 | [],[],_,_=>rfl
 | true::u,_::g,i,h=>by simp only [usedL,Av,List.count_cons];rw [H8 u g (i+1) bK];simp
 | false::u,_::g,i,h=>by simp only [usedL,List.count_cons];rw [H8 u g (i+1) bK];simp
 | [],_::_,_,h=>by simp at h
 | _::_,[],_,h=>by simp at h
theorem ZE{w:World}{b:Nat}{B:List Int}(h:DV (pE .i64) w b B)(k:Int):(Ed 107 (.map (some b)) (I_ k) false).run prog w = .ok (pI (decide (k∈B))) w:=by
 have h1:=h.look KQ underlying107 underlying3 bC k;rw [h1]
theorem Vd{w:World}{b:Nat}{met:List Int}(h:DV (pE .i64) w b met)(k:Int)(hn:k∉met):∃o,(Instr.mapUpdate 107 (.map (some b)) (I_ k) (pI true)).run prog w = .ok () (w.putObj b o)/\DV (pE .i64) (w.putObj b o) b (met++[k]):=
 h.update KQ underlying107 underlying3 k hn
theorem ZD{w:World}{b:Nat}{B:List Int}(h:DV (pE .i64) w b B)(D:TypeId):(Builtin.len_ #[107] D #[.map (some b)]).run prog w = .ok (I_ (B.length:Nat)) w:=by
 obtain⟨E,c,hb,he⟩:=h;have hl:=congrArg List.length he;simp only [Bd,BX] at hl;simp [Builtin.len_,run_underlying underlying107,MapKept.run_getObj_map hb,goInt,hl]
structure iZ(w:World)(tb:Nat)(v:DF)(s:Fz)(gn fn nb pb:Nat)(m:Nat)(A:World):Prop where
 box:Blk A nb 3 #[pE pK ((gn:Int) - m)]
 st:DV (pE .i64) A w.heap.size s.free
 pb:A.cell? ⟨pb,0,none⟩=some (pG (some ⟨tb,0,none⟩))
 tab:Kw A tb v s gn gn fn
 kw:Aa [] w A
theorem iZ.keeps{w:World}{D:Nat}{v:DF}{s:Fz}{gn fn B pb m:Nat}{A E:World}{S:List Nat}(h:iZ w D v s gn fn B pb m A)(F:Kw w D v s gn gn fn)(hk:Aa S A E)(hS:∀y∈S,pb<y/\B<y/\w.heap.size<y):iZ w D v s gn fn B pb m E:=by
 have hkw:=h.kw.own hk (fun y hy=>by have:=(hS y hy).2.2;omega);exact⟨h.box.keeps hk (fun hm=>by have:=hS _ hm;omega),h.st.keeps hk (fun hm=>by have:=hS _ hm;omega),(hk.cell (p:=A_ pb 0) (Be _ _ h.pb) (fun hm=>by have:=hS _ hm;dsimp only at this;omega)).trans h.pb,F.keeps hkw,hkw⟩
theorem QQ(E:Nat)(v:DF)(s:Fz)(gn fn:Nat)(b:Bool)(hb:(Fk s.used [] s.free&&decide (s.gens.length=s.free.length+s.used.count true))=b)(w:World)(h:Kw w E v s gn gn fn):
  Calls prog 135 #[pG (some (A_ E 0))] w fun e w'=>e = pJ (pI b)/\Aa [] w w':=by
 refine(callsIn_wide (n:=9)).1 ?_;obtain⟨c0,c1,c2⟩:=h.cells;have T:gn<=1000:=by have:=h.m.sg;rw [h.lg] at this;exact this
 have aj:fn<=1000:=by have:=h.m.sf;rw [h.lf] at this;exact this
 have a0:=h.blk.lt;have D:=lH h;have HB:=lH hb;have az:=fun W=>run_makeMap (P:=prog) 107 W;clear h hb;refine callsIn_of_wp_marks func135 rfl trivial ?_ rfl;simp only [ntmps135,Cz,Av,D4,pL,pM,Bt,Bu,Cd,BD,BH,AL];gi_wp2
 gi_loopw [14] (fun i wr=>∃k:Nat,i = pE pK k/\k<=fn/\Hi (Fk s.used [] (s.free.take k)=true)/\Hi (DV (pE .i64) wr w (s.free.take k))/\Hi (Aa [] w wr)) (fun i _=>fn - (intOf i).toNat)
 case atStart=>exact⟨0,rfl,Ba _,lH rfl,lH (DV.new w),lH ((Aa.refl [] w).alloc _)⟩
 case round=>
  obtain⟨k,rfl,hk,HP,HST,HK⟩:=hrel;obtain⟨c0,c1,c2⟩:=(D.o.keeps HK.o).cells;by_cases hlt:k<fn
  ·have i1:(0:Int)<=(k:Int):=by omega
   have i2:(k:Int)<(fn:Int):=by omega
   obtain⟨g,off,x,ha,hg,hx,hat⟩:=D.o.m.f.at_k (k:=k) (by rw [D.o.lf];exact hlt);have q0:=hat 0 (pE pK x) rfl;rw [AT,pR] at q0;rw [<- HK.o.cell (p:=A_ g (off+k)) hg bA] at q0;rw [ha] at c2 ⊢;have X:=lH hx;have ad:Hi (s.used.length=gn):=lH D.o.lu;clear hat hg hx ha;by_cases hx0:x<0
   ·obtain rfl:b=false:=by rw [<- HB.o,KN X.o (by simp [G2];omega)];rfl
    gi_wp2;exact⟨_,by simp [results,results135,go_sem],rfl,HK.o⟩
   ·obtain⟨m,rfl⟩:∃m:Nat,x=m:=⟨x.toNat,by omega⟩
    have i3:¬(m:Int)<0:=by omega
    by_cases hxu:gn<=m
    ·have i4:(gn:Int)<=(m:Int):=by omega
     obtain rfl:b=false:=by rw [<- HB.o,KN X.o (by simp [G2,ad.o];omega)];rfl
     gi_wp2;exact⟨_,by simp [results,results135,go_sem],rfl,HK.o⟩
    ·have i4:¬(gn:Int)<=(m:Int):=by omega
     have i5:(0:Int)<=(m:Int):=by omega
     have i6:(m:Int)<(gn:Int):=by omega
     obtain⟨g1,o1,u,af,hg1,hx1,hat1⟩:=D.o.m.u.at_k (k:=m) (by rw [D.o.lu];omega);have q1:=hat1 0 (pI u) rfl;rw [AT,pR] at q1;rw [<- HK.o.cell (p:=A_ g1 (o1+m)) hg1 bA] at q1;rw [af] at c1;obtain⟨y,hy⟩:=eX (decide ((m:Int)∈s.free.take k));have hlk:=ZE HST.o (m:Int);rw [hy] at hlk;have N:G2 s.used (s.free.take k) (m:Int)=(!u&&!y):=by
      unfold G2;rw [hy,ad.o,decide_eq_true i5,decide_eq_true i6,pW,AO,hx1];simp
     have G:=lH N;have HY:=lH hy;clear hat1 hg1 hx1 af N hy hx0 hxu;cases u with
     | true=>
      obtain rfl:b=false:=by rw [<- HB.o,KN X.o (by rw [G.o];rfl)];rfl
      gi_wp2;exact⟨_,by simp [results,results135,go_sem],rfl,HK.o⟩
     | false=>
      cases y with
      | true=>
       obtain rfl:b=false:=by rw [<- HB.o,KN X.o (by rw [G.o];rfl)];rfl
       gi_wp2;exact⟨_,by simp [results,results135,go_sem],rfl,HK.o⟩
      | false=>
       obtain⟨o,a1,M⟩:=Vd HST.o (m:Int) (of_decide_eq_false HY.o);have al:Hi (Fk s.used [] (s.free.take (k+1))=true):=lH (by rw [OZ X.o,HP.o,G.o];rfl);have ab:Hi (DV (pE .i64) (wr.putObj w o) w (s.free.take (k+1))):=lH (by rw [A0 X.o];exact M);have HK2:=lH (HK.o.own (Ec _ w o) bF);clear M;gi_wp2;go_roundw;case rel=>exact⟨k+1,by go_num,by omega,al,ab,HK2⟩
       case measure=>simp [intOf];omega
  ·obtain rfl:k=fn:=by omega
   have hst:=HST.o;have hp:=HP.o;rw [Ak (by rw [D.o.lf];exact Aw _)] at hst hp;have ag:b=decide (gn=k+s.used.count true):=by rw [<- HB.o,hp,D.o.lg,D.o.lf];rfl
   have J:=H8 s.used s.gens 0 (by rw [D.o.lu,D.o.lg]);have HBB:=lH ag;have ac:=lH J;have U:=lH hst;clear hst hp ag J;gi_wp2_with (fail);refine⟨trivial,(callsIn_wide.2 (SJ _ _)).mono ?_⟩;rintro e w1 ⟨rfl,hw1⟩;gi_wp2_with (fail);have hsz:w1.heap.size=wr.heap.size+2:=by rw [<- hw1];simp
   have hwr:w.heap.size<wr.heap.size:=U.o.lt;have ae:iZ w E v s gn k wr (wr+1) 0 w1:=by
    have hk2:Aa [] wr w1:=by rw [<- hw1];exact((Aa.refl [] wr).alloc _).alloc _
    refine⟨?_,U.o.keeps hk2 bA,?_,D.o.keeps (HK.o.trans hk2),HK.o.trans hk2⟩
    ·rw [<- hw1];have:=(Blk.new wr 3 #[pE pK (gn:Int)]).alloc (.cells #[pG (some (A_ E 0))] 248);simpa using this
    ·rw [<- hw1];exact(Ar _ 248 _ _ bA).cell 0
   have ak:=lH ae;clear ae hw1;refine Cc rfl bB (gf:=170) (lb:=#[pG (some (A1 wr 0))]) rfl trivial (enters_of func170 bC rfl) (SK 8 (wr+1) E v s gn k T) (fun _=>rfl)
    (fun B A=>iZ w E v s gn k wr (wr+1) B.length A) (fun _ _=>False)
    (fun B A A' h hk=>h.keeps D.o hk bF)
    (fun B A A' h hk=>h)
    (fun B A h=>⟨h.pb,h.tab⟩) ak.o
    (fun x W=>({ tmps:=#[pG (some (A_ E 0)),UD,u2,.map (some w),UD,u5,pG (some (A_ wr 0)),.map (some w),pG (some (A_ E 0)),pG (some (A_ E 0)),pG (some (A_ E 0)),pG (some (A_ E 2)),pF v.fa k v.fc,pE pK (k:Int),pE pK (k:Int),pI false,u16,u17,u18,u19,u20,u21,u22,u23,u24,u25,u26,u27,u28,u29,u30,u31,u32,u33,u34,u35,u36,u37,u38,u39,u40,u41,u42,u43,u44,u45,u46,u47,pG (some (A_ E 0)),pG (some (A_ E 0)),pG (some (A_ E 0)),pG (some (A_ E 0)),pF v.ga gn v.gc,pE pK (gn:Int),pG (some (A_ E 0)),.func (.func 170) #[] #[pG (some (A1 wr 0))],pH #[pE pK x.1,pE pK x.2],UD,UD,UD,UD,UD,UD],defers:=[] },W))
    (fun x W=>Aa.refl [] W) ?assign ?body ?done ?stop
   case assign=>
    rintro l ⟨x1,x2⟩ W K hK;simp only [RQ];gi_wp2;exact hK
   case body=>
    rintro l B ⟨x1,x2⟩ W W2 hI Y aa hk2;dsimp only at hk2 ⊢;have O:=hI.keeps D.o hk2 bF;have an:B.length+1<=gn:=by
     have h1:=Y.length_le;rw [ac.o] at h1;have h2:=List.count_le_length (a:=true) (l:=s.used);have h3:=D.o.lu;simp only [Al,Bp] at h1;omega
    have d0:=O.box.ce 0;have f0:=O.box.frozen 0;obtain⟨x,hx⟩:∃x:Int,(gn:Int) - (B.length:Nat)=x:=⟨_,rfl⟩;rw [hx] at d0;have hx1:wrap64 (x - 1)=x - 1:=by unfold wrap64;omega
    have hx2:IntKind.i64.wrap (x - 1)=x - 1:=by rw [IntKind.wrap_i64];omega
    have X:=lH hx;have F:=lH O;have ah:W.heap.size<=W2.heap.size:=hk2.size;have am:=lH ah;clear hI hk2 O hx an ah;gi_wp2;have hk4:Aa [wr.heap.size] W2 (W2.setCell (A_ wr 0) (pE pK (x - 1))):=(Aa.refl _ W2).setCell (p:=A_ wr 0) (.inl bA) _;have hkw:=F.o.kw.own hk4 bF;refine⟨hk4.size,fun y hy=>hk4.block y ?_ ?_,?_,F.o.st.keeps hk4 bI,(hk4.cell (p:=A1 wr 0) (Be _ _ F.o.pb) bA).trans F.o.pb,D.o.keeps hkw,hkw⟩
    ·simp only [Ac,Ab,or_false] at hy
     have h9:=am.o;omega
    ·simp only [Ac,Ab,or_false] at hy ⊢;omega
    ·have:=F.o.box.set_ 0 (pE pK (x - 1))
     rw [Al,Bp];rw [show(gn:Int) - ((B.length+1:Nat):Int)=x - 1 by have:=X.o;omega];exact this
   case done=>
    rintro W hI aa hK;have d0:=hI.box.ce 0;rw [ac.o] at d0;have hln:=fun ty=>ZD hI.st ty;rw [D.o.lf] at hln;obtain⟨x,hx⟩:∃x:Int,(gn:Int) - ((s.used.count true:Nat):Int)=x:=⟨_,rfl⟩;rw [hx] at d0;have aq:(x==(k:Int))=b:=by rw [HBB.o,<- hx,DI,beq_iff_eq,decide_eq_true_eq];omega
    have F:=lH hI;clear hI hx;gi_wp2;refine⟨by simp,.inl ⟨_,_,rfl,run_takeDeferred hK,?_⟩⟩;have hk4:=AG (S:=[w1.heap.size]) W (.deferred none) (l:=w1.heap.size) bA;refine⟨_,by simp [results,results135,go_sem],rfl,F.o.kw.own hk4 bF⟩
   case stop=>
    rintro B W Y hX aa hK;exact hX.elim
def QT:Array Value:=#[.func (.func 133) #[] #[],.func (.func 134) #[] #[],.func (.func 135) #[] #[]]
theorem Uo(E:Nat)(v:DF)(s:Fz)(gn un fn O:Nat)(ty:TypeId)(b:Bool)(hb:Dv s=b)(w:World)(h:Kw w E v s gn un fn)(hf:Blk w O ty QT):
  Calls prog 132 #[pG (some (A_ E 0)),pF (some (A_ O 0)) 3 3] w fun e w'=>e = pJ (pI b)/\Aa [] w w':=by
 have G:=lH h;have F:=lH hf;obtain⟨J,h1⟩:=eX (Mj gn un);obtain⟨M,h2⟩:=eX (UN s.gens);obtain⟨b3,h3⟩:=eX ((Fk s.used [] s.free&&decide (s.gens.length=s.free.length+s.used.count true)));have D:b=(J&&(M&&b3)):=by
  rw [<- hb,<- h1,<- h2,<- h3];unfold Dv Mj;rw [h.lg,h.lu];simp only [EJ]
 have HBB:=lH D;have N:=lH h1;have H2:=lH h2;have Y:=lH h3;clear h hf h1 h2 h3 hb D;go_enter func132,ntmps132;go_wp2;refine wp_loop_rounds 4 ?_;rw [rounds_succ];have T:=F.o.cell 0;simp only [QT,An,Aj] at T;go_wp2_with fail;refine(TE E v s gn un fn J N.o _ G.o).mono ?_;rintro e w1 ⟨rfl,hk1⟩;clear T;have HK1:=lH hk1;clear hk1;cases J with
 | false=>
  obtain rfl:b=false:=HBB.o;go_wp2;go_ret;exact⟨rfl,HK1.o⟩
 | true=>
  go_wp2_with fail;rw [rounds_succ];have U:=(F.o.keeps HK1.o bA).cell 1;simp only [QT,An,Aj,Ao] at U;go_wp2_with fail;refine(QR E v s gn un fn M H2.o _ (G.o.keeps HK1.o)).mono ?_;rintro e w2 ⟨rfl,rfl⟩;clear U;cases M with
  | false=>
   obtain rfl:b=false:=HBB.o;go_wp2;go_ret;exact⟨rfl,HK1.o⟩
  | true=>
   go_wp2_with fail;rw [rounds_succ];have X:=(F.o.keeps HK1.o bA).cell 2;simp only [QT,An,Aj,Ao] at X;obtain rfl:un=gn:=by
    have:=N.o;simp only [Mj,Af,decide_eq_true_eq] at this;omega
   go_wp2_with fail;refine(QQ E v s un fn b3 Y.o _ (G.o.keeps HK1.o)).mono ?_;rintro e w3 ⟨rfl,hk3⟩;clear X;have B:=lH (HK1.o.trans hk3);clear hk3;obtain rfl:b=b3:=HBB.o;cases b with
   | false=>
    go_wp2;go_ret;exact⟨rfl,B.o⟩
   | true=>
    go_wp2_with fail;rw [rounds_succ];go_wp2;go_ret;exact⟨rfl,B.o⟩
theorem DR(v:DF)(s:Fz)(gn un fn:Nat)(hg:s.gens.length=gn)(hu:s.used.length=un)(hf:s.free.length=fn)(b:Bool)(hb:Dv s=b)(w:World)(h:Dy w v s):
  Calls prog 78 #[pH (S_ v gn un fn)] w fun e w'=>e = pJ (pI b)/\Aa [] w w':=by
 have hk:=(((Aa.refl [] w).alloc (.cells (S_ v gn un fn) 26)).alloc (.cells (S_ v gn un fn) 250)).alloc (.cells QT 254);have HC:=lH (fun W (hkk:Aa [] w W) (hb1:Blk W (w+1) 250 (S_ v gn un fn)) (hb2:Blk W (w+1+1) 254 QT)=>Uo (w+1) v s gn un fn (w+1+1) 254 b hb W ⟨hb1,h.keeps hkk,hg,hu,hf⟩ hb2);have HK:=lH hk;have HB1:=lH ((Ar (w.alloc (.cells (S_ v gn un fn) 26)) 250 (S_ v gn un fn) (w+1) bA).alloc (.cells QT 254));have HB2:=lH (Ar ((w.alloc (.cells (S_ v gn un fn) 26)).alloc (.cells (S_ v gn un fn) 250)) 254 QT (w+1+1) bA);clear hk h hb hg hu hf;go_enter func78,ntmps78;go_wp2_with fail;refine(HC.o _ HK.o HB1.o HB2.o).mono ?_;rintro e w1 ⟨rfl,hk1⟩;have HK1:=lH (HK.o.trans hk1);clear hk1;go_wp2;go_ret;exact⟨rfl,HK1.o⟩
def Hr(l:Int)(L:List El):Int:=(L.getLast?.map (·.id)).getD l
def J6(met:List Int)(last:Int)(c:El):Bool:=!met.contains c.id&&decide (last<=c.id)
theorem PT:∀(A B:List El) (m:List Int) (l:Int),CT m l (A++B)=(CT m l A&&CT (m++A.map (·.id)) (Hr l A) B)
 | [],B,m,l=>by simp [CT,Hr]
 | c::A,B,m,l=>by
  have h:Hr l (c::A)=Hr c.id A:=by
   unfold Hr;rw [List.getLast?_cons];cases A.getLast?<;>rfl
  rw [AL,CT,CT,PT A B,h];simp only [CR,EJ];rw [CC];rfl
theorem cE(m:List Int)(l:Int)(c:El):CT m l [c]=J6 m l c:=by simp [CT,J6]
theorem Rj{L:List El}{k:Nat}{c:El}(h:L[k]? = some c):CT [] 0 (L.take (k+1))=(CT [] 0 (L.take k)&&J6 ((L.take k).map (·.id)) (Hr 0 (L.take k)) c):=by
 rw [A0 h,PT,cE,BH]
theorem UF{L:List El}{k:Nat}{c:El}(h:L[k]? = some c)(hb:J6 ((L.take k).map (·.id)) (Hr 0 (L.take k)) c=false):CT [] 0 L=false:=by
 have h2:=Rj h;rw [hb,Bool.and_false] at h2;rw [<- Dn (k+1) L,PT,h2,Ep]
theorem Ws{L:List El}{k:Nat}{c:El}(h:L[k]? = some c):Hr 0 (L.take (k+1))=c.id:=by
 rw [A0 h];simp [Hr]
theorem Kb(a:Option Addr)(c:Nat)(L:List El)(n:Nat)(hn:L.length=n)(hL:n<=1000000)(b:Bool)(hb:DK L=b)(w:World)(h:Hg w a c L):
  Calls prog 139 #[pF a n c] w fun e w'=>e = pJ (pI b)/\Aa [] w w':=by
 have HH:=lH h;have HN:=lH hn;have HB:=lH hb;clear h hn hb;have al:=fun W=>run_makeMap (P:=prog) 107 W;have ad:Hi (DV (pE .i64) (w.alloc (.map #[] 0)) w ([]:List Int)):=lH (DV.new w);go_enter func139,ntmps139;go_wp2;go_loopw [10,4] (fun i l wr=>∃k:Nat,i = I_ k/\k<=n/\l = I_ (Hr 0 (L.take k))/\Hi (CT [] 0 (L.take k)=true)/\Hi (DV (pE .i64) wr w ((L.take k).map (·.id)))/\Hi (Aa [] w wr)) (fun i _ _=>n - (intOf i).toNat)
 case atStart=>exact⟨0,rfl,Ba _,rfl,lH rfl,ad,lH ((Aa.refl [] w).alloc _)⟩
 case round=>
  obtain⟨k,rfl,hk,G,HP,HST,HK⟩:=hrel;obtain⟨la,M⟩:=eX (Hr 0 (L.take k));rw [M] at G;obtain rfl:=G;have af:=lH M;clear M;by_cases hlt:k<n
  ·obtain⟨g,off,⟨id,O,N,T⟩,rfl,hg,hx,hat⟩:=HH.o.at_k (k:=k) bO
   have q0:=hat 0 (I_ id) rfl;have q1:=hat 1 (Dz O) rfl;have q2:=hat 2 (I_ N) rfl;have q3:=hat 3 (I_ T) rfl;rw [AT] at q0;rw [<- HK.o.cell (p:=A_ g (off+k*4)) hg bA] at q0;rw [<- HK.o.cell (p:=A_ g (off+k*4+1)) hg bA] at q1;rw [<- HK.o.cell (p:=A_ g (off+k*4+2)) hg bA] at q2;rw [<- HK.o.cell (p:=A_ g (off+k*4+3)) hg bA] at q3;have i1:(0:Int)<=(k:Int):=bB;have i2:(k:Int)<(n:Int):=bB;have Y:=lH hx;have hk0:=(Aa.refl [] wr).alloc (.cells #[pE pK id,Dz O,I_ N,I_ T] 209);have B:=HST.o.keeps hk0 bA;have E:=Blk.new wr 209 #[pE pK id,Dz O,I_ N,I_ T];have d0:=E.ce 0;have d1:=E.ce 1;have hlk:=ZE B id;obtain⟨y2,F⟩:=eX (decide (id∈(L.take k).map (·.id)));obtain⟨y3,ah⟩:=eX (decide (id<la));rw [F] at hlk;have hst:J6 ((L.take k).map (·.id)) (Hr 0 (L.take k)) ⟨id,O,N,T⟩=(!y2&&!y3):=by
    unfold J6;rw [af.o,List.contains_eq_mem,F,<- ah]
    congr 1
    rw [<- decide_not];exact decide_eq_decide.2 bH
   have HOS:=lH hst;have HY2:=lH F;have HK0:=lH (HK.o.alloc (.cells #[pE pK id,Dz O,I_ N,I_ T] 209));have X:=lH B;have ac:=lH E;have U:Hi (w.heap.size<wr.heap.size):=lH HST.o.lt;clear hat hg hx hk0 B E F hst;cases y2 with
   | true=>
    obtain rfl:b=false:=by rw [<- HB.o];unfold DK;rw [UF Y.o lV];rfl
    go_wp2;go_ret;exact⟨rfl,HK0.o⟩
   | false=>
    cases y3 with
    | true=>
     obtain rfl:b=false:=by rw [<- HB.o];unfold DK;rw [UF Y.o lV];rfl
     go_wp2;go_ret;exact⟨rfl,HK0.o⟩
    | false=>
     obtain⟨o,am,D⟩:=Vd (X.o.keeps ((Aa.refl [] _).drew) bA) id (of_decide_eq_false HY2.o);have ag:Hi (CT [] 0 (L.take (k+1))=true):=lH (by rw [Rj Y.o,HP.o,HOS.o];rfl);have J:Hi (DV (pE .i64) ((wr.alloc (.cells #[pE pK id,Dz O,I_ N,I_ T] 209)).drew.putObj w o) w ((L.take (k+1)).map (·.id))):=lH (by rw [A0 Y.o,pO];exact D);have ae:Hi (Hr 0 (L.take (k+1))=id):=lH (Ws Y.o);have HK2:=lH (HK0.o.drew.own (Ec _ w o) bF);have e0:=(ac.o.drew.keeps (Ec _ w o) (by have:=U.o;simp only [Ac,Ab,or_false];omega)).ce 0;clear D;go_wp2;go_region;go_wp2;go_roundw;case rel=>exact⟨k+1,by go_num,by omega,by rw [ae.o],ag,J,HK2⟩
     case measure=>simp [intOf];omega
  ·obtain rfl:k=n:=bB;have aa:CT [] 0 L=true:=by
    have:=HP.o
    rwa [Ak bL] at this
   obtain⟨y,hy⟩:=eX (L.all IR);have ab:b=(decide (k<=4)&&y):=by rw [<- HB.o];unfold DK;rw [aa,hy,HN.o];rfl
   have HBB:=lH ab;have HY:=lH hy;clear aa hy ab;by_cases h10:k<=4
   ·have i3:(k:Int)<=4:=bB;obtain rfl:b=y:=by rw [HBB.o,decide_eq_true h10];rfl
    have HF:=lH (Blk.new wr 313 Vy);have HKF:=lH (HK.o.alloc (.cells Vy 313));clear h10;go_wp2_with fail;refine(Rn a c L k HN.o hL _ _ b HY.o _ (HH.o.keeps HKF.o) HF.o).mono ?_;rintro e w1 ⟨rfl,hk1⟩;have HK1:=lH (HKF.o.trans hk1);clear hk1;go_wp2;go_ret;exact⟨rfl,HK1.o⟩
   ·have i3:¬(k:Int)<=4:=bB;obtain rfl:b=false:=by rw [HBB.o,decide_eq_false h10];rfl
    clear h10;go_wp2;go_ret;exact⟨rfl,HK.o⟩
theorem Nl(s:ByteArray)(b:Bool)(hb:IK s=b)(w:World):Calls prog 137 #[Dz s] w fun e w'=>e = pJ (pI b)/\Aa [] w w':=by
 have HB:=lH hb;clear hb;by_cases h0:s=⟨#[]⟩
 ·obtain rfl:b=false:=by rw [<- HB.o];simp [IK,h0]
  subst h0;clear HB;go_enter func137,ntmps137;go_wp2;go_ret;exact⟨rfl,Aa.refl [] w⟩
 ·have hne:=Vf h0
  by_cases h1:s.size<=40
  ·obtain⟨y,hy⟩:=eX (Gi s)
   obtain rfl:b=y:=by rw [<- HB.o,<- hy,Pa];simp [IK,h0,h1]
   have B:=lH hy;have i1:(s.size:Int)<=40:=bB;have hs:s.size<=maxLen:=by unfold maxLen;omega
   clear h0 h1 hy HB;go_enter func137,ntmps137;go_wp2_with fail;refine(Od s hs b B.o _).mono ?_;rintro e w1 ⟨rfl,hk⟩;have HK:=lH hk;clear hk;go_wp2;go_ret;exact⟨by(show pJ (pI (!s.toList.isEmpty&&b))=_;rw [E9.2 hne];rfl),HK.o⟩
  ·obtain rfl:b=false:=by rw [<- HB.o];simp [IK,h1]
   have i1:¬(s.size:Int)<=40:=bB;clear h0 h1 HB;go_enter func137,ntmps137;go_wp2;go_ret;exact⟨by(show pJ (pI _)=_;simp),Aa.refl [] w⟩
theorem O0(v:TV)(seq:Int)(b:Bool)(hb:(decide (1<=v.version)&&decide (v.version<=seq))=b)(w:World):Calls prog 81 #[pH (U_ v seq)] w fun e w'=>e = pJ (pI b)/\Aa [] w w':=by
 have HK:=lH ((Aa.refl [] w).alloc (.cells (U_ v seq) 166));obtain⟨b1,h1⟩:=eX (decide (1<=v.version));rw [h1] at hb;have f1:decide (v.version≥1)=b1:=h1;clear h1;cases b1<;>simp only [Ep,DJ] at hb<;>
 ·subst hb
  go_enter func81,ntmps81;go_wp2;go_ret;exact⟨rfl,HK.o⟩
def NV(st dl:Int):Bool:=decide (1<=st)&&(decide (st<=3)&&(decide (0<=dl)&&(decide (dl<=1000000000000)&&(decide (dl=0)||decide (st=3)))))
theorem O1(v:TV)(seq:Int)(b:Bool)(hb:NV v.state v.deadline=b)(w:World):Calls prog 82 #[pH (U_ v seq)] w fun e w'=>e = pJ (pI b)/\Aa [] w w':=by
 have HK:=lH ((Aa.refl [] w).alloc (.cells (U_ v seq) 166));obtain⟨E,hst⟩:=eX v.state;obtain⟨D,B⟩:=eX v.deadline;rw [hst,B] at hb HK;rw [hst,B];clear hst B;unfold NV at hb;obtain⟨b1,h1⟩:=eX (decide (1<=E));obtain⟨J,h2⟩:=eX (decide (E<=3));obtain⟨b3,h3⟩:=eX (decide (0<=D));obtain⟨M,h4⟩:=eX (decide (D<=1000000000000));obtain⟨b5,F⟩:=eX (decide (D=0));obtain⟨b6,G⟩:=eX (decide (E=3));rw [h1,h2,h3,h4,F,G] at hb;have f1:decide (E≥1)=b1:=h1;have N:decide (D≥0)=b3:=h3;have O:(D==0)=b5:=by rw [<- F,DI];simp
 have T:(E==3)=b6:=by rw [<- G,DI];simp
 clear h1 h3 F G;cases b1 with
 | false=>
  simp only [Ep,DJ] at hb;subst hb;go_enter func82,ntmps82;go_wp2;go_ret;exact⟨rfl,HK.o⟩
 | true=>
  cases J with
  | false=>
   simp only [Ep,DJ] at hb;subst hb;go_enter func82,ntmps82;go_wp2;go_ret;exact⟨rfl,HK.o⟩
  | true=>
   cases b3 with
   | false=>
    simp only [Ep,DJ] at hb;subst hb;go_enter func82,ntmps82;go_wp2;go_ret;exact⟨rfl,HK.o⟩
   | true=>
    cases M with
    | false=>
     simp only [Ep,DJ] at hb;subst hb;go_enter func82,ntmps82;go_wp2;go_ret;exact⟨rfl,HK.o⟩
    | true=>
     simp only [Ep,DJ] at hb;cases b5<;>cases b6<;>simp only [Bool.false_or,Bool.true_or] at hb<;>
     ·subst hb
      go_enter func82,ntmps82;go_wp2;go_ret;exact⟨rfl,HK.o⟩
theorem RO(v:TV)(t:Ten)(seq:Int)(hs:t.rules.length<=1000/\t.creds.length<=1000)(b:Bool)(hb:(IK v.name&&(Ew t.rules&&DK t.creds))=b)(w:World)(h:Cj w v t):Calls prog 83 #[pH (U_ v seq)] w fun e w'=>e = pJ (pI b)/\Aa [] w w':=by
 obtain⟨G,h1⟩:=eX (IK v.name);obtain⟨J,h2⟩:=eX (Ew t.rules);obtain⟨b3,h3⟩:=eX (DK t.creds);rw [h1,h2,h3] at hb;have N:=lH (Nl v.name G h1);have H2:=lH (fun W (hk:Aa [] w W)=>JU v.ra v.rc t.rules v.rl h.rl (by have:=h.rl;omega) J h2 W (h.rs.keeps hk));have O:=lH (fun W (hk:Aa [] w W)=>Kb v.ca v.cc t.creds v.cl h.cl (by have:=h.cl;omega) b3 h3 W (h.cs.keeps hk));have HB:=lH hb;have HK0:=lH ((Aa.refl [] w).alloc (.cells (U_ v seq) 166));have D:=lH (Blk.new w 166 (U_ v seq));have T:=D.o.ce 2;clear h1 h2 h3 hb h hs;go_enter func83,ntmps83;go_wp2_with fail;refine(N.o _).mono ?_;rintro e w1 ⟨rfl,hk1⟩;have HK1:=lH (HK0.o.trans hk1);have B:=D.o.keeps hk1 bA;have U:=B.ce 5;have M:=B.ce 6;have E:=lH B;clear hk1 B T;cases G with
 | false=>
  obtain rfl:b=false:=by rw [<- HB.o];rfl
  go_wp2;go_ret;exact⟨rfl,HK1.o⟩
 | true=>
  go_wp2_with fail;refine(H2.o _ HK1.o).mono ?_;rintro e w2 ⟨rfl,hk2⟩;have HK2:=lH (HK1.o.trans hk2);have B:=E.o.keeps hk2 bA;clear U M;have M:=B.ce 6;clear hk2 B;cases J with
  | false=>
   obtain rfl:b=false:=by rw [<- HB.o];rfl
   go_wp2;go_ret;exact⟨rfl,HK2.o⟩
  | true=>
   obtain rfl:b=b3:=by rw [<- HB.o];rfl
   go_wp2_with fail;refine(O.o _ HK2.o).mono ?_;rintro e w3 ⟨rfl,hk3⟩;have F:=lH (HK2.o.trans hk3);clear hk3;go_wp2;go_ret;exact⟨rfl,F.o⟩
def XH:Array Value:=#[.func (.func 81) #[] #[],.func (.func 82) #[] #[],.func (.func 83) #[] #[]]
theorem eS{w:World}{v:TV}{t:Ten}(h:Cj w v t)(seq:Int):Gq seq t=((decide (1<=v.version)&&decide (v.version<=seq))&&(NV v.state v.deadline&&(IK v.name&&(Ew t.rules&&DK t.creds)))):=by
 unfold Gq EM FG Hf NV;rw [h.version,h.state,h.deadline,h.name];simp only [EJ]
theorem Uu(v:TV)(t:Ten)(seq:Int)(hs:t.rules.length<=1000/\t.creds.length<=1000)(fb:Nat)(ty:TypeId)(b:Bool)(hb:Gq seq t=b)(w:World)(h:Cj w v t)(hf:Blk w fb ty XH):Calls prog 80 #[pH (U_ v seq),pF (some (A_ fb 0)) 3 3] w fun e w'=>e = pJ (pI b)/\Aa [] w w':=by
 obtain⟨wz,hwz⟩:=eX ((w.alloc (.cells (U_ v seq) 166)));have HK0:Hi (Aa [] w wz):=lH jV;have hb0:Blk wz w 166 (U_ v seq):=by rw [<- hwz];exact Blk.new w _ _
 have hb1:Blk wz fb ty XH:=hf.keeps HK0.o bA;obtain⟨b1,h1⟩:=eX ((decide (1<=v.version)&&decide (v.version<=seq)));obtain⟨b2,h2⟩:=eX (NV v.state v.deadline);obtain⟨b3,h3⟩:=eX ((IK v.name&&(Ew t.rules&&DK t.creds)));rw [eS h seq,h1,h2,h3] at hb;have H1:=lH h1;have H2:=lH h2;have H3:=lH h3;have HB:=lH hb;have HT:=lH h;have HSZ:=lH hs;clear h1 h2 h3 hb hf h hs;have HB0:=lH hb0;have HB1:=lH hb1;clear hb0 hb1;go_enter func80,ntmps80;go_wp2;refine wp_loop_rounds 4 ?_;rw [rounds_succ];have hb0:=HB0.o;have hb1:=HB1.o;clear hwz;have T:=hb1.cell 0;have U:=hb1.cell 1;have X:=hb1.cell 2;have B:=hb0.cell 0;have D:=hb0.cell 1;have E:=hb0.cell 2;have F:=hb0.cell 3;have G:=hb0.cell 4;have J:=hb0.cell 5;have M:=hb0.cell 6;have N:=hb0.cell 7;have O:=hb0.cell 8;simp only [XH,An,Aj,Ao] at T U X B D E F G J M N O;have Y:=lH hb0;have ac:=lH hb1;clear hb0 hb1;go_wp2_with fail;refine(O0 v seq b1 H1.o _).mono ?_;rintro e w1 ⟨rfl,hk1⟩;have HK1:=lH (HK0.o.trans hk1);have hb0:=Y.out.keeps hk1 bA;have hb1:=ac.out.keeps hk1 bA;clear T U X B D E F G J M N O hk1;cases b1 with
 | false=>
  obtain rfl:b=false:=by rw [<- HB.o];simp
  go_wp2;go_ret;exact⟨rfl,HK1.o⟩
 | true=>
  go_wp2_with fail;rw [rounds_succ];have T:=hb1.cell 0;have U:=hb1.cell 1;have X:=hb1.cell 2;have B:=hb0.cell 0;have D:=hb0.cell 1;have E:=hb0.cell 2;have F:=hb0.cell 3;have G:=hb0.cell 4;have J:=hb0.cell 5;have M:=hb0.cell 6;have N:=hb0.cell 7;have O:=hb0.cell 8;simp only [XH,An,Aj,Ao] at T U X B D E F G J M N O;have aa:=lH hb0;have ad:=lH hb1;clear hb0 hb1;go_wp2_with fail;refine(O1 v seq b2 H2.o _).mono ?_;rintro e w2 ⟨rfl,hk2⟩;have HK2:=lH (HK1.o.trans hk2);have hb0:=aa.out.keeps hk2 bA;have hb1:=ad.out.keeps hk2 bA;clear T U X B D E F G J M N O hk2;cases b2 with
  | false=>
   obtain rfl:b=false:=by rw [<- HB.o];simp
   go_wp2;go_ret;exact⟨rfl,HK2.o⟩
  | true=>
   go_wp2_with fail;rw [rounds_succ];have T:=hb1.cell 0;have U:=hb1.cell 1;have X:=hb1.cell 2;have B:=hb0.cell 0;have D:=hb0.cell 1;have E:=hb0.cell 2;have F:=hb0.cell 3;have G:=hb0.cell 4;have J:=hb0.cell 5;have M:=hb0.cell 6;have N:=hb0.cell 7;have O:=hb0.cell 8;simp only [XH,An,Aj,Ao] at T U X B D E F G J M N O;have ab:=lH hb0;have ae:=lH hb1;clear hb0 hb1;go_wp2_with fail;refine(RO v t seq HSZ.o b3 H3.o _ (HT.o.keeps HK2.o)).mono ?_;rintro e w3 ⟨rfl,hk3⟩;have af:=lH (HK2.o.trans hk3);have hb0:=ab.out.keeps hk3 bA;have hb1:=ae.out.keeps hk3 bA;clear T U X B D E F G J M N O hk3;cases b3 with
   | false=>
    obtain rfl:b=false:=by rw [<- HB.o];simp
    go_wp2;go_ret;exact⟨rfl,af.o⟩
   | true=>
    go_wp2_with fail;rw [rounds_succ];obtain rfl:b=true:=by rw [<- HB.o];rfl
    go_wp2;go_ret;exact⟨rfl,af.o⟩
def tv0:TV:=⟨0,0,⟨#[]⟩,0,0,none,0,0,none,0,0,0⟩
def Mg(lv:List TV)(seq:Int)(k:Nat):Array Value:=(fun v:TV=>#[pE pK (k:Int),pH (U_ v seq)]) (lv.getD k tv0)
theorem E8{n:Nat}{B:List Nat}{x:Nat}(h:B++[x] <+: AC n):B=AC x/\x<n:=by
 have hl:B.length+1<=n:=by have:=h.length_le;simpa using this
 have h1:=List.prefix_iff_eq_take.1 h;rw [Al,Bp,List.take_range,DE hl,B3] at h1;obtain⟨h2,h3⟩:=List.append_inj h1 bA;injection h3 with h3
 subst h3;exact⟨h2,by omega⟩
theorem BZ{n k:Nat}(h:k<n):AC k++[k] <+: AC n:=by
 rw [<- B3];exact List.prefix_iff_eq_take.2 (by rw [AP,List.take_range,DE bB])
theorem FU(v:B6)(r:CJ)(gn un fn ln:Nat)(w:World):Calls prog 79 #[pH (R_ v gn un fn ln r.seq)] w fun e w'=>e = pJ (.func (.func 136) #[] #[pG (some (A_ w 0))])/\w.alloc (.cells (R_ v gn un fn ln r.seq) 29)=w':=by
 go_enter func79,ntmps79;go_wp2;go_ret;exact⟨rfl,rfl⟩
def jH(pb:Nat)(la:Option Addr)(lc ln:Nat)(lv:List TV)(seq:Int)(A:World):Prop:=A.cell? ⟨pb,3,none⟩=some (pF la ln lc)/\A.cell? ⟨pb,4,none⟩=some (pE pK seq)/\AR BE 8 A la lc lv
theorem SF(n l pb:Nat)(la:Option Addr)(lc ln:Nat)(lv:List TV)(hln:lv.length=ln)(O:ln<=1000)(seq:Int)(J Y:List Nat->World->Prop)(W:World)(hJ:PG [] J)(hV:∀z A,J z A->jH pb la lc ln lv seq A)
 (hY:∀pre x W1,J pre W1->pre++[x] <+: AC ln->YieldAt Bx (n - 1) prog l (Mg lv seq x) W1 fun e W'=>
   (e = pJ (pI true)/\J (pre++[x]) W')\/(e = pJ (pI false)/\Y (pre++[x]) W'))
 (h0:J [] W):
  CallsIn Bx n prog 136 #[.func (.yield l) #[] #[],p_ pb 0] W fun e W'=>(∃v,e = pJ v)/\
   (J (AC ln) W'\/(∃pre,pre <+: AC ln/\Y pre W')):=by
 have HV:=lH hV;have HY:=lH hY;have HST:=lH hJ;have HLN:=lH hln;have G:Hi (J (AC 0) W):=lH (by simpa using h0);obtain⟨N,F,_⟩:=hV _ _ h0;clear hV hY h0 hJ hln;have X:Fence.wide.depth.isSome=true->1<=n:=by intro h;cases h
 refine callsIn_of_wp func136 rfl trivial ?_ rfl;simp only [ntmps136,Cz,Av,D4,pL,pM,Bt,Bu,Cd,BD,BH,AL];gi_wp2;refine BW (wpIn_seq (wpIn_label ?_));gi_wp2
 gi_loopw [8] (fun i wr=>∃k:Nat,i = I_ k/\k<=ln/\Hi (J (AC k) wr)) (fun i _=>ln - (intOf i).toNat)
 case atStart=>exact⟨0,rfl,Ba _,G⟩
 case round=>
  obtain⟨k,rfl,hk,B⟩:=hrel;clear N F;by_cases hlt:k<ln
  ·have i1:(0:Int)<=(k:Int):=bB;have i2:(k:Int)<(ln:Int):=bB;obtain⟨N,F,hS⟩:=HV.o _ _ B.o;obtain⟨g1,o1,v,rfl,hg1,hx1,hat1⟩:=hS.at_k (k:=k) (by rw [HLN.o];exact hlt);have q0:=hat1 0 _ rfl;have q1:=hat1 1 _ rfl;have q2:=hat1 2 _ rfl;have q3:=hat1 3 _ rfl;have q4:=hat1 4 _ rfl;have q5:=hat1 5 _ rfl;have q6:=hat1 6 _ rfl;have q7:=hat1 7 _ rfl;rw [AT] at q0;have hk0:=(Aa.refl [] wr).alloc (.cells (T_ v) 131);have e4:=Ct F (.cells (T_ v) 131);have D:=HST.o _ _ _ B.o hk0;have hgd:lv.getD k tv0=v:=by rw [AO,hx1];rfl
   have E:=Dq (HY.o _ _ _ D (BZ hlt));rw [<- B3] at E;obtain⟨ag,tmps,assign,body,hy,hR⟩:=E;simp only [Mg,hgd] at hy;clear hS hat1 hx1 hg1 hk0 D hgd;gi_wp2;refine⟨X,?_⟩;refine hR.mono ?_;rintro e W3 ⟨g,rfl,U,hF⟩;clear hR hy N F q0 q1 q2 q3 q4 q5 q6 q7 e4;cases g with
   | false=>
    have T:=lH (hF.out rfl);clear U hF;gi_wp2;try rw [AY]
    go_end0
    exact⟨⟨_,rfl⟩,.inr ⟨_,by rw [B3];exact BZ hlt,T.out⟩⟩
   | true=>
    have M:=lH (U.out rfl);clear U hF;gi_wp2;go_roundw;case rel=>exact⟨k+1,by go_num,by omega,M⟩
    case measure=>simp [intOf];omega
  ·obtain rfl:k=ln:=bB;gi_wp2;try rw [AY]
   go_end0
   exact⟨⟨_,rfl⟩,.inl B.o⟩
theorem FV(n pb:Nat)(la:Option Addr)(lc ln:Nat)(lv:List TV)(hln:lv.length=ln)(h1000:ln<=1000)(seq:Int):
  QL Bx n prog 136 #[pG (some (A_ pb 0))] (Mg lv seq) (AC ln) (jH pb la lc ln lv seq):=fun l J Jx W hJ _ hV hY h0=>
 SF n l pb la lc ln lv hln h1000 seq J Jx W hJ hV hY h0
theorem GR{a b:ByteArray}(h:¬a=b):¬a.toList=b.toList:=fun e=>h (by
 rw [ED,ED] at e;obtain⟨⟨l⟩⟩:=a;obtain⟨⟨m⟩⟩:=b;have e2:l=m:=e;rw [e2])
theorem OX{α:Type}{p:α->Bool}{L:List α}{k:Nat}{x:α}(h:L[k]? = some x)(hf:(L.take k).find? p=none):(L.take (k+1)).find? p=if p x then some x else none:=by
 rw [A0 h,List.find?_append,hf];simp [List.find?_cons];split<;>simp_all
theorem cL{α:Type}{p:α->Bool}{L:List α}{k:Nat}{x:α}(h:L[k]? = some x)(hf:(L.take k).find? p=none)(hp:p x=true):L.find? p=some x:=by
 have e:L=L.take (k+1)++L.drop (k+1):=(Dn _ _).symm;rw [e,List.find?_append,OX h hf,hp];rfl
theorem Pj(a:Option Addr)(c:Nat)(L:List GF)(n:Nat)(hn:L.length=n)(hL:n<=1000000)(hs:∀o∈L,o.name.size<=maxLen)(B:ByteArray)(r e:Int)(hr:BM L B=(r,e))(w:World)(h:IE w a c L):
  Calls prog 19 #[pF a n c,Dz B] w fun x w'=>x = pJ (.tuple #[pE pK r,I_ e])/\Aa [] w w':=by
 have HH:=lH h;have HN:=lH hn;obtain⟨b,hb⟩:=eX (G9 L);have HB:=lH hb;have HS:=lH hs;have HR:=lH hr;clear h hn hb hs hr;go_enter func19,ntmps19;go_wp2_with fail;refine(Kg a c L n HN.o hL HS.o b HB.o w HH.o).mono ?_;rintro x w1 ⟨rfl,hk⟩;have HK:=lH hk;clear hk;cases b with
 | false=>
  obtain⟨rfl,rfl⟩:r=0/\e=120:=by
   have:=HR.o;unfold BM at this;rw [if_neg lT] at this;injection this with h1 h2
   exact⟨h1.symm,h2.symm⟩
  go_wp2;go_ret2;exact⟨rfl,HK.o⟩
 | true=>
  have F:(match L.find? (fun o=>o.name==B) with | some o=>(o.role,0) | none=>((0:Int),(120:Int)))=(r,e):=by
   have:=HR.o;unfold BM at this;rw [if_pos HB.o] at this;exact this
  have E:=lH F;clear F;go_wp2;go_loopw [13] (fun i wr=>∃k:Nat,i = I_ k/\k<=n/\Hi ((L.take k).find? (fun o=>o.name==B)=none)/\Hi (Aa [] w wr)) (fun i _=>n - (intOf i).toNat)
  case atStart=>exact⟨0,rfl,Ba _,lH rfl,HK⟩
  case round=>
   obtain⟨k,rfl,hk,HP,D⟩:=hrel;by_cases hlt:k<n
   ·obtain⟨g,off,⟨nm,N⟩,rfl,hg,hx,hat⟩:=HH.o.at_k (k:=k) bO
    have M:=hat 0 (Dz nm) rfl;have O:=hat 1 (I_ N) rfl;rw [AT] at M;rw [<- D.o.cell (p:=A_ g (off+k*2)) hg bA] at M;rw [<- D.o.cell (p:=A_ g (off+k*2+1)) hg bA] at O;have i1:(0:Int)<=(k:Int):=bB;have i2:(k:Int)<(n:Int):=bB;have J:=lH hx;clear hat hg hx;by_cases he:nm=B
    ·subst he
     obtain⟨rfl,rfl⟩:N=r/\(0:Int)=e:=by
      have:=E.o;rw [cL J.o HP.o bA] at this;injection this with h1 h2
      exact⟨h1,h2⟩
     go_wp2;go_ret2;exact⟨rfl,D.o.alloc _⟩
    ·have hne:(nm.toList==B.toList)=false:=beq_eq_false_iff_ne.2 (GR he)
     have G:Hi ((L.take (k+1)).find? (fun o=>o.name==B)=none):=lH (by rw [OX J.o HP.o,if_neg (by simpa using he)]);clear he;go_wp2;go_roundw;case rel=>exact⟨k+1,by go_num,by omega,G,lH (D.o.alloc _)⟩
     case measure=>simp [intOf];omega
   ·obtain rfl:k=n:=bB;obtain⟨rfl,rfl⟩:r=0/\e=120:=by
     have:=E.o;have h2:=HP.o;rw [Ak bL] at h2;rw [h2] at this;injection this with h1 h2
     exact⟨h1.symm,h2.symm⟩
    go_wp2;go_ret2;exact⟨rfl,D.o⟩
structure jE(w:World)(v:B6)(gn un fn ln:Nat)(seq:Int)(name:ByteArray)(A:World):Prop where
 nb:Blk A (w.heap.size+1) 9 #[Dz name]
 c4:Blk A (w.heap.size+1+1) 3 #[pE pK 0]
 c5:Blk A (w.heap.size+1+1+1) 4 #[pI false]
 pb:Blk A (w.heap.size+1+1+1+1) 29 (R_ v gn un fn ln seq)
 kw:Aa [] w A
theorem jE.keeps{w:World}{v:B6}{gn un fn ln:Nat}{seq:Int}{name:ByteArray}{A A':World}{S:List Nat}(h:jE w v gn un fn ln seq name A)(hk:Aa S A A')(hS:∀y∈S,w.heap.size+4<y):jE w v gn un fn ln seq name A':=
 have hn:∀y,y<=w.heap.size+4->y∉S:=fun y hy hm=>by have:=hS y hm;omega
 ⟨h.nb.keeps hk (hn _ bB),h.c4.keeps hk (hn _ bB),h.c5.keeps hk (hn _ bB),h.pb.keeps hk (hn _ bB),h.kw.own hk bM⟩
structure kZ(w:World)(k:Nat)(A:World):Prop where
 c4:Blk A (w.heap.size+1+1) 3 #[pE pK (k:Int)]
 c5:Blk A (w.heap.size+1+1+1) 4 #[pI true]
 kw:Aa [] w A
theorem kZ.keeps{w:World}{k:Nat}{A A':World}{S:List Nat}(h:kZ w k A)(hk:Aa S A A')(hS:∀y∈S,w.heap.size+3<y):kZ w k A':=
 have hn:∀y,y<=w.heap.size+3->y∉S:=fun y hy hm=>by have:=hS y hm;omega
 ⟨h.c4.keeps hk (hn _ bB),h.c5.keeps hk (hn _ bB),h.kw.own hk bM⟩
def kX(lv:List TV)(name:ByteArray)(k:Nat):Prop:=∀j<k,∀t,lv[j]? = some t->t.name≠name
theorem NA{w:World}: ∀ {V:List TV} {L:List Ten} (name:ByteArray),AX w V L->kX V name V.length->C7 L name=none
 | [],[],_,_,_=>rfl
 | v::V,t::L,name,h,hn=>by
  unfold C7;rw [List.findIdx?_cons];have h1:=hn 0 bA v rfl;rw [h.1.name] at h1;rw [if_neg bR];have:=NA (V:=V) (L:=L) name h.2 (fun j hj t ht=>hn (j+1) (by simpa using hj) t (by simpa using ht));unfold C7 at this;rw [this];rfl
 | [],_::_,_,h,_=>h.elim
 | _::_,[],_,h,_=>h.elim
theorem Sp{w:World}: ∀ {V:List TV} {L:List Ten} (name:ByteArray) (k:Nat) (u:TV),AX w V L->kX V name k->V[k]? = some u->u.name=name->C7 L name=some k
 | v::V,t::L,name,0,u,h,_,hu,hn=>by
  unfold C7;rw [List.findIdx?_cons];simp only [Aj,Option.some.injEq] at hu;subst hu;rw [if_pos (by rw [<- h.1.name,hn];simp)]
 | v::V,t::L,name,k+1,u,h,hN,hu,hn=>by
  unfold C7;rw [List.findIdx?_cons];have h1:=hN 0 bB v rfl;rw [h.1.name] at h1;rw [if_neg bR];have:=Sp (V:=V) (L:=L) name k u h.2 (fun j hj t ht=>hN (j+1) bB t (by simpa using ht)) (by simpa using hu) hn;unfold C7 at this;rw [this];rfl
 | [],[],_,_,_,_,_,hu,_=>by simp at hu
 | [],_::_,_,_,_,h,_,_,_=>h.elim
 | _::_,[],_,_,_,h,_,_,_=>h.elim
theorem Pv(v:B6)(r:CJ)(gn un fn ln:Nat)(hln:v.lv.length=ln)(U:ln<=1000)(seq:Int)(hsq:r.seq=seq)(B:ByteArray)(w:World)(hl:AR BE 8 w v.la v.lc v.lv)(ht:AX w v.lv r.l):
  Calls prog 153 #[pH (R_ v gn un fn ln seq),Dz B] w fun x w'=>x = pJ (.tuple #[pE pK (((C7 r.l B).getD 0:Nat):Int),pI (C7 r.l B).isSome])/\Aa [] w w':=by
 subst hsq;obtain⟨seq,O⟩:=eX r.seq;have X:=fun W=>FU v r gn un fn ln W;rw [O] at X ⊢;refine(callsIn_wide (n:=9)).1 ?_;have HL:=lH hl;have HT:=lH ht;have HLN:=lH hln;have ad:=lH X;clear hl ht hln X O;refine callsIn_of_wp_marks func153 rfl trivial ?_ rfl;simp only [ntmps153,Cz,Av,D4,pL,pM,Bt,Bu,Cd,BD,BH,AL];gi_wp2_with fail;refine⟨trivial,(callsIn_wide.2 (ad.o _)).mono ?_⟩;rintro e w1 ⟨rfl,hw1⟩;gi_wp2_with fail;have hsz:w1.heap.size=w.heap.size+5:=by rw [<- hw1];simp
 have Y:jE w v gn un fn ln seq B w1:=by
  have hk:Aa [] w w1:=by rw [<- hw1];exact(((((Aa.refl [] w).alloc _).alloc _).alloc _).alloc _).alloc _
  refine⟨?_,?_,?_,?_,hk⟩<;>rw [<- hw1]
  ·exact(((Ar _ _ _ _ bA).alloc _).alloc _).alloc _
  ·exact((Ar _ _ _ _ bA).alloc _).alloc _
  ·exact(Ar _ _ _ _ bA).alloc _
  ·exact Ar _ _ _ _ bA
 have ab:=lH Y;clear Y hw1;refine Cc rfl bB (gf:=136) (lb:=#[pG (some (A4 w 0))]) rfl trivial (enters_of func136 bC rfl) (FV 8 (w+1+1+1+1) v.la v.lc ln v.lv HLN.o U seq) (fun _=>rfl)
  (fun E A=>kX v.lv B E.length/\jE w v gn un fn ln seq B A) (fun _ A=>∃k,C7 r.l B=some k/\kZ w k A)
  (fun E A A' h hk=>⟨h.1,h.2.keeps hk bF⟩)
  (fun E A A' h hk=>by
   obtain⟨k,h1,h2⟩:=h;exact⟨k,h1,h2.keeps hk bF⟩)
  (fun E A h=>⟨h.2.pb.cell 3,h.2.pb.cell 4,HL.o.keeps h.2.kw⟩) ⟨fun j hj=>by simp at hj,ab.o⟩
  (fun k W=>(fun u:TV=>(({ tmps:=#[pH (R_ v gn un fn ln seq),Dz B,p_ w 0,p1 w 0,p2 w 0,p3 w 0,I_ (k:Int),p_ W 0,pH (R_ v gn un fn ln seq),
     .func (.func 136) #[] #[pG (some (A4 w 0))],I_ (k:Int),pH (U_ u seq),UD,UD,UD,UD,UD,UD],defers:=[] } : Act),W.alloc (.cells (U_ u seq) 166))) (v.lv.getD k tv0))
  (fun k W=>(Aa.refl [] W).alloc _) ?assign ?body ?done ?stop
 case assign=>
  intro l k W K hK;simp only [Mg];dsimp only at hK;generalize v.lv.getD k tv0=u at hK ⊢;gi_wp2;exact hK
 case body=>
  rintro l E k W W2 ⟨hN,hI⟩ J T hk2;obtain⟨rfl,hkn⟩:=E8 J;obtain⟨u,hu⟩:∃u,v.lv[k]? = some u:=⟨_,Aq iV⟩;have hgd:v.lv.getD k tv0=u:=by rw [AO,hu];rfl
  dsimp only at hk2 ⊢;rw [hgd] at hk2 ⊢;rw [AP] at hN;have am:W.heap.size<=W2.heap.size:=by have:=hk2.size;rw [Eo] at this;omega
  have D:=(hI.keeps ((Aa.refl [] W).alloc (.cells (U_ u seq) 166)) bA).keeps hk2 bF;have hb:=(Blk.new W 166 (U_ u seq)).keeps hk2 bI;have d2:=hb.ce 2;have q1:=D.nb.ce 0;have q4:=D.c4.ce 0;have q5:=D.c5.ce 0;have f4:=D.c4.frozen 0;have f5:=D.c5.frozen 0;have M:=lH D;have HU:=lH hu;have HN:=lH hN;clear hI J hk2 D hb hgd hu hN;by_cases hnm:u.name=B
  ·have ai:(u.name.toList==B.toList)=true:=by rw [hnm];simp
   have F:Hi (C7 r.l B=some k):=lH (Sp B k u HT.o HN.o HU.o hnm);clear hnm;gi_wp2;have hk3:Aa [w.heap.size+1+1,w.heap.size+1+1+1] W2 ((W2.setCell (A2 w 0) (I_ (k:Int))).setCell (A3 w 0) (pI true)):=((Aa.refl _ W2).setCell (p:=A2 w 0) (.inl bA) _).setCell (p:=A3 w 0) (.inl bA) _;refine⟨hk3.size,fun y hy=>hk3.block y gB iT,k,F.o,?_,?_,M.o.kw.own hk3 bF⟩
   ·exact(M.o.c4.set_ 0 (I_ (k:Int))).far bA _
   ·exact(M.o.c5.far bA _).set_ 0 (pI true)
  ·have ai:(u.name.toList==B.toList)=false:=by simpa using GR hnm
   have ac:Hi (kX v.lv B (AC k++[k]).length):=lH (by
    rw [Al,AP,Bp];intro j hj t G;rcases pP j k with h | h
    ·exact HN.o j h t G
    ·obtain rfl:j=k:=bB;rw [HU.o] at G;injection G with G
     rw [<- G];exact hnm)
   clear hnm;gi_wp2;exact⟨Aw _,fun _ _=>rfl,ac.o,M.o⟩
 case done=>
  rintro W ⟨hN,hI⟩ T hK;rw [AP] at hN;have F:Hi (C7 r.l B=none):=lH (NA B HT.o (by rw [HLN.o];exact hN));have q4:=hI.c4.ce 0;have q5:=hI.c5.ce 0;have f4:=hI.c4.frozen 0;have f5:=hI.c5.frozen 0;have HI:=lH hI;clear hI hN;gi_wp2;obtain⟨WF,N⟩:=eX ((W.setCell (A2 w 0) (I_ 0)).setCell (A3 w 0) (pI false));have hk3:Aa [w.heap.size+1+1,w.heap.size+1+1+1] W WF:=by rw [<- N];exact((Aa.refl _ W).setCell (p:=A2 w 0) (.inl bA) _).setCell (p:=A3 w 0) (.inl bA) _
  have d2:Blk WF (w+1+1) 3 #[pE pK 0]:=by rw [<- N];exact(HI.o.c4.set_ 0 (I_ 0)).far bA _
  have d3:Blk WF (w+1+1+1) 4 #[pI false]:=by rw [<- N];exact(HI.o.c5.far bA _).set_ 0 (pI false)
  rw [N];have ah:WF.heap[w1.heap.size]? = some (.deferred (some [])):=(hk3.block _ bB bI).trans hK;refine⟨by simp,.inl ⟨_,_,rfl,run_takeDeferred ah,?_⟩⟩;have hk4:=AG (S:=[w1.heap.size]) WF (.deferred none) (l:=w1.heap.size) bA;have e2:=(d2.keeps hk4 bG).ce 0;have e3:=(d3.keeps hk4 bG).ce 0;refine⟨.tuple #[pE pK 0,pI false],by simp [results,results153,go_sem,e2,e3],?_⟩;rw [F.o];exact⟨rfl,(HI.o.kw.own hk3 bF).own hk4 bF⟩
 case stop=>
  rintro E W J ⟨k,aa,hX⟩ T hK;have HX:=lH hX;have F:=lH aa;clear hX aa;gi_wp2;refine⟨by simp,.inl ⟨_,_,rfl,run_takeDeferred hK,?_⟩⟩;have hk4:=AG (S:=[w1.heap.size]) W (.deferred none) (l:=w1.heap.size) bA;have e2:=(HX.o.c4.keeps hk4 bG).ce 0;have e3:=(HX.o.c5.keeps hk4 bG).ce 0;refine⟨.tuple #[pE pK (k:Int),pI true],by simp [results,results153,go_sem,e2,e3],?_⟩;rw [F.o];exact⟨rfl,HX.o.kw.own hk4 bF⟩
end
section
open Go.RowKit
theorem AR.keepsS{α:Type}{enc:α->List Value}{n:Nat}{w w':World}{a:Option Addr}{c:Nat}{xs:List α}{S:List Nat}(h:AR enc n w a c xs)(hk:Aa S w w')(hS:∀g off,a=some (A_ g off)->g∉S):AR enc n w' a c xs:=
 ⟨h.le,h.nil,fun h0=>by
  obtain⟨g,off,ha,hg,hc⟩:=h.at_ h0;exact⟨g,off,ha,BS hg hk.size,fun i hi j u hj=>(hk.cell (p:=A_ g (off+i*n+j)) hg (hS g off ha)).trans (hc i hi j u hj)⟩⟩
theorem Blk.put3{w:World}{g:Nat}{t:TypeId}{x0 x1 x2:Value}(h:Blk w g t #[x0,x1,x2])(a b c:Value):Blk (((w.setCell (A_ g 0) a).setCell (A_ g 1) b).setCell (A_ g 2) c) g t #[a,b,c]:=((h.set_ 0 a).set_ 1 b).set_ 2 c
theorem Ae(w:World)(g i:Nat)(a:Value):Aa [g] w (w.setCell (A_ g i) a):=(Aa.refl [g] w).setCell (p:=A_ g i) (.inl bA) _
theorem G5(w:World)(g:Nat)(a b c:Value):Aa [g] w (((w.setCell (A_ g 0) a).setCell (A_ g 1) b).setCell (A_ g 2) c):=((Ae w g 0 a).trans (Ae _ g 1 b)).trans (Ae _ g 2 c)
theorem DP{w:World}{B:Nat}{e:TypeId}{D:Nat}{v:Value}{n:Nat}{xs:List Value}(h:w.ownsRow B e D v n xs){x:Nat}(hx:v.ownBlock=some x):∃cs,Blk w x e cs:=by
 rcases h.2 with⟨rfl,_⟩ | ⟨g,cap,cur,rfl,_,hg,_⟩
 ·cases hx
 ·injection hx with hx
  exact⟨cur,by rw [<- hx];exact hg⟩
theorem CX{w:World}{B:Nat}{e t:TypeId}{sz:Nat}{v:Value}{n g:Nat}{xs:List Value}{cs:Array Value}(h:w.ownsRow B e sz v n xs)(hb:Blk w g t cs)(hne:e≠t):∀x,v.ownBlock=some x->x≠g:=fun x hx e1=>by
 obtain⟨c2,h2⟩:=DP h hx;subst e1;unfold Blk at hb h2;rw [h2] at hb;injection hb with hb;injection hb with _ hb _
 exact hne hb
theorem FP{w:World}{B B2:Nat}{e e2:TypeId}{sz sz2:Nat}{v v2:Value}{n n2:Nat}{xs xs2:List Value}(h:w.ownsRow B e sz v n xs)(h2:w.ownsRow B2 e2 sz2 v2 n2 xs2)(hne:e≠e2):∀x y,v.ownBlock=some x->v2.ownBlock=some y->x≠y:=fun x y hx hy=>by
 obtain⟨cs,hb⟩:=DP h2 hy;exact CX h hb hne x hx
theorem AR.of_blk{α:Type}{f:α->Value}{enc:α->List Value}(he:∀x,enc x = [f x]){w:World}{g:Nat}{t:TypeId}{L:List α}{n:Nat}(hn:L.length=n)(h:Blk w g t (L.map f).toArray):AR enc 1 w (some (A_ g 0)) n L:=
 ⟨by omega,(fun e=>by cases e),fun _=>⟨g,0,rfl,h.lt,fun i hi j u hj=>by
  rw [he] at hj;cases j with
  | succ j=>simp at hj
  | zero=>
   simp only [Aj,Option.some.injEq] at hj;rw [h.cell];simp [<- hj,hi]⟩⟩
def Ja(B:Nat)(v:DF):Prop:=(∀g o,v.ga=some ⟨g,o,none⟩->B<=g)/\(∀g o,v.ua=some ⟨g,o,none⟩->B<=g)/\(∀g o,v.fa=some ⟨g,o,none⟩->B<=g)
def Di(B:Nat)(w:World)(s:Fz)(x:Value):Prop:=∃v gn un fn,x = pH (S_ v gn un fn)/\s.gens.length=gn/\s.used.length=un/\s.free.length=fn/\Dy w v s/\Ja B v
theorem Dy.zero(w:World):Dy w ⟨none,0,none,0,none,0⟩ Ez:=⟨.none_,.none_,.none_,by decide,by decide,by decide⟩
theorem Di.zero(B:Nat)(w:World):Di B w Ez (.agg IY.k):=⟨⟨none,0,none,0,none,0⟩,0,0,0,rfl,rfl,rfl,rfl,Dy.zero w,(fun _ _ e=>by cases e),(fun _ _ e=>by cases e),(fun _ _ e=>by cases e)⟩
theorem Di.keeps{B:Nat}{w w':World}{s:Fz}{x:Value}(h:Di B w s x)(hk:Aa [] w w'):Di B w' s x:=by
 obtain⟨v,gn,un,fn,h1,h2,h3,h4,D,E⟩:=h;exact⟨v,gn,un,fn,h1,h2,h3,h4,D.keeps hk,E⟩
end
section
open Go.RowKit Go.Shelf
attribute [local go_sem] pN
attribute [local go_sem ↓] wp_at_zero wp_at_succ
theorem Nj:D1 (prog.info? 3) 1=true:=bC
def Kl(role:Int):List Int:=(B7.filter (fun v=>setsR role &&& v.2.2 != 0)).map (·.1)
theorem Wy(B D:Int):LJ B D=decide (D∈Kl B):=by
 unfold LJ Kl;rw [DI,decide_eq_true_eq,List.any_eq_true];simp only [BO,List.mem_filter,Af,beq_iff_eq];constructor
 ·rintro⟨x,h1,h2,h3⟩;exact⟨x,⟨h1,h3⟩,h2⟩
 ·rintro⟨x,⟨h1,h3⟩,h2⟩;exact⟨x,h1,h2,h3⟩
structure jJ(w:World)(role:Int)(pre:List (Int×List UInt8×Nat))(A:World):Prop where
 run:∃v,A.ownsRow (w.heap.size+4) 3 1 v (pre.map (·.1)).length ((pre.map (·.1)).flatMap Fb)∧Blk A w.heap.size 23 #[v]
 tb:Blk A (w.heap.size+1) 200 #[.func (.func 108) #[pE pK role] #[]]
 kw:Aa [] w A
 vt:Er A
theorem jJ.keeps{w:World}{B:Int}{D:List (Int×List UInt8×Nat)}{A E:World}{S:List Nat}(h:jJ w B D A)(hk:Aa S A E)(hS:∀y∈S,w.heap.size+2<=y/\y<w.heap.size+4)(hg:1<w.heap.size):jJ w B D E:=by
 obtain⟨v,h1,h2⟩:=h.run;have hn:∀y,y<w.heap.size+2->y∉S:=fun y hy hm=>by have:=hS y hm;omega
 exact⟨⟨v,Ah h1 hk (fun g hg2 hm=>by have:=(h1.lt g hg2).1;have:=hS g hm;omega),h2.keeps hk (hn _ bB)⟩,h.tb.keeps hk (hn _ bB),h.kw.own hk bM,h.vt.keeps hk (hn _ bB)⟩
theorem Vu(B:Int)(w:World)(hv:Er w):Calls prog 49 #[pE pK B] w fun x w'=>∃a c,x = pJ (pF a (Kl B).length c)/\F1 w' a c (Kl B)/\Aa [] w w':=by
 refine(callsIn_wide (n:=9)).1 ?_;have U:1<w.heap.size:=Be w _ (hv 0 _ rfl);have ai:=lH hv;clear hv;refine callsIn_of_wp_marks func49 rfl trivial ?_ rfl;simp only [ntmps49,Cz,Av,D4,pL,pM,Bt,Bu,Cd,BD,BH,AL];gi_wp2_with fail;refine⟨trivial,(callsIn_wide.2 (Pz _ _ ⟨_,_,_,rfl⟩)).mono ?_⟩;rintro e w1 ⟨rfl,hw1⟩;gi_wp2_with fail;have hsz:w1.heap.size=w.heap.size+2:=by rw [<- hw1];simp
 have ab:jJ w B [] w1:=by
  have hk:Aa [] w w1:=by rw [<- hw1];exact((Aa.refl [] w).alloc _).alloc _
  refine⟨⟨pF none 0 0,BQ _ _ _ _,?_⟩,?_,hk,ai.o.keeps hk bA⟩<;>rw [<- hw1]
  ·exact(Blk.new w _ _).alloc _
  ·exact Ar _ _ _ _ bA
 have ag:=lH ab;clear ab hw1;refine Cc rfl bB (gf:=148) (lb:=#[pG (some (A1 w 0))]) rfl trivial (enters_of func148 bC rfl) (ZO 8 (w+1) B) (fun _=>rfl)
  (fun D A=>jJ w B D A) (fun _ _=>False)
  (fun D A A' h hk=>h.keeps hk bF U)
  (fun D A A' h hk=>h)
  (fun D A h=>⟨h.vt,by simpa using h.tb.cell 0⟩) ag.o
  (fun x W=>({ tmps:=#[pE pK B,UD,pF none 0 0,p_ w 0,p_ W 0,I_ B,.func (.func 108) #[pE pK B] #[],
     .func (.func 148) #[] #[pG (some (A1 w 0))],pH #[pE pK x.1,Dz ⟨x.2.1.toArray⟩,I_ (x.2.2:Nat)],UD,UD,UD,UD,UD,UD],defers:=[] },W.alloc (.cells #[pE pK x.1,Dz ⟨x.2.1.toArray⟩,I_ (x.2.2:Nat)] 199)))
  (fun x W=>(Aa.refl [] W).alloc _) ?assign ?body ?done ?stop
 case assign=>
  rintro l ⟨vn,vw,vs⟩ W K hK;simp only [Mh,My];gi_wp2;exact hK
 case body=>
  rintro l D ⟨vn,vw,vs⟩ W W2 hI J T hk2;dsimp only at hk2 ⊢;have hb:=(Blk.new W 199 #[pE pK vn,Dz ⟨vw.toArray⟩,I_ (vs:Nat)]).keeps hk2 bI;have G:=(hI.keeps ((Aa.refl [] W).alloc (.cells #[pE pK vn,Dz ⟨vw.toArray⟩,I_ (vs:Nat)] 199)) bA U).keeps hk2 bF U;obtain⟨v,hrow,F⟩:=G.run;have an:W.heap.size+1<=W2.heap.size:=by have:=hk2.size;rw [Eo] at this;exact this
  have ad:(D.map (·.1)).length<=10:=by
   have h1:=J.length_le;have h2:=List.length_filter_le (fun v:Int×List UInt8×Nat=>setsR B &&& v.2.2 != 0) B7;have h3:B7.length=10:=bE;simp only [Al,Bp,Bd] at h1 ⊢;omega
  obtain⟨g,c,W3,N,M,hk3,ac⟩:=CO (enc:=Fb) prog (t:=23) underlying23 Nj bE Eu KH hrow bB vn bB 23;have d0:=hb.ce 0;have q0:=F.ce 0;have hgeS:=AZ hrow;have E:=F.keeps hk3 (fun hm=>by have:=hgeS _ hm;omega);have q3:=E.ce 0;have f3:=E.frozen 0;have O:=lH (E.set_ 0 (pF (some (A_ g 0)) ((D.map (·.1)).length+1) c));obtain⟨m,hm⟩:=eX ((D.map (·.1)).length+1);have ah:=lH (G.tb.keeps hk3 (fun hm=>by have:=hgeS _ hm;omega));have Y:=lH (G.vt.keeps hk3 (fun hm=>by have:=hgeS _ hm;omega));have HKW:=lH (G.kw.own hk3 jW);have HROW:=lH M;have HSZ:Hi (W2.heap.size<=W3.heap.size):=lH hk3.size;have af:Hi (∀k∈[w1.heap.size,w1.heap.size+1],W3.heap[k]? = W2.heap[k]?):=lH (fun k hk=>hk3.block k mY (fun hm=>by have:=hgeS k hm;simp only [Ac,Ab,or_false] at hk;omega));have ap:=lH ac;rw [hm] at N O HROW;have HM:=lH hm;simp only [Fb] at N;clear hI J hk2 G hb hrow F ad M hk3 ac hgeS E hm;gi_wp2_with (gi_at_builtin;refine EI _ rfl _ _ 23 rfl rfl rfl N ?_);have hk4:Aa [w.heap.size] W3 (W3.setCell (A_ w 0) (pF (some (A_ g 0)) m c)):=(Aa.refl _ W3).setCell (p:=A_ w 0) (.inl bA) _;refine⟨A8 HSZ.o hk4.size,fun y hy=>(hk4.block y mV iT).trans (af.o y hy),⟨_,?_,O.o⟩,ah.o.keeps hk4 bA,HKW.o.own hk4 bF,Y.o.keeps hk4 bI⟩;have h9:=Ah HROW.o hk4 (fun g' aj hm'=>by have:=(HROW.o.lt g' aj).1;simp only [Ac,Ab,or_false] at hm';omega);rw [pO];exact h9
 case done=>
  rintro W hI T hK;rw [hsz] at hK;obtain⟨v,hrow,F⟩:=hI.run;have q0:=F.ce 0;have HROW:=lH hrow;have HKW:=lH hI.kw;clear hI hrow F;gi_wp2;refine⟨by simp,.inl ⟨_,_,rfl,run_takeDeferred hK,?_⟩⟩;have hk4:=AG (S:=[w.heap.size+2]) W (.deferred none) (l:=w.heap.size+2) bA;have X:=Ah HROW.o hk4 (fun g hg hm=>by have:=(HROW.o.lt g hg).1;simp only [Ac,Ab,or_false] at hm;omega);obtain⟨a,c,rfl,ak,_⟩:=AR.of_row Eu X;refine⟨_,by simp [results,results49,go_sem];rfl,?_⟩;exact⟨a,c,by simp [Kl],ak,HKW.o.own hk4 bF⟩
 case stop=>
  rintro D W J hX T hK;exact hX.elim
theorem U1(D B:Int)(b:Bool)(hb:LJ D B=b)(w:World)(hv:Er w):Calls prog 20 #[pE pK D,I_ B] w fun x w'=>x = pJ (pI b)/\Aa [] w w':=by
 rw [Wy] at hb;have J:=lH (Vu D w hv);obtain⟨L,hL⟩:=eX (Kl D);have E:L.length<=10:=by
  rw [<- hL];have h2:=List.length_filter_le (fun v:Int×List UInt8×Nat=>setsR D &&& v.2.2 != 0) B7;have h3:B7.length=10:=bE;unfold Kl;rw [Bd];omega
 rw [hL] at hb J;have HB:=lH hb;clear hb hv hL;go_enter func20,ntmps20;go_wp2_with fail;refine J.o.mono ?_;rintro x w1 ⟨a,c,rfl,F,hk⟩;obtain⟨n,hn⟩:=eX L.length;have HS:=lH F;have HK:=lH hk;have HN:=lH hn;rw [hn] at E ⊢;clear F hk hn;go_wp2_with fail;go_loopw [10] (fun i wr=>∃k:Nat,i = I_ k/\k<=n/\Hi (B∉L.take k)/\wr=w1) (fun i _=>n - (intOf i).toNat)
 case atStart=>exact⟨0,rfl,Ba _,lH bA,rfl⟩
 case round=>
  obtain⟨k,rfl,hk,HP,rfl⟩:=hrel;by_cases hlt:k<n
  ·obtain⟨g,off,x,rfl,hg,hx,hat⟩:=HS.o.at_k (k:=k) bO
   have N:=hat 0 (I_ x) rfl;rw [AT,pR] at N;have i1:(0:Int)<=(k:Int):=bB;have i2:(k:Int)<(n:Int):=bB;have M:=lH hx;clear hat hg hx;by_cases he:x=B
   ·have f1:(x==B)=true:=by simpa using he
    obtain rfl:b=true:=by rw [<- HB.o,<- he];exact decide_eq_true (CD M.o)
    clear he;go_wp2;go_ret;exact⟨rfl,HK.o⟩
   ·have f1:(x==B)=false:=by simpa using he
    have G:Hi (B∉L.take (k+1)):=lH (by rw [A0 M.o,AQ,Ag];exact fun h=>h.elim HP.o (fun e=>he e.symm));clear he;go_wp2;go_roundw;case rel=>exact⟨k+1,by go_num,by omega,G,trivial⟩
    case measure=>simp [intOf];omega
  ·obtain rfl:k=n:=bB;obtain rfl:b=false:=by
    rw [<- HB.o];have:=HP.o;rw [Ak bL] at this;exact decide_eq_false this
   go_wp2;go_ret;exact⟨rfl,HK.o⟩
theorem LH{t e:TypeId}{z:Value}(ht:prog.underlying t=some (.slice e))(hi:(prog.info? e).map (fun i=>(i.zero,i.size,decide (i.bytes<=8)))=some (some z,1,true))(n:Nat)(hn:n<=1000)(W:World):
  (Instr.makeSlice t (I_ (n:Int)) (I_ (n:Int))).run prog W = .ok (pF (some (A_ W 0)) n n) (W.alloc (.cells (madeCells z.cells n) e)):=by
 cases hq:prog.info? e with
 | none=>rw [hq] at hi;cases hi
 | some i=>
  rw [hq] at hi;simp only [Option.map_some,Option.some.injEq,Prod.mk.injEq,decide_eq_true_eq] at hi;obtain⟨h1,h2,h3⟩:=hi;have:=He (P:=prog) t e i z ht hq h1 .i64 .i64 n n (Aw _) (by have:=Nat.mul_le_mul h3 hn;omega) bB W;rw [h2,pR] at this;exact this
structure aN(w:World)(gn un fn:Nat)(used:List Bool)(free:List Int)(gens:Array Value)(tb:Nat)(W:World)(g:Nat)(ua:Option Addr)(uc:Nat)(fa:Option Addr)(fc:Nat):Prop where
 blk:Blk W tb 250 #[pF (some ⟨g,0,none⟩) gn gn,pF ua un uc,pF fa fn fc]
 gb:Blk W g 3 gens
 u:W.ownsRow w.heap.size 4 1 (pF ua un uc) un (used.flatMap JM)
 f:W.ownsRow w.heap.size 3 1 (pF fa fn fc) fn (free.flatMap Fb)
 ge:w.heap.size≤g
 te:w.heap.size≤tb
 nu:∀x,EZ (pF ua un uc)=some x→x≠g
 ne:∀x,EZ (pF fa fn fc)=some x→x≠g
 kw:Aa [] w W
theorem Bw{w:World}{B B' n:Nat}{e:TypeId}{D:Nat}{v:Value}{xs:List Value}(h:w.ownsRow B e D v n xs)(hb:B'<=B):w.ownsRow B' e D v n xs:=by
 refine⟨h.1,?_⟩;rcases h.2 with h0 | ⟨g,cap,cur,h1,h2,h3⟩
 ·exact .inl h0
 ·exact .inr ⟨g,cap,cur,h1,A8 hb h2,h3⟩
theorem dH{w WX wu wf:World}{gn un fn g bu bf tb:Nat}(htb:tb=WX.heap.size){used:List Bool}{free:List Int}{cs:Array Value}{ua fa:Option Addr}{uc fc:Nat}{wz:World}(hz:Aa [] w wz)(hkz:Aa [] wz WX)(hgb:Blk WX g 3 cs)(hge:wz.heap.size<=g)
 (hu:wu.ownsRow bu 4 1 (pF ua un uc) un (used.flatMap JM))(hub:w.heap.size<=bu)(huk:Aa [] wu WX)(hf:wf.ownsRow bf 3 1 (pF fa fn fc) fn (free.flatMap Fb))(hfb:w.heap.size<=bf)(hfk:Aa [] wf WX)(hnu:g<bu\/wu.heap.size<=g)(hne:g<bf\/wf.heap.size<=g):
  aN w gn un fn used free cs tb (WX.alloc (.cells #[pF (some (A_ g 0)) gn gn,pF ua un uc,pF fa fn fc] 250)) g ua uc fa fc/\Aa [] wz (WX.alloc (.cells #[pF (some (A_ g 0)) gn gn,pF ua un uc,pF fa fn fc] 250))/\wz.heap.size<=g:=
 by
 subst htb;have hkw:=hz.trans hkz;have ha:=(Aa.refl [] WX).alloc (.cells #[pF (some (A_ g 0)) gn gn,pF ua un uc,pF fa fn fc] 250);exact⟨⟨Blk.new WX _ _,hgb.keeps ha bA,Ah (Bw hu hub) (huk.trans ha) bA,Ah (Bw hf hfb) (hfk.trans ha) bA,A8 hz.size hge,hkw.size,fun x hx=>by have:=hu.lt x hx;omega,fun x hx=>by have:=hf.lt x hx;omega,hkw.trans ha⟩,hkz.trans ha,hge⟩
theorem P2{α:Type}(v:α):∀(l:List α) (o:Nat),o<l.length->(l.set o v).take (o+1)=l.take o++[v]/\(∀k,o<k->(l.set o v).drop k=l.drop k)
 | [],_,h=>by simp at h
 | x::l,0,_=>⟨by simp,fun k hk=>by
  obtain⟨k,rfl⟩:∃m,k=m+1:=⟨k - 1,by omega⟩;simp⟩
 | x::l,o+1,h=>by
  obtain⟨h1,h2⟩:=P2 v l o bK;refine⟨by simp [h1],fun k hk=>?_⟩;obtain⟨k,rfl⟩:∃m,k=m+1:=⟨k - 1,by omega⟩;simpa using h2 k bB
theorem Blk.setAll{g:Nat}{t:TypeId}: ∀(vs:List Value) (o:Nat) (w:World) (cs:Array Value),Blk w g t cs->o+vs.length<=cs.size->∃cs',Blk (w.setCells g o vs) g t cs'/\cs'.toList=cs.toList.take o++vs++cs.toList.drop (o+vs.length)
 | [],o,w,cs,h,_=>⟨cs,h,by simp⟩
 | v::r,o,w,cs,h,hl=>by
  simp only [Av] at hl;obtain⟨cs',h1,h2⟩:=Blk.setAll r (o+1) (w.setCell (A_ g o) v) (cs.setIfInBounds o v) (h.set_ o v) bG;refine⟨cs',h1,?_⟩;obtain⟨h3,h4⟩:=P2 v cs.toList o bG;rw [h2,Array.toList_setIfInBounds,h3,h4 _ bB,Av,show o+1+r.length=o+(r.length+1) by omega];simp
theorem VL(W:World)(g gn:Nat)(D:Array Value)(B:Blk W g 3 D)(h0:D.size=gn)(ga:Option Addr)(gc:Nat)(L:List Int)(hL:L.length=gn)(h:F1 W ga gc L):
  ∃W2,(∀ty,(E3 #[23,23] ty #[pF (some (A_ g 0)) gn gn,pF ga gn gc]).run prog W = .ok (goInt gn) W2)/\Blk W2 g 3 (L.map (pE .i64)).toArray/\Aa [g] W W2:=by
 have hs:(prog.info? 3).map (·.size)=some 1:=bC
 cases ga with
 | none=>
  obtain⟨rfl,rfl⟩:=h.isNil;subst hL;refine⟨W,fun ty=>run_copy_none (P:=prog) W 23 23 ty 3 _ _ _ _ _ _ underlying23 hs rfl,?_,Aa.refl _ W⟩;have:D=#[]:=Array.eq_empty_of_size_eq_zero (by simpa using h0);rw [this] at B;exact B
 | some p=>
  have E:=h.flat Eu;have G:∀L:List Int,L.flatMap Fb=L.map (pE .i64):=fun L=>by
   induction L with
   | nil=>rfl
   | cons x l ih=>rw [List.flatMap_cons,ih];rfl
  rw [G] at E;refine⟨W.setCells g 0 (L.map (pE .i64)),fun ty=>?_,?_,Aa.setCells (.inl bA) _ _ (Aa.refl _ W)⟩
  ·have:=run_copy_cells (P:=prog) W 23 23 ty 3 g 0 gn gn p gn gc (L.map (pE .i64)) underlying23 hs (by rw [Bd,hL];exact(Nat.min_self gn).symm) E
    (fun j hj=>by rw [AW,B.cell,Array.getElem?_eq_getElem (by rw [Bd] at hj;omega)];rfl) (fun j hj=>by rw [B.frozen]) (fun v hv=>by obtain⟨x,_,rfl⟩:=BO.1 hv;rfl)
   rw [Bd,hL] at this;exact this
  ·obtain⟨F,h1,h2⟩:=Blk.setAll (L.map (pE .i64)) 0 W D B (by rw [Bd];omega)
   have h3:F=(L.map (pE .i64)).toArray:=by
    rw [<- Array.toList_inj,h2,Bd,List.drop_of_length_le bG];simp
   rw [<- h3];exact h1
theorem I0(v:DF)(s:Fz)(gn un fn:Nat)(hg:s.gens.length=gn)(hu:s.used.length=un)(hf:s.free.length=fn)(w:World)(h:Dy w v s):
  Calls prog 196 #[pH (S_ v gn un fn)] w fun e w'=>∃tb g ua uc fa fc,e = pJ (p_ tb 0)/\aN w gn un fn s.used s.free (s.gens.map (pE .i64)).toArray tb w' g ua uc fa fc:=by
 have J:gn<=1000:=by have:=h.sg;omega
 have aa:un<=1000:=by have:=h.su;omega
 have Y:fn<=1000:=by have:=h.sf;omega
 have aj:=fun W=>LH (t:=23) (e:=3) (z:=I_ 0) underlying23 bC gn J W;obtain⟨wz,hwz⟩:=eX (w.alloc (.cells (S_ v gn un fn) 26));have hz:Aa [] w wz:=by rw [<- hwz];exact(Aa.refl [] w).alloc _
 have G:Blk wz w 26 (S_ v gn un fn):=by rw [<- hwz];exact Blk.new w _ _
 have hS:∀W,Aa [] wz W->Aa [] wz W/\W.cell? (A_ w 0)=some (pF v.ga gn v.gc)/\W.cell? (A_ w 1)=some (pF v.ua un v.uc)/\W.cell? (A_ w 2)=some (pF v.fa fn v.fc):=fun W hk=>
  ⟨hk,(G.keeps hk bA).cell 0,(G.keeps hk bA).cell 1,(G.keeps hk bA).cell 2⟩
 have HS:=lH hS;have O:=lH (fun W (hk:Aa [] wz W)=>Rb v.ua v.uc s.used un hu bB W (h.u.keeps (hz.trans hk)));have N:=lH (fun W (hk:Aa [] wz W)=>PR v.fa v.fc s.free fn hf bB W (h.f.keeps (hz.trans hk)));have HZ:=lH hz;have HM:=lH h;have HG:=lH hg;have T:Hi (w.heap.size<wz.heap.size):=lH gA;clear h hg hu hf G hz hS;go_enter func196,ntmps196;go_wp2;clear hwz;go_cut [3] (fun x wc=>∃tb g ua uc fa fc,x = p_ tb 0/\Hi (aN w gn un fn s.used s.free (madeCells #[pE pK 0] gn) tb wc g ua uc fa fc/\Aa [] wz wc/\wz.heap.size<=g))
 case first=>
  refine wp_region_held_drew (S:=(fun w':World=>Aa [] wz w'/\w'.cell? (A_ w 0)=some (pF v.ga gn v.gc)/\w'.cell? (A_ w 1)=some (pF v.ua un v.uc)/\w'.cell? (A_ w 2)=some (pF v.fa fn v.fc))) bC (by((try dsimp only);(first | exact HS.o _ ((Aa.refl [] wz).drew) | exact HS.o _ (hHeld.1.trans B) | exact HS.o _ (hHeld.1.trans D) | exact HS.o _ (hHeld.1.alloc _)))) (fun hHeld=>?_)
  repeat' (first | exact rZ | refine rX ?_ | ((first | (refine rA 3 (fun K hK=>?_) ?_;go_simp) | (refine rA 6 (fun K hK=>?_) ?_;go_simp;first | (refine(O.o _ hHeld.1).mono ?_;rintro r wb ⟨ua,uc,rfl,ac,X,D⟩) | (refine(N.o _ hHeld.1).mono ?_;rintro r wi ⟨fa,fc,rfl,ab,U,B⟩)) | (refine rA 9 (fun K hK=>?_) ?_;go_simp;first | (refine(O.o _ hHeld.1).mono ?_;rintro r wb ⟨ua,uc,rfl,ac,X,D⟩) | (refine(N.o _ hHeld.1).mono ?_;rintro r wi ⟨fa,fc,rfl,ab,U,B⟩)) | (refine rA 12 (fun K hK=>?_) ?_;go_simp));refine rO hK (by((try dsimp only);(first | exact HS.o _ ((Aa.refl [] wz).drew) | exact HS.o _ (hHeld.1.trans B) | exact HS.o _ (hHeld.1.trans D) | exact HS.o _ (hHeld.1.alloc _)))) fun hHeld=>?_;clear hK K) | (refine rQ 0 ?_;refine rQ 1 ?_;refine rQ 2 ?_;refine rQ 4 ?_;refine rQ 5 ?_;refine rQ 7 ?_;refine rQ 8 ?_) | (refine rQ 10 ?_;refine rQ 11 ?_) | (refine rQ 13 ?_) | refine rB [3,6,9,12] ?_ | (refine wpAnyH_done bC ?_ _;(go_wp2_with fail;go_meet;refine⟨_,_,_,_,_,_,rfl,lH (dH ?tb HZ.o ?k ?gb ?ge X ?ub ?uk U ?fb ?fk ?nu ?ne)⟩;(case tb=>first | rfl | simp);(case k=>first | exact((Aa.refl [] wz).alloc _).drew.trans (D.trans B) | exact((Aa.refl [] wz).drew.trans D).trans (((Aa.refl [] wb).alloc _).trans B) | exact((Aa.refl [] wz).drew.trans (D.trans B)).alloc _);(case gb=>first | exact(Blk.new wz 3 _).drew.keeps (D.trans B) bA | exact(Blk.new wb 3 _).keeps B bA | exact Blk.new wi 3 _);(case ge=>(have:=HZ.o.size;have:=D.size;have:=B.size;simp at *;try omega));(case ub=>(have:=HZ.o.size;have:=D.size;have:=B.size;simp at *;try omega));(case uk=>first | exact B | exact((Aa.refl [] wb).alloc _).trans B | exact B.alloc _);(case fb=>(have:=HZ.o.size;have:=D.size;have:=B.size;simp at *;try omega));(case fk=>first | exact Aa.refl [] _ | exact(Aa.refl [] wi).alloc _);(case nu=>(have:=HZ.o.size;have:=D.size;have:=B.size;simp at *;try omega));(case ne=>(have:=HZ.o.size;have:=D.size;have:=B.size;simp at *;try omega)))))
 case rest=>
  obtain⟨tb,g,ua,uc,fa,fc,rfl,M⟩:=hcut;obtain⟨W2,ai,hg2,E⟩:=VL wc.drew g gn _ M.o.1.gb.drew (by simp [madeCells]) v.ga v.gc s.gens HG.o (HM.o.g.keeps M.o.1.kw.drew);have E:Aa [g] wc W2:=((Aa.refl [g] wc).drew).trans E;have t0:=M.o.1.blk.drew.ce 0;have b0:=(HS.o wc.drew M.o.2.1.drew).2.1;have hE:aN w gn un fn s.used s.free (s.gens.map (pE .i64)).toArray tb W2 g ua uc fa fc:=by
   have F:=M.o.1;have hne:tb≠g:=fun e=>by
    have h1:=F.blk;have h2:=F.gb;rw [e] at h1;unfold Blk at h1 h2;rw [h1] at h2;injection h2 with h2;injection h2 with _ h2 _
    exact absurd h2 bE
   refine⟨F.blk.keeps E aV,hg2,Ah F.u E (fun x hx hm=>F.nu x hx bT),Ah F.f E (fun x hx hm=>F.ne x hx bT),F.ge,F.te,F.nu,F.ne,F.kw.own E (fun y hy=>by have:=F.ge;simp only [Ac,Ab,or_false] at hy;omega)⟩
  have t2:=hE.blk.ce 0;have b2:=((E.cell (p:=A_ w 0) (Be _ _ (HS.o wc M.o.2.1).2.1) (by have h1:=M.o.2.2;have h2:=T.o;simp only [Ac,Ab,or_false];omega)).trans (HS.o wc M.o.2.1).2.1);have HE:=lH hE;clear hE hg2 E;go_upto_region 2 with fail
  refine wp_region_held_drew (S:=(fun w':World=>w'.cell? (A_ tb 0)=some (pF (some (A_ g 0)) gn gn)/\w'.cell? (A_ w 0)=some (pF v.ga gn v.gc))) bC (by((try dsimp only);(first | exact⟨t0,b0⟩ | exact⟨t2,b2⟩))) (fun hHeld=>?_);refine rQ 0 ?_;refine rQ 1 ?_;refine rQ 2 ?_;refine rQ 3 ?_;refine rQ 4 ?_;refine rQ 5 ?_;refine rQ 6 ?_;refine rC 7 fun K hK=>?_;go_simp;refine rO hK (by((try dsimp only);(first | exact⟨t0,b0⟩ | exact⟨t2,b2⟩))) fun hHeld=>?_;clear hK K;refine wpAnyH_done bC ?_ _
  (go_wp2;go_ret;exact⟨_,_,_,_,_,_,rfl,HE.o⟩)
theorem Y5:D1 (prog.info? 44) 2=true:=bC
structure jA(w:World)(v:DF)(s:Fz)(gn fn ob tb pb:Nat)(pre:List (Int×Int))(A:World):Prop where
 run:∃u,A.ownsRow (pb+3) 44 2 u pre.length (pre.flatMap Rt)∧Blk A ob 159 #[u]
 pb:Blk A pb 248 #[pG (some ⟨tb,0,none⟩)]
 tab:Kw A tb v s gn gn fn
 kw:Aa [] w A
theorem jA.keeps{w:World}{v:DF}{s:Fz}{gn fn D E pb:Nat}{B:List (Int×Int)}{A F:World}{S:List Nat}(h:jA w v s gn fn D E pb B A)(hk:Aa S A F)(hS:∀y∈S,pb<y/\y<pb+3)(h1:D<pb)(h2:E<pb)(h3:w.heap.size<=pb)(hm:Dy w v s):jA w v s gn fn D E pb B F:=by
 obtain⟨u,G,J⟩:=h.run;have hn:∀y,y<=pb->y∉S:=fun y hy hm=>by have:=hS y hm;omega
 have hkw:=h.kw.own hk bM;exact⟨⟨u,Ah G hk (fun g hg2 hm=>by have:=(G.lt g hg2).1;have:=hS g hm;omega),J.keeps hk (hn _ bB)⟩,h.pb.keeps hk (hn _ bB),⟨h.tab.blk.keeps hk (hn _ bB),hm.keeps hkw,h.tab.lg,h.tab.lu,h.tab.lf⟩,hkw⟩
theorem U0(v:DF)(s:Fz)(gn un fn:Nat)(hg:s.gens.length=gn)(hu:s.used.length=un)(hf:s.free.length=fn)(w:World)(h:Dy w v s):
  Calls prog 77 #[pH (S_ v gn un fn)] w fun e w'=>∃a c,e = pJ (pF a (Dt s).length c)/\AR Rt 2 w' a c (Dt s)/\Aa [] w w':=by
 refine(callsIn_wide (n:=9)).1 ?_;obtain⟨b,hb⟩:=eX (Dv s);have HB:=lH hb;have HM:=lH h;have HG:=lH hg;have HU:=lH hu;have HF:=lH hf;have HR:=lH (fun W (hkk:Aa [] w W)=>DR v s gn un fn hg hu hf b hb W (h.keeps hkk));have HK0:=lH ((Aa.refl [] w).alloc (.cells (S_ v gn un fn) 26));have an:=lH (Blk.new w 26 (S_ v gn un fn));clear h hg hu hf hb;refine callsIn_of_wp_marks func77 rfl trivial ?_ rfl;simp only [ntmps77,Cz,Av,D4,pL,pM,Bt,Bu,Cd,BD,BH,AL];gi_wp2_with fail;refine⟨trivial,(callsIn_wide.2 (HR.o _ HK0.o)).mono ?_⟩;rintro e w1 ⟨rfl,hk1⟩;have E:=an.o.keeps hk1 bA;have q0:=E.ce 0;have q1:=E.ce 1;have q2:=E.ce 2;have HK1:=lH (HK0.o.trans hk1);clear hk1;cases b with
 | false=>
  have D:Dt s = []:=by unfold Dt;rw [if_neg lT]
  have M:=lH D;clear D E;gi_wp2;refine⟨_,by simp [results,results77,go_sem];rfl,?_⟩;rw [M.o];exact⟨none,0,rfl,AR.none_,HK1.o⟩
 | true=>
  have D:Dt s=usedL 0 s.used s.gens:=by unfold Dt;rw [if_pos HB.o]
  obtain rfl:un=gn:=by
   have:=HB.o;unfold Dv at this;simp only [Af,decide_eq_true_eq] at this;rw [<- HU.o,<- HG.o];omega
  have M:=lH D;have X:un<=1000:=by have:=HM.o.sg;rw [HG.o] at this;exact this
  have af:=lH E;have F:=E.alloc (.cells #[pF none 0 0] 159);have d0:=F.ce 0;have d1:=F.ce 1;have d2:=F.ce 2;clear D E F;gi_wp2_with fail;clear d0 d1 d2 q0 q1 q2;refine⟨trivial,(callsIn_wide.2 (SJ _ _)).mono ?_⟩;rintro e w2 ⟨rfl,Y⟩;gi_wp2_with fail;have hsz:w2.heap.size=w1.heap.size+3:=by rw [<- Y];simp
  have hw1:w.heap.size<w1.heap.size:=by have:=HK1.o.size;have:=Be w1 _ (af.o.cell 0);exact this
  have ah:jA w v s un fn w1 (w1+1) (w1+1+1) [] w2:=by
   have hk2:Aa [] w1 w2:=by rw [<- Y];exact(((Aa.refl [] w1).alloc _).alloc _).alloc _
   refine⟨⟨pF none 0 0,BQ _ _ _ _,?_⟩,?_,⟨?_,HM.o.keeps (HK1.o.trans hk2),HG.o,HU.o,HF.o⟩,HK1.o.trans hk2⟩<;>rw [<- Y]
   ·exact((Blk.new w1 _ _).alloc _).alloc _
   ·exact Ar _ _ _ _ bA
   ·exact(Ar _ _ _ _ bA).alloc _
  have ao:=lH ah;clear ah Y;refine Cc rfl bB (gf:=170) (lb:=#[pG (some (A2 w1 0))]) rfl trivial (enters_of func170 bC rfl) (SK 8 (w1+1+1) (w1+1) v s un fn X) (fun _=>rfl)
   (fun B A=>jA w v s un fn w1 (w1+1) (w1+1+1) B A) (fun _ _=>False)
   (fun B A A' h hk=>h.keeps hk bF bB bB bB HM.o)
   (fun B A A' h hk=>h)
   (fun B A h=>⟨by simpa using h.pb.cell 0,h.tab⟩) ao.o
   (fun x W=>({ tmps:=#[pH (S_ v un un fn),p_ w 0,pF none 0 0,p_ w1 0,.func (.func 131) #[pG (some (A1 w1 0))] #[],p_ W 0,pH (S_ v un un fn),pI true,pI false,pH (S_ v un un fn),pH (S_ v un un fn),p1 w1 0,.func (.func 131) #[pG (some (A1 w1 0))] #[],.func (.func 131) #[pG (some (A1 w1 0))] #[],.func (.func 170) #[] #[pG (some (A2 w1 0))],pH #[pE pK x.1,I_ x.2],UD,UD,UD,UD,UD],defers:=[] },W.alloc (.cells #[pE pK x.1,I_ x.2] 44)))
   (fun x W=>(Aa.refl [] W).alloc _) ?assign ?body ?done ?stop
  case assign=>
   rintro l ⟨x1,x2⟩ W K hK;simp only [RQ];gi_wp2;exact hK
  case body=>
   rintro l B ⟨x1,x2⟩ W W2 hI O ad hk2;dsimp only at hk2 ⊢;have hb:=(Blk.new W 44 #[pE pK x1,I_ x2]).keeps hk2 bI;have N:=(hI.keeps ((Aa.refl [] W).alloc (.cells #[pE pK x1,I_ x2] 44)) bA bB bB bB HM.o).keeps hk2 bF bB bB bB HM.o;obtain⟨u,hrow,J⟩:=N.run;have ay:W.heap.size+1<=W2.heap.size:=by have:=hk2.size;rw [Eo] at this;exact this
   have aj:B.length<=1000:=by
    have h1:=O.length_le;rw [H8 _ _ _ (by rw [HU.o,HG.o])] at h1;have h2:=List.count_le_length (a:=true) (l:=s.used);rw [HU.o] at h2;simp only [Al,Bp] at h1;omega
   obtain⟨g,c,W3,U,T,hk3,ai⟩:=CO (enc:=Rt) prog (t:=159) underlying159 Y5 bE Ru Yn hrow bB (x1,x2) bB 159;have d0:=hb.ce 0;have d1:=hb.ce 1;have q0:=J.ce 0;have hgeS:=AZ hrow;have G:=J.keeps hk3 (fun hm=>by have:=hgeS _ hm;omega);have q3:=G.ce 0;have f3:=G.frozen 0;have aa:=lH (G.set_ 0 (pF (some (A_ g 0)) (B.length+1) c));obtain⟨m,hm⟩:=eX (B.length+1);have HPB:=lH (N.pb.keeps hk3 (fun hm=>by have:=hgeS _ hm;omega));have ab:=N.kw.own hk3 jW;have ap:=lH (N.tab.blk.keeps hk3 (fun hm=>by have:=hgeS _ hm;omega));have HKW:=lH ab;have HROW:=lH T;have HSZ:Hi (W2.heap.size<=W3.heap.size):=lH hk3.size;have am:Hi (∀k∈[w2.heap.size,w2.heap.size+1],W3.heap[k]? = W2.heap[k]?):=lH (fun k hk=>hk3.block k mY (fun hm=>by have:=hgeS k hm;simp only [Ac,Ab,or_false] at hk;omega));have a0:=lH ai;rw [hm] at U aa HROW;simp only [Rt] at U;clear hI O hk2 N hb hrow J aj T hk3 ai hgeS G hm ab;gi_wp2_with (gi_at_builtin;refine EI _ rfl _ _ 159 rfl rfl rfl U ?_);have hk4:Aa [w1.heap.size] W3 (W3.setCell (A_ w1 0) (pF (some (A_ g 0)) m c)):=(Aa.refl _ W3).setCell (p:=A_ w1 0) (.inl bA) _;have ac:=HKW.o.own hk4 bF;refine⟨A8 HSZ.o hk4.size,fun y hy=>(hk4.block y mV iT).trans (am.o y hy),⟨_,?_,aa.o⟩,HPB.o.keeps hk4 bI,⟨ap.o.keeps hk4 bI,HM.o.keeps ac,HG.o,HU.o,HF.o⟩,ac⟩;exact Ah HROW.o hk4 (fun g' aq hm'=>by have:=(HROW.o.lt g' aq).1;simp only [Ac,Ab,or_false] at hm';omega)
  case done=>
   rintro W hI ad hK;obtain⟨u,hrow,J⟩:=hI.run;have q0:=J.ce 0;have HROW:=lH hrow;have HKW:=lH hI.kw;clear hI hrow J;gi_wp2;refine⟨by simp,.inl ⟨_,_,rfl,run_takeDeferred hK,?_⟩⟩;have hk4:=AG (S:=[w2.heap.size]) W (.deferred none) (l:=w2.heap.size) bA;have ae:=Ah HROW.o hk4 (fun g hg hm=>by have:=(HROW.o.lt g hg).1;simp only [Ac,Ab,or_false] at hm;omega);obtain⟨a,c,rfl,ar,_⟩:=AR.of_row Ru ae;refine⟨_,by simp [results,results77,go_sem];rfl,?_⟩;rw [M.o];exact⟨a,c,rfl,ar,HKW.o.own hk4 bF⟩
  case stop=>
   rintro B W O hX ad hK;exact hX.elim
theorem Y4(a b x y:Int)(w:World):(binOp .eql 44 (pH #[pE pK a,I_ x]) (pH #[pE pK b,I_ y])).run prog w = .ok (pI (decide ((a,x)=(b,y)))) w:=by
 have hS:prog.underlying 44=some (.struct (prog.fieldsOf 44)):=bC;have hp:prog.stoodInHeld 44=false:=bC;rw [run_eql_struct,show(10000:Nat)=9999+1 from rfl,run_equalIn_agg w 9999 44 _ _ hS hp];simp only [CK,underlying44];go_simp;by_cases h1:a=b<;>by_cases h2:x=y<;>simp [h1,h2]
theorem L4(v:DF)(s:Fz)(gn un fn:Nat)(hg:s.gens.length=gn)(hu:s.used.length=un)(hf:s.free.length=fn)(x y:Int)(b:Bool)(hb:decide ((x,y)∈Dt s)=b)(w:World)(h:Dy w v s):
  Calls prog 204 #[pH (S_ v gn un fn),pH #[pE pK x,I_ y]] w fun e w'=>e = pJ (pI b)/\Aa [] w w':=by
 have HA:=lH (fun W (hk:Aa [] w W)=>U0 v s gn un fn hg hu hf W (h.keeps hk));have B:(Dt s).length<=1000:=by
  unfold Dt;split
  ·rename_i hs
   have h1:s.used.length=s.gens.length:=by
    unfold Dv at hs;simp only [Af,decide_eq_true_eq] at hs;omega
   rw [H8 _ _ _ h1];have h2:=List.count_le_length (a:=true) (l:=s.used);have:=h.su;omega
  ·simp
 have hgd:prog.eqGuardType prog.depth 44=false:=bC;have HK0:=lH (((Aa.refl [] w).alloc (.cells (S_ v gn un fn) 26)).alloc (.cells #[pE pK x,I_ y] 44));have N:=lH (Ar (w.alloc (.cells (S_ v gn un fn) 26)) 44 #[pE pK x,I_ y] (w+1) bA);obtain⟨L,hL⟩:=eX (Dt s);rw [hL] at hb HA B;have HB:=lH hb;clear h hg hu hf hb hL;go_enter func204,ntmps204;go_wp2_with fail;refine(HA.o _ HK0.o).mono ?_;rintro e w1 ⟨a,c,rfl,M,hk⟩;obtain⟨n,hn⟩:=eX L.length;have HS:=lH M;have HK:=lH (HK0.o.trans hk);have HN:=lH hn;have HB1:=lH (N.o.keeps hk bA);rw [hn] at B ⊢;clear M hk hn;go_wp2_with fail;go_loopw [10] (fun i wr=>∃k:Nat,i = I_ k/\k<=n/\Hi ((x,y)∉L.take k)/\Hi (Aa [] w1 wr)) (fun i _=>n - (intOf i).toNat)
 case atStart=>exact⟨0,rfl,Ba _,lH bA,lH (Aa.refl [] w1)⟩
 case round=>
  obtain⟨k,rfl,hk,HP,D⟩:=hrel;by_cases hlt:k<n
  ·obtain⟨g,off,⟨G,z2⟩,rfl,hg,hx,hat⟩:=HS.o.at_k (k:=k) bO
   have U:=hat 0 (I_ G) rfl;have X:=hat 1 (I_ z2) rfl;rw [AT] at U;rw [<- D.o.cell (p:=A_ g (off+k*2)) hg bA] at U;rw [<- D.o.cell (p:=A_ g (off+k*2+1)) hg bA] at X;have i1:(0:Int)<=(k:Int):=bB;have i2:(k:Int)<(n:Int):=bB;have hb2:=(HB1.o.keeps D.o bA).alloc (.cells #[pE pK G,I_ z2] 44);have Y:=hb2.ce 0;have d1:=hb2.ce 1;have F:=Blk.new wr 44 #[pE pK G,I_ z2];have e0:=F.ce 0;have e1:=F.ce 1;have J:=fun W=>Y4 G x z2 y W;have T:=lH hx;have HK2:=lH (D.o.alloc (.cells #[pE pK G,I_ z2] 44));clear hat hg hx hb2 F;by_cases he:(G,z2)=(x,y)
   ·have E:b=true:=by rw [<- HB.o,<- he];exact decide_eq_true (CD T.o)
    subst E;simp only [decide_eq_true he] at J;clear he;go_wp2;go_ret;exact⟨rfl,HK.o.trans HK2.o⟩
   ·simp only [decide_eq_false he] at J
    have O:Hi ((x,y)∉L.take (k+1)):=lH (by rw [A0 T.o,AQ,Ag];exact fun h=>h.elim HP.o (fun e=>he e.symm));clear he;go_wp2;go_roundw;case rel=>exact⟨k+1,by go_num,by omega,O,HK2⟩
    case measure=>simp [intOf];omega
  ·obtain rfl:k=n:=bB;have E:b=false:=by
    rw [<- HB.o];have:=HP.o;rw [Ak bL] at this;exact decide_eq_false this
   subst E;go_wp2;go_ret;exact⟨rfl,HK.o.trans D.o⟩
theorem KD(B E:ByteArray)(D F:Int)(a2 G:ByteArray)(w:World):(Op.equalIn 10000 73 (pH #[Dz B,I_ D,Dz a2]) (pH #[Dz E,I_ F,Dz G])).run prog w = .ok (decide ((⟨B,D,a2⟩:IA)=⟨E,F,G⟩)) w:=by
 have J:prog.underlying 73=some (.struct (prog.fieldsOf 73)):=bC;have M:prog.stoodInHeld 73=false:=bC;rw [show(10000:Nat)=9999+1 from rfl,run_equalIn_agg w 9999 73 _ _ J M];simp only [CK,underlying73];go_simp;by_cases h:B=E;rotate_left
 ·have h2:=GR h
  simp [h,h2]
 subst h;by_cases h:D=F;rotate_left
 ·simp [h]
 subst h;by_cases h:a2=G;rotate_left
 ·have h2:=GR h
  simp [h,h2]
 subst h;simp
end
end Go.Proofs.YtjieiikpolahfaaGreatDoor
