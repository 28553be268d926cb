/- Steps. -/
import Derived.Test.YtjieiikpolahfaaGreatDoorKac
import Derived.Deep.RegionHeld3
set_option maxRecDepth 100000
set_option maxHeartbeats 8000000
set_option linter.all false
namespace Go.Proofs.YtjieiikpolahfaaGreatDoor
open Tryz
open _root_.Bool renaming and_eq_true→Af,eq_iff_iff→DI
open Ending renaming returned→pJ
open IntKind renaming i64→pK
open _root_.List renaming mem_of_getElem?→CD,take_of_length_le→Ak
open _root_.Nat renaming add_zero→AT,le_refl→Aw,mul_one→pR,zero_le→Ba
open Oper renaming semAt_some→pN
open Program renaming fieldsOf→CK
open Value renaming agg→pH,bool→pI,int→pE,slice→pF,string→Dz
section
open Go.RowKit Go.Shelf
attribute [local go_sem] pN
attribute [local go_sem ↓] wp_at_zero wp_at_succ
theorem Yq(a a2:Option Addr)(c c2:Nat)(xs ys:List Int)(n m:Nat)(hn:xs.length=n)(hm:ys.length=m)(hL:n<=1000000)(F:m<=1000000)(r:Bool)(hr:decide (xs=ys)=r)(w:World)(h:AR Fb 1 w a c xs)(h2:AR Fb 1 w a2 c2 ys):
  Calls prog 104 #[pF a n c,pF a2 m c2] w fun e w'=>e = pJ (pI r)/\Aa [] w w':=by
 have HH:=lH h;have H2:=lH h2;have HN:=lH hn;have HM:=lH hm;have HR:=lH hr
 skip
 clear h h2 hn hm hr;by_cases hnm:n=m;rotate_left
 ·have f1:((n:Int) != (m:Int))=true:=by simp;omega
  obtain rfl:r=false:=by rw [<- HR.o];exact decide_eq_false (fun e=>hnm gH)
  clear hnm;go_enter func104,ntmps104;go_wp2;go_ret;exact⟨rfl,Aa.refl [] w⟩
 subst hnm;go_enter func104,ntmps104;go_wp2;go_loopw [13] (fun i wr=>∃k:Nat,i = I_ k/\k<=n/\Hi (xs.take k=ys.take k)/\Hi (Aa [] w wr)) (fun i _=>n - (intOf i).toNat)
 case atStart=>exact⟨0,rfl,Ba _,lH rfl,lH (Aa.refl [] w)⟩
 case round=>
  obtain⟨k,rfl,hk,HP,HK⟩:=hrel;by_cases hlt:k<n
  ·obtain⟨g1,o1,B,rfl,hg1,hx1,hat1⟩:=(HH.o.keeps HK.o).at_k (k:=k) bO
   obtain⟨g2,o2,D,rfl,hg2,hx2,hat2⟩:=(H2.o.keeps HK.o).at_k (k:=k) fD;have G:=hat1 0 (I_ B) rfl;have J:=hat2 0 (I_ D) rfl;rw [AT,pR] at G;rw [AT,pR] at J;have i1:(0:Int)<=(k:Int):=bB;have i2:(k:Int)<(n:Int):=bB;have HX1:=lH hx1;have HX2:=lH hx2
   skip
   clear hat1 hat2 hg1 hg2 hx1 hx2;by_cases he:(B:Int)=D
   ·have hne:(B != D)=false:=by simpa using he
    have E:Hi (xs.take (k+1)=ys.take (k+1)):=lH gF;clear he;go_wp2;go_quiet (fail);go_wp2;go_roundw;case rel=>exact⟨k+1,by go_num,by omega,E,lH (HK.o.drewN _)⟩
    case measure=>simp [intOf];omega
   ·have hne:(B != D)=true:=by simpa using he
    obtain rfl:r=false:=by
     rw [<- HR.o];refine decide_eq_false (fun e=>he ?_);have h1:=HX1.o;rw [e,HX2.o] at h1;injection h1 with h1
     exact h1.symm
    clear he;go_wp2;go_quiet (fail);go_wp2;go_ret;exact⟨rfl,HK.o.drewN _⟩
  ·obtain rfl:k=n:=bB;obtain rfl:r=true:=by
    rw [<- HR.o];have:=HP.o;rw [Ak bL,Ak gG] at this;exact decide_eq_true this
   go_wp2;go_ret;exact⟨rfl,HK.o⟩
theorem cJ(a a2:Option Addr)(c c2:Nat)(xs ys:List Bool)(n m:Nat)(hn:xs.length=n)(hm:ys.length=m)(hL:n<=1000000)(F:m<=1000000)(r:Bool)(hr:decide (xs=ys)=r)(w:World)(h:AR JM 1 w a c xs)(h2:AR JM 1 w a2 c2 ys):
  Calls prog 105 #[pF a n c,pF a2 m c2] w fun e w'=>e = pJ (pI r)/\Aa [] w w':=by
 have HH:=lH h;have H2:=lH h2;have HN:=lH hn;have HM:=lH hm;have HR:=lH hr
 skip
 clear h h2 hn hm hr;by_cases hnm:n=m;rotate_left
 ·have f1:((n:Int) != (m:Int))=true:=by simp;omega
  obtain rfl:r=false:=by rw [<- HR.o];exact decide_eq_false (fun e=>hnm gH)
  clear hnm;go_enter func105,ntmps105;go_wp2;go_ret;exact⟨rfl,Aa.refl [] w⟩
 subst hnm;go_enter func105,ntmps105;go_wp2;go_loopw [13] (fun i wr=>∃k:Nat,i = I_ k/\k<=n/\Hi (xs.take k=ys.take k)/\Hi (Aa [] w wr)) (fun i _=>n - (intOf i).toNat)
 case atStart=>exact⟨0,rfl,Ba _,lH rfl,lH (Aa.refl [] w)⟩
 case round=>
  obtain⟨k,rfl,hk,HP,HK⟩:=hrel;by_cases hlt:k<n
  ·obtain⟨g1,o1,B,rfl,hg1,hx1,hat1⟩:=(HH.o.keeps HK.o).at_k (k:=k) bO
   obtain⟨g2,o2,D,rfl,hg2,hx2,hat2⟩:=(H2.o.keeps HK.o).at_k (k:=k) fD;have G:=hat1 0 (pI B) rfl;have J:=hat2 0 (pI D) rfl;rw [AT,pR] at G;rw [AT,pR] at J;have i1:(0:Int)<=(k:Int):=bB;have i2:(k:Int)<(n:Int):=bB;have HX1:=lH hx1;have HX2:=lH hx2
   skip
   clear hat1 hat2 hg1 hg2 hx1 hx2;by_cases he:(B:Bool)=D
   ·have hne:(!(B==D))=false:=by simpa using he
    have E:Hi (xs.take (k+1)=ys.take (k+1)):=lH gF;clear he;go_wp2;go_quiet (fail);go_wp2;go_roundw;case rel=>exact⟨k+1,by go_num,by omega,E,lH (HK.o.drewN _)⟩
    case measure=>simp [intOf];omega
   ·have hne:(!(B==D))=true:=by simpa using he
    obtain rfl:r=false:=by
     rw [<- HR.o];refine decide_eq_false (fun e=>he ?_);have h1:=HX1.o;rw [e,HX2.o] at h1;injection h1 with h1
     exact h1.symm
    clear he;go_wp2;go_quiet (fail);go_wp2;go_ret;exact⟨rfl,HK.o.drewN _⟩
  ·obtain rfl:k=n:=bB;obtain rfl:r=true:=by
    rw [<- HR.o];have:=HP.o;rw [Ak bL,Ak gG] at this;exact decide_eq_true this
   go_wp2;go_ret;exact⟨rfl,HK.o⟩
theorem Ya(D J:Bool)(E M:Int)(a2 N:Int)(F O:Int)(G T:Int)(w:World):(Op.equalIn 10000 55 (pH #[pI D,I_ E,I_ a2,I_ F,I_ G]) (pH #[pI J,I_ M,I_ N,I_ O,I_ T])).run prog w = .ok (decide ((⟨D,E,a2,F,G⟩:EX)=⟨J,M,N,O,T⟩)) w:=by
 have B:prog.underlying 55=some (.struct (prog.fieldsOf 55)):=bC;have Y:prog.stoodInHeld 55=false:=bC;have U:prog.underlying 51=some (.struct (prog.fieldsOf 51)):=bC;have aa:prog.stoodInHeld 51=false:=bC;have X:prog.underlying 53=some (.struct (prog.fieldsOf 53)):=bC;have ab:prog.stoodInHeld 53=false:=bC;rw [show(10000:Nat)=9999+1 from rfl,run_equalIn_agg w 9999 55 _ _ B Y];simp only [CK,underlying55,underlying51,underlying53];simp only [CK,underlying55,underlying51,underlying53] at B U X;simp [go_sem,CK,underlying55,underlying51,underlying53,aa,ab];by_cases h:D=J;rotate_left
 ·simp [h]
 subst h;by_cases h:E=M;rotate_left
 ·simp [h]
 subst h;by_cases h:a2=N;rotate_left
 ·simp [h]
 subst h;by_cases h:F=O;rotate_left
 ·simp [h]
 subst h;by_cases h:G=T;rotate_left
 ·simp [h]
 subst h;simp
theorem YT(B G:Bool)(D J:Int)(a2 M:Int)(E N:Int)(F O:Int)(w:World):(binOp .neq 55 (pH #[pI B,I_ D,I_ a2,I_ E,I_ F]) (pH #[pI G,I_ J,I_ M,I_ N,I_ O])).run prog w = .ok (pI (!decide ((⟨B,D,a2,E,F⟩:EX)=⟨G,J,M,N,O⟩))) w:=by rw [run_neq_struct,Ya];rfl
theorem cI(a a2:Option Addr)(c c2:Nat)(xs ys:List EX)(n m:Nat)(hn:xs.length=n)(hm:ys.length=m)(hL:n<=1000000)(U:m<=1000000)(r:Bool)(hr:decide (xs=ys)=r)(w:World)(h:AR B8 5 w a c xs)(h2:AR B8 5 w a2 c2 ys):
  Calls prog 106 #[pF a n c,pF a2 m c2] w fun e w'=>e = pJ (pI r)/\Aa [] w w':=by
 have HH:=lH h;have H2:=lH h2;have HN:=lH hn;have HM:=lH hm;have HR:=lH hr;have hgd:prog.eqGuardType prog.depth 55=false:=bC;clear h h2 hn hm hr;by_cases hnm:n=m;rotate_left
 ·have f1:((n:Int) != (m:Int))=true:=by simp;omega
  obtain rfl:r=false:=by rw [<- HR.o];exact decide_eq_false (fun e=>hnm gH)
  clear hnm;go_enter func106,ntmps106;go_wp2;go_ret;exact⟨rfl,Aa.refl [] w⟩
 subst hnm;go_enter func106,ntmps106;go_wp2;go_loopw [13] (fun i wr=>∃k:Nat,i = I_ k/\k<=n/\Hi (xs.take k=ys.take k)/\Hi (Aa [] w wr)) (fun i _=>n - (intOf i).toNat)
 case atStart=>exact⟨0,rfl,Ba _,lH rfl,lH (Aa.refl [] w)⟩
 case round=>
  obtain⟨k,rfl,hk,HP,HK⟩:=hrel;by_cases hlt:k<n
  ·obtain⟨g1,o1,⟨D,E,a2,F,G⟩,rfl,hg1,hx1,hat1⟩:=(HH.o.keeps HK.o).at_k (k:=k) bO
   obtain⟨g2,o2,⟨J,M,N,O,T⟩,rfl,hg2,hx2,hat2⟩:=(H2.o.keeps HK.o).at_k (k:=k) fD;have X:=hat1 0 (pI D) rfl;have p1:=hat1 1 (I_ E) rfl;have p2:=hat1 2 (I_ a2) rfl;have p3:=hat1 3 (I_ F) rfl;have p4:=hat1 4 (I_ G) rfl;have Y:=hat2 0 (pI J) rfl;have q1:=hat2 1 (I_ M) rfl;have q2:=hat2 2 (I_ N) rfl;have q3:=hat2 3 (I_ O) rfl;have q4:=hat2 4 (I_ T) rfl;rw [AT] at X;rw [AT] at Y;have i1:(0:Int)<=(k:Int):=bB;have i2:(k:Int)<(n:Int):=bB;have HX1:=lH hx1;have HX2:=lH hx2;have hne:=fun W=>YT D J E M a2 N F O G T W;clear hat1 hat2 hg1 hg2 hx1 hx2;by_cases he:(⟨D,E,a2,F,G⟩:EX)=⟨J,M,N,O,T⟩
   ·simp only [decide_eq_true he,Bool.not_true] at hne
    have B:Hi (xs.take (k+1)=ys.take (k+1)):=lH gF;clear he;go_wp2;go_quiet (fail);go_wp2;go_roundw;case rel=>exact⟨k+1,by go_num,by omega,B,lH (HK.o.drewN _)⟩
    case measure=>simp [intOf];omega
   ·simp only [decide_eq_false he,Bool.not_false] at hne
    obtain rfl:r=false:=by
     rw [<- HR.o];refine decide_eq_false (fun e=>he ?_);have h1:=HX1.o;rw [e,HX2.o] at h1;injection h1 with h1
     exact h1.symm
    clear he;go_wp2;go_quiet (fail);go_wp2;go_ret;exact⟨rfl,HK.o.drewN _⟩
  ·obtain rfl:k=n:=bB;obtain rfl:r=true:=by
    rw [<- HR.o];have:=HP.o;rw [Ak bL,Ak gG] at this;exact decide_eq_true this
   go_wp2;go_ret;exact⟨rfl,HK.o⟩
theorem XZ(B F:Int)(D G:ByteArray)(a2 J:Int)(E M:Int)(w:World):(Op.equalIn 10000 209 (pH #[pE pK B,Dz D,I_ a2,I_ E]) (pH #[pE pK F,Dz G,I_ J,I_ M])).run prog w = .ok (decide ((⟨B,D,a2,E⟩:El)=⟨F,G,J,M⟩)) w:=by
 have N:prog.underlying 209=some (.struct (prog.fieldsOf 209)):=bC;have O:prog.stoodInHeld 209=false:=bC;rw [show(10000:Nat)=9999+1 from rfl,run_equalIn_agg w 9999 209 _ _ N O];simp only [CK,underlying209];go_simp;by_cases h:B=F;rotate_left
 ·simp [h]
 subst h;by_cases h:D=G;rotate_left
 ·have h2:=GR h
  simp [h,h2]
 subst h;by_cases h:a2=J;rotate_left
 ·simp [h]
 subst h;by_cases h:E=M;rotate_left
 ·simp [h]
 subst h;simp
theorem YS(B F:Int)(D G:ByteArray)(a2 J:Int)(E M:Int)(w:World):(binOp .neq 209 (pH #[pE pK B,Dz D,I_ a2,I_ E]) (pH #[pE pK F,Dz G,I_ J,I_ M])).run prog w = .ok (pI (!decide ((⟨B,D,a2,E⟩:El)=⟨F,G,J,M⟩))) w:=by rw [run_neq_struct,XZ];rfl
theorem cH(a a2:Option Addr)(c c2:Nat)(xs ys:List El)(n m:Nat)(hn:xs.length=n)(hm:ys.length=m)(hL:n<=1000000)(O:m<=1000000)(r:Bool)(hr:decide (xs=ys)=r)(w:World)(h:AR BT 4 w a c xs)(h2:AR BT 4 w a2 c2 ys):
  Calls prog 107 #[pF a n c,pF a2 m c2] w fun e w'=>e = pJ (pI r)/\Aa [] w w':=by
 have HH:=lH h;have H2:=lH h2;have HN:=lH hn;have HM:=lH hm;have HR:=lH hr;have hgd:prog.eqGuardType prog.depth 209=false:=bC;clear h h2 hn hm hr;by_cases hnm:n=m;rotate_left
 ·have f1:((n:Int) != (m:Int))=true:=by simp;omega
  obtain rfl:r=false:=by rw [<- HR.o];exact decide_eq_false (fun e=>hnm gH)
  clear hnm;go_enter func107,ntmps107;go_wp2;go_ret;exact⟨rfl,Aa.refl [] w⟩
 subst hnm;go_enter func107,ntmps107;go_wp2;go_loopw [13] (fun i wr=>∃k:Nat,i = I_ k/\k<=n/\Hi (xs.take k=ys.take k)/\Hi (Aa [] w wr)) (fun i _=>n - (intOf i).toNat)
 case atStart=>exact⟨0,rfl,Ba _,lH rfl,lH (Aa.refl [] w)⟩
 case round=>
  obtain⟨k,rfl,hk,HP,HK⟩:=hrel;by_cases hlt:k<n
  ·obtain⟨g1,o1,⟨D,E,a2,F⟩,rfl,hg1,hx1,hat1⟩:=(HH.o.keeps HK.o).at_k (k:=k) bO
   obtain⟨g2,o2,⟨G,J,M,N⟩,rfl,hg2,hx2,hat2⟩:=(H2.o.keeps HK.o).at_k (k:=k) fD;have T:=hat1 0 (I_ D) rfl;have p1:=hat1 1 (Dz E) rfl;have p2:=hat1 2 (I_ a2) rfl;have p3:=hat1 3 (I_ F) rfl;have U:=hat2 0 (I_ G) rfl;have X:=hat2 1 (Dz J) rfl;have Y:=hat2 2 (I_ M) rfl;have q3:=hat2 3 (I_ N) rfl;rw [AT] at T;rw [AT] at U;have i1:(0:Int)<=(k:Int):=bB;have i2:(k:Int)<(n:Int):=bB;have HX1:=lH hx1;have HX2:=lH hx2;have hne:=fun W=>YS D G E J a2 M F N W;clear hat1 hat2 hg1 hg2 hx1 hx2;by_cases he:(⟨D,E,a2,F⟩:El)=⟨G,J,M,N⟩
   ·simp only [decide_eq_true he,Bool.not_true] at hne
    have B:Hi (xs.take (k+1)=ys.take (k+1)):=lH gF;clear he;go_wp2;go_quiet (fail);go_wp2;go_roundw;case rel=>exact⟨k+1,by go_num,by omega,B,lH (HK.o.drewN _)⟩
    case measure=>simp [intOf];omega
   ·simp only [decide_eq_false he,Bool.not_false] at hne
    obtain rfl:r=false:=by
     rw [<- HR.o];refine decide_eq_false (fun e=>he ?_);have h1:=HX1.o;rw [e,HX2.o] at h1;injection h1 with h1
     exact h1.symm
    clear he;go_wp2;go_quiet (fail);go_wp2;go_ret;exact⟨rfl,HK.o.drewN _⟩
  ·obtain rfl:k=n:=bB;obtain rfl:r=true:=by
    rw [<- HR.o];have:=HP.o;rw [Ak bL,Ak gG] at this;exact decide_eq_true this
   go_wp2;go_ret;exact⟨rfl,HK.o⟩
theorem WV(v v2:DF)(s G:Fz)(gn un fn E F D:Nat)(hg:s.gens.length=gn)(hu:s.used.length=un)(hf:s.free.length=fn)(hg2:G.gens.length=E)(Y:G.used.length=F)(X:G.free.length=D)(b:Bool)(hb:decide (s=G)=b)(w:World)(h:Dy w v s)(h2:Dy w v2 G):
  Calls prog 46 #[pH (S_ v gn un fn),pH (S_ v2 E F D)] w fun e w'=>e = pJ (pI b)/\Aa [] w w':=by
 obtain⟨r1,O⟩:=eX (decide (s.gens=G.gens));obtain⟨r2,T⟩:=eX (decide (s.used=G.used));obtain⟨r3,U⟩:=eX (decide (s.free=G.free));have N:b=(r1&&(r2&&r3)):=by
  rw [<- hb,<- O,<- T,<- U,DI];obtain⟨x1,x2,x3⟩:=s;obtain⟨y1,y2,y3⟩:=G;simp
 have B:=((Aa.refl [] w).alloc (.cells (S_ v gn un fn) 26)).alloc (.cells (S_ v2 E F D) 26);obtain⟨wz,hwz⟩:=eX (((w.alloc (.cells (S_ v gn un fn) 26)).alloc (.cells (S_ v2 E F D) 26)));have J:Blk wz w 26 (S_ v gn un fn):=by rw [<- hwz];exact(Blk.new w _ _).alloc _
 have M:Blk wz (w+1) 26 (S_ v2 E F D):=by rw [<- hwz];exact Ar _ _ _ _ bA
 rw [hwz] at B;have H1:=lH (fun W (hk:Aa [] wz W)=>Yq v.ga v2.ga v.gc v2.gc s.gens G.gens gn E hg hg2 (by have:=h.sg;omega) (by have:=h2.sg;omega) r1 O W (h.g.keeps (B.trans hk)) (h2.g.keeps (B.trans hk)));have H2:=lH (fun W (hk:Aa [] wz W)=>cJ v.ua v2.ua v.uc v2.uc s.used G.used un F hu Y (by have:=h.su;omega) (by have:=h2.su;omega) r2 T W (h.u.keeps (B.trans hk)) (h2.u.keeps (B.trans hk)));have H3:=lH (fun W (hk:Aa [] wz W)=>Yq v.fa v2.fa v.fc v2.fc s.free G.free fn D hf X (by have:=h.sf;omega) (by have:=h2.sf;omega) r3 U W (h.f.keeps (B.trans hk)) (h2.f.keeps (B.trans hk)));have HB1:=lH J;have HB2:=lH M;have HK0:=lH B;have p0:=J.ce 0;have q0:=M.ce 0;clear h h2 hg hu hf hg2 Y X hb O T U B J M;go_enter func46,ntmps46;go_wp2_with fail;clear hwz;refine(H1.o wz (Aa.refl [] wz)).mono ?_;rintro e w1 ⟨rfl,hk1⟩;have HK1:=lH hk1;cases r1 with
 | false=>
  obtain rfl:b=false:=N;clear p0 q0 hk1;go_wp2;go_ret;exact⟨rfl,HK0.o.trans HK1.o⟩
 | true=>
  have p1:=(HB1.o.keeps hk1 bA).ce 1;have q1:=(HB2.o.keeps hk1 bA).ce 1;clear p0 q0 hk1;go_wp2_with fail;refine(H2.o w1 HK1.o).mono ?_;rintro e w2 ⟨rfl,hk2⟩;have HK2:=lH (HK1.o.trans hk2);cases r2 with
  | false=>
   obtain rfl:b=false:=N;clear p1 q1 hk2;go_wp2;go_ret;exact⟨rfl,HK0.o.trans HK2.o⟩
  | true=>
   obtain rfl:b=r3:=N;have p2:=(HB1.o.keeps HK2.o bA).ce 2;have q2:=(HB2.o.keeps HK2.o bA).ce 2;clear p1 q1 hk2;go_wp2_with fail;refine(H3.o w2 HK2.o).mono ?_;rintro e w3 ⟨rfl,hk3⟩;have aa:=lH (HK2.o.trans hk3);clear p2 q2 hk3;go_wp2;go_ret;exact⟨rfl,HK0.o.trans aa.o⟩
theorem eT(s t:Ten):decide (s=t)=(decide ((s.slot,s.gen)=(t.slot,t.gen))&&(decide (s.name=t.name)&&(decide (s.state=t.state)&&(decide (s.version=t.version)&&(decide (s.deadline=t.deadline)&&(decide (s.rules=t.rules)&&decide (s.creds=t.creds))))))):=by
 obtain⟨F,a2,G,J,M,N,O,a8⟩:=s;obtain⟨T,U,X,Y,b5,b6,b7,b8⟩:=t;rw [DI];simp only [Af,decide_eq_true_eq,Ten.mk.injEq,Prod.mk.injEq];constructor
 ·rintro⟨h1,h2,h3,h4,B,D,E,h8⟩;exact⟨⟨h1,h2⟩,h3,h4,B,h8,D,E⟩
 ·rintro⟨⟨h1,h2⟩,h3,h4,B,h8,D,E⟩;exact⟨h1,h2,h3,h4,B,D,E,h8⟩
theorem TF(p q:TV)(s t:Ten)(hs:s.rules.length<=1000/\s.creds.length<=1000)(ht:t.rules.length<=1000/\t.creds.length<=1000)(b:Bool)(hb:decide (s=t)=b)(w:World)(h:Cj w p s)(h2:Cj w q t):
  Calls prog 48 #[pH (T_ p),pH (T_ q)] w fun e w'=>e = pJ (pI b)/\Aa [] w w':=by
 obtain⟨wz,hwz⟩:=eX ((w.alloc (.cells (T_ p) 131)).alloc (.cells (T_ q) 131));have HZ:Hi (Aa [] w wz):=lH lY;have HB0:Hi (Blk wz w 131 (T_ p)):=lH kI;have HB1:Hi (Blk wz (w+1) 131 (T_ q)):=lH aF;rw [eT,<- h.slot,<- h.gen,<- h2.slot,<- h2.gen,<- h.name,<- h2.name,<- h.state,<- h2.state,<- h.version,<- h2.version,<- h.deadline,<- h2.deadline] at hb;obtain⟨y1,B⟩:=eX (decide ((p.slot,p.gen)=(q.slot,q.gen)));obtain⟨y2,D⟩:=eX (decide (p.name=q.name));obtain⟨y3,E⟩:=eX (decide (p.state=q.state));obtain⟨y4,F⟩:=eX (decide (p.version=q.version));obtain⟨y5,G⟩:=eX (decide (p.deadline=q.deadline));obtain⟨Y,J⟩:=eX (decide (s.rules=t.rules));obtain⟨y7,M⟩:=eX (decide (s.creds=t.creds));rw [B,D,E,F,G,J,M] at hb;have N:=lH (fun W (hk:Aa [] w W)=>cI p.ra q.ra p.rc q.rc s.rules t.rules p.rl q.rl h.rl h2.rl (by have:=h.rl;omega) (by have:=h2.rl;omega) Y J W (h.rs.keeps hk) (h2.rs.keeps hk));have O:=lH (fun W (hk:Aa [] w W)=>cH p.ca q.ca p.cc q.cc s.creds t.creds p.cl q.cl h.cl h2.cl (by have:=h.cl;omega) (by have:=h2.cl;omega) y7 M W (h.cs.keeps hk) (h2.cs.keeps hk));have HB:=lH hb;have hgd:prog.eqGuardType prog.depth 44=false:=bC;have T:=fun W=>Y4 p.slot q.slot p.gen q.gen W;rw [B] at T;have f2:(p.name.toList==q.name.toList)=y2:=by
  rw [<- D,DI];simp only [beq_iff_eq,decide_eq_true_eq];exact⟨fun e=>by by_cases hh:p.name=q.name;exact hh;exact absurd e (GR hh),fun e=>by rw [e]⟩
 have f3:(p.state==q.state)=y3:=by rw [<- E,DI];simp
 have f4:(p.version==q.version)=y4:=by rw [<- F,DI];simp
 have f5:(p.deadline==q.deadline)=y5:=by rw [<- G,DI];simp
 have d5:=HB0.o.ce 5;have U:=HB0.o.ce 6;have e5:=HB1.o.ce 5;have X:=HB1.o.ce 6;have d0:=HB0.o.ce 0;have d1:=HB0.o.ce 1;have d2:=HB0.o.ce 2;have d3:=HB0.o.ce 3;have d4:=HB0.o.ce 4;have d7:=HB0.o.ce 7;have e0:=HB1.o.ce 0;have e1:=HB1.o.ce 1;have e2:=HB1.o.ce 2;have e3:=HB1.o.ce 3;have e4:=HB1.o.ce 4;have e7:=HB1.o.ce 7;clear hs ht hb h h2 B D E F G J M;cases y1 with
 | false=>
  obtain rfl:b=false:=by rw [<- HB.o];simp
  go_enter func48,ntmps48;go_wp2;go_ret;exact⟨rfl,HZ.o⟩
 | true=>
  cases y2 with
  | false=>
   obtain rfl:b=false:=by rw [<- HB.o];simp
   go_enter func48,ntmps48;go_wp2;go_ret;exact⟨rfl,HZ.o⟩
  | true=>
   cases y3 with
   | false=>
    obtain rfl:b=false:=by rw [<- HB.o];simp
    go_enter func48,ntmps48;go_wp2;go_ret;exact⟨rfl,HZ.o⟩
   | true=>
    cases y4 with
    | false=>
     obtain rfl:b=false:=by rw [<- HB.o];simp
     go_enter func48,ntmps48;go_wp2;go_ret;exact⟨rfl,HZ.o⟩
    | true=>
     cases y5 with
     | false=>
      obtain rfl:b=false:=by rw [<- HB.o];simp
      go_enter func48,ntmps48;go_wp2;go_ret;exact⟨rfl,HZ.o⟩
     | true=>
      go_enter func48,ntmps48;go_wp2_with fail;refine(N.o _ HZ.o).mono ?_;rintro e w1 ⟨rfl,hk1⟩;have HK1:=lH (HZ.o.trans hk1);clear d0 d1 d2 d3 d4 d5 U d7 e0 e1 e2 e3 e4 e5 X e7;have U:=(HB0.o.keeps hk1 bA).ce 6;have X:=(HB1.o.keeps hk1 bA).ce 6;clear hk1 hwz;cases Y with
      | false=>
       obtain rfl:b=false:=by rw [<- HB.o];simp
       go_wp2;go_ret;exact⟨rfl,HK1.o⟩
      | true=>
       obtain rfl:b=y7:=by rw [<- HB.o];simp
       go_wp2_with fail;refine(O.o _ HK1.o).mono ?_;rintro e w2 ⟨rfl,hk2⟩;have HK2:=lH (HK1.o.trans hk2);clear hk2;go_wp2;go_ret;exact⟨rfl,HK2.o⟩
theorem Tu(a a2:Option Addr)(c c2:Nat)(V V2:List TV)(xs ys:List Ten)(n m:Nat)(hn:V.length=n)(hm:V2.length=m)(hL:n<=1000)(am:m<=1000)(O:∀t∈xs,t.rules.length<=1000/\t.creds.length<=1000)(E:∀t∈ys,t.rules.length<=1000/\t.creds.length<=1000)(r:Bool)(hr:decide (xs=ys)=r)(w:World)(h:AR BE 8 w a c V)(h2:AR BE 8 w a2 c2 V2)(ht:AX w V xs)(F:AX w V2 ys):
  Calls prog 47 #[pF a n c,pF a2 m c2,.func (.func 48) #[] #[]] w fun e w'=>e = pJ (pI r)/\Aa [] w w':=by
 have G:Hi (xs.length=n):=lH (by rw [<- ht.len];exact hn);have J:Hi (ys.length=m):=lH (by rw [<- F.len];exact hm);have HH:=lH h;have H2:=lH h2;have HT:=lH ht;have Y:=lH F;have HN:=lH hn;have HM:=lH hm;have HR:=lH hr;have U:=lH O;have X:=lH E;clear h h2 hn hm hr ht F O E;by_cases hnm:n=m;rotate_left
 ·have f1:((n:Int) != (m:Int))=true:=by simp;omega
  obtain rfl:r=false:=by rw [<- HR.o];exact decide_eq_false (fun e=>hnm (by rw [<- G.o,<- J.o,e]))
  clear hnm;go_enter func47,ntmps47;go_wp2;go_ret;exact⟨rfl,Aa.refl [] w⟩
 subst hnm;go_enter func47,ntmps47;go_wp2;go_loopw [17] (fun i wr=>∃k:Nat,i = I_ k/\k<=n/\Hi (xs.take k=ys.take k)/\Hi (Aa [] w wr)) (fun i _=>n - (intOf i).toNat)
 case atStart=>exact⟨0,rfl,Ba _,lH rfl,lH (Aa.refl [] w)⟩
 case round=>
  obtain⟨k,rfl,hk,HP,HK⟩:=hrel;by_cases hlt:k<n
  ·obtain⟨g1,o1,p,rfl,hg1,hx1,hat1⟩:=(HH.o.keeps HK.o).at_k (k:=k) bO
   obtain⟨g2,o2,q,rfl,hg2,hx2,hat2⟩:=(H2.o.keeps HK.o).at_k (k:=k) fD;obtain⟨s,hs,M⟩:=HT.o.get? hx1;obtain⟨t,ht,N⟩:=Y.o.get? hx2;have p0:=hat1 0 _ rfl;have p1:=hat1 1 _ rfl;have p2:=hat1 2 _ rfl;have p3:=hat1 3 _ rfl;have p4:=hat1 4 _ rfl;have p5:=hat1 5 _ rfl;have p6:=hat1 6 _ rfl;have p7:=hat1 7 _ rfl;rw [AT] at p0;have q0:=hat2 0 _ rfl;have q1:=hat2 1 _ rfl;have q2:=hat2 2 _ rfl;have q3:=hat2 3 _ rfl;have q4:=hat2 4 _ rfl;have q5:=hat2 5 _ rfl;have q6:=hat2 6 _ rfl;have q7:=hat2 7 _ rfl;rw [AT] at q0;have i1:(0:Int)<=(k:Int):=bB;have i2:(k:Int)<(n:Int):=bB;obtain⟨wz,hwz⟩:=eX ((wr.alloc (.cells (T_ p) 131)).alloc (.cells (T_ q) 131));have HZ:Hi (Aa [] wr wz):=lH (by rw [<- hwz];exact((Aa.refl [] wr).alloc _).alloc _);have B:Blk wz wr 131 (T_ p):=by rw [<- hwz];exact(Blk.new wr _ _).alloc _
   have D:Blk wz (wr+1) 131 (T_ q):=by rw [<- hwz];exact Ar _ _ _ _ bA
   have u0:=Ct q0 (.cells (T_ p) 131);have u1:=Ct q1 (.cells (T_ p) 131);have u2:=Ct q2 (.cells (T_ p) 131);have u3:=Ct q3 (.cells (T_ p) 131);have u4:=Ct q4 (.cells (T_ p) 131);have u5:=Ct q5 (.cells (T_ p) 131);have u6:=Ct q6 (.cells (T_ p) 131);have u7:=Ct q7 (.cells (T_ p) 131);obtain⟨y,hy⟩:=eX (decide (s=t));have HC:=lH (TF p q s t (U.o s (CD hs)) (X.o t (CD ht)) y hy wz (M.keeps (HK.o.trans HZ.o)) (N.keeps (HK.o.trans HZ.o)));have HX1:=lH hs;have HX2:=lH ht;have HY:=lH hy;have HB0:=lH B;have HB1:=lH D;have z0:=B.ce 0;have x0:=D.ce 0;have z1:=B.ce 1;have x1:=D.ce 1;have z2:=B.ce 2;have x2:=D.ce 2;have z3:=B.ce 3;have x3:=D.ce 3;have z4:=B.ce 4;have x4:=D.ce 4;have z5:=B.ce 5;have x5:=D.ce 5;have z6:=B.ce 6;have x6:=D.ce 6;have z7:=B.ce 7;have x7:=D.ce 7;clear hat1 hat2 hg1 hg2 hx1 hx2 hs ht M N hy B D;go_wp2_with fail;clear hwz;refine HC.o.mono ?_;rintro e w1 ⟨rfl,hk1⟩;have HK1:=lH ((HK.o.trans HZ.o).trans hk1);clear hk1 z0 x0 z1 x1 z2 x2 z3 x3 z4 x4 z5 x5 z6 x6 z7 x7 u0 u1 u2 u3 u4 u5 u6 u7 p0 p1 p2 p3 p4 p5 p6 p7 q0 q1 q2 q3 q4 q5 q6 q7;cases y with
   | true=>
    have T:Hi (xs.take (k+1)=ys.take (k+1)):=lH (by rw [A0 HX1.o,A0 HX2.o,HP.o,of_decide_eq_true HY.o]);go_wp2;go_roundw;case rel=>exact⟨k+1,by go_num,by omega,T,HK1⟩
    case measure=>simp [intOf];omega
   | false=>
    obtain rfl:r=false:=by
     rw [<- HR.o];refine decide_eq_false (fun e=>of_decide_eq_false HY.o ?_);have h1:=HX1.o;rw [e,HX2.o] at h1;injection h1 with h1
     exact h1.symm
    go_wp2;go_ret;exact⟨rfl,HK1.o⟩
  ·obtain rfl:k=n:=bB;obtain rfl:r=true:=by
    rw [<- HR.o];have:=HP.o;rw [Ak (by rw [G.o];exact Aw _),Ak (by rw [J.o];exact Aw _)] at this;exact decide_eq_true this
   go_wp2;go_ret;exact⟨rfl,HK.o⟩
theorem dZ(s t:CJ):decide (s=t)=(decide (s.slots=t.slots)&&(decide (s.seq=t.seq)&&decide (s.l=t.l))):=by
 obtain⟨B,a2,D⟩:=s;obtain⟨E,F,G⟩:=t;rw [DI];simp only [Af,decide_eq_true_eq,CJ.mk.injEq];constructor
 ·rintro⟨h1,h2,h3⟩;exact⟨h1,h3,h2⟩
 ·rintro⟨h1,h3,h2⟩;exact⟨h1,h2,h3⟩
theorem FC(v v2:B6)(r M:CJ)(gn un fn ln F J E D:Nat)(hg:r.slots.gens.length=gn)(hu:r.slots.used.length=un)(hf:r.slots.free.length=fn)(hln:v.lv.length=ln)(hg2:M.slots.gens.length=F)(Y:M.slots.used.length=J)(X:M.slots.free.length=E)(G:v2.lv.length=D)(seq B:Int)(hsq:r.seq=seq)(N:M.seq=B)(b:Bool)(hb:decide (r=M)=b)(w:World)(h:CH w v r)(h2:CH w v2 M):
  Calls prog 18 #[pH (R_ v gn un fn ln seq),pH (R_ v2 F J E D B)] w fun x w'=>x = pJ (pI b)/\Aa [] w w':=by
 obtain⟨wz,hwz⟩:=eX ((w.alloc (.cells (R_ v gn un fn ln seq) 29)).alloc (.cells (R_ v2 F J E D B) 29));have HZ:Hi (Aa [] w wz):=lH lY;have HB0:Hi (Blk wz w 29 (R_ v gn un fn ln seq)):=lH kI;have HB1:Hi (Blk wz (w+1) 29 (R_ v2 F J E D B)):=lH aF;rw [dZ,hsq,N] at hb;obtain⟨y1,O⟩:=eX (decide (r.slots=M.slots));obtain⟨y2,T⟩:=eX (decide (seq=B));obtain⟨y3,U⟩:=eX (decide (r.l=M.l));rw [O,T,U] at hb;have l1:ln<=1000:=by rw [<- hln,h.t.len];exact h.sl
 have l2:D<=1000:=by rw [<- G,h2.t.len];exact h2.sl
 have aa:=lH (fun W (hk:Aa [] w W)=>WV v.s v2.s r.slots M.slots gn un fn F J E hg hu hf hg2 Y X y1 O W (h.s.keeps hk) (h2.s.keeps hk));have ab:=lH (fun W (hk:Aa [] w W)=>Tu v.la v2.la v.lc v2.lc v.lv v2.lv r.l M.l ln D hln G l1 l2 h.small h2.small y3 U W (h.l.keeps hk) (h2.l.keeps hk) (h.t.keeps hk) (h2.t.keeps hk));have HB:=lH hb;have f2:(seq==B)=y2:=by rw [<- T,DI];simp
 have d0:=HB0.o.ce 0;have d1:=HB0.o.ce 1;have d2:=HB0.o.ce 2;have e0:=HB1.o.ce 0;have e1:=HB1.o.ce 1;have e2:=HB1.o.ce 2;clear hg hu hf hln hg2 Y X G hsq N hb h h2 O T U l1 l2;go_enter func18,ntmps18;go_wp2_with fail;clear hwz d0 d1 d2 e0 e1 e2;refine(aa.o _ HZ.o).mono ?_;rintro e w1 ⟨rfl,hk1⟩;have HK1:=lH (HZ.o.trans hk1);have d3:=(HB0.o.keeps hk1 bA).ce 3;have d4:=(HB0.o.keeps hk1 bA).ce 4;have e3:=(HB1.o.keeps hk1 bA).ce 3;have e4:=(HB1.o.keeps hk1 bA).ce 4;clear hk1;cases y1 with
 | false=>
  obtain rfl:b=false:=by rw [<- HB.o];simp
  go_wp2;go_ret;exact⟨rfl,HK1.o⟩
 | true=>
  cases y2 with
  | false=>
   obtain rfl:b=false:=by rw [<- HB.o];simp
   go_wp2;go_ret;exact⟨rfl,HK1.o⟩
  | true=>
   obtain rfl:b=y3:=by rw [<- HB.o];simp
   go_wp2_with fail;refine(ab.o _ HK1.o).mono ?_;rintro e w2 ⟨rfl,hk2⟩;have HK2:=lH (HK1.o.trans hk2);clear hk2;go_wp2;go_ret;exact⟨rfl,HK2.o⟩
end
end Go.Proofs.YtjieiikpolahfaaGreatDoor
