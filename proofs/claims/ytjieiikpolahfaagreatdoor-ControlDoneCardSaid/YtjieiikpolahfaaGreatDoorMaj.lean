/- Steps. -/
import Derived.Test.YtjieiikpolahfaaGreatDoorMah
set_option maxRecDepth 100000
set_option maxHeartbeats 8000000
set_option linter.all false
namespace Go.Proofs.YtjieiikpolahfaaGreatDoor
open Tryz
open Ending renaming returned→pJ
open IntKind renaming i64→pK
open _root_.List renaming take_of_length_le→Ak
open _root_.Nat renaming add_zero→AT,mul_one→pR,zero_le→Ba
open Oper renaming semAt_some→pN
open Program renaming fieldsOf→CK
open Value renaming agg→pH,bool→pI,int→pE,slice→pF,string→Dz
section
open Go.RowKit Go.Shelf
attribute [local go_sem] pN
attribute [local go_sem ↓] wp_at_zero wp_at_succ
theorem VV(a a2:Option Addr)(c c2:Nat)(xs ys:List ByteArray)(n m:Nat)(hn:xs.length=n)(hm:ys.length=m)(hL:n<=1000000)(F:m<=1000000)(r:Bool)(hr:decide (xs=ys)=r)(w:World)(h:AR Fd 1 w a c xs)(h2:AR Fd 1 w a2 c2 ys):
  Calls prog 160 #[pF a n c,pF a2 m c2] w fun e w'=>e = pJ (pI r)/\Aa [] w w':=by
 have HH:=lH h;have H2:=lH h2;have HN:=lH hn;have HM:=lH hm;have HR:=lH hr
 skip
 clear h h2 hn hm hr;by_cases hnm:n=m;rotate_left
 ·have f1:((n:Int) != (m:Int))=true:=by simp;omega
  obtain rfl:r=false:=by rw [<- HR.o];exact decide_eq_false (fun e=>hnm gH)
  clear hnm;go_enter func160,ntmps160;go_wp2;go_ret;exact⟨rfl,Aa.refl [] w⟩
 subst hnm;go_enter func160,ntmps160;go_wp2;go_loopw [13] (fun i wr=>∃k:Nat,i = I_ k/\k<=n/\Hi (xs.take k=ys.take k)/\Hi (Aa [] w wr)) (fun i _=>n - (intOf i).toNat)
 case atStart=>exact⟨0,rfl,Ba _,lH rfl,lH (Aa.refl [] w)⟩
 case round=>
  obtain⟨k,rfl,hk,HP,HK⟩:=hrel;by_cases hlt:k<n
  ·obtain⟨g1,o1,B,rfl,hg1,hx1,hat1⟩:=(HH.o.keeps HK.o).at_k (k:=k) bO
   obtain⟨g2,o2,D,rfl,hg2,hx2,hat2⟩:=(H2.o.keeps HK.o).at_k (k:=k) fD;have G:=hat1 0 (Dz B) rfl;have J:=hat2 0 (Dz D) rfl;rw [AT,pR] at G;rw [AT,pR] at J;have i1:(0:Int)<=(k:Int):=bB;have i2:(k:Int)<(n:Int):=bB;have HX1:=lH hx1;have HX2:=lH hx2
   skip
   clear hat1 hat2 hg1 hg2 hx1 hx2;by_cases he:(B:ByteArray)=D
   ·have hne:(!(B.toList==D.toList))=false:=by rw [he];simp
    have E:Hi (xs.take (k+1)=ys.take (k+1)):=lH gF;clear he;go_wp2;go_quiet (fail);go_wp2;go_roundw;case rel=>exact⟨k+1,by go_num,by omega,E,lH (HK.o.drewN _)⟩
    case measure=>simp [intOf];omega
   ·have hne:(!(B.toList==D.toList))=true:=by simpa using GR he
    obtain rfl:r=false:=by
     rw [<- HR.o];refine decide_eq_false (fun e=>he ?_);have h1:=HX1.o;rw [e,HX2.o] at h1;injection h1 with h1
     exact h1.symm
    clear he;go_wp2;go_quiet (fail);go_wp2;go_ret;exact⟨rfl,HK.o.drewN _⟩
  ·obtain rfl:k=n:=bB;obtain rfl:r=true:=by
    rw [<- HR.o];have:=HP.o;rw [Ak bL,Ak gG] at this;exact decide_eq_true this
   go_wp2;go_ret;exact⟨rfl,HK.o⟩
theorem PS(B E:ByteArray)(D F:Int)(w:World):(Op.equalIn 10000 81 (pH #[Dz B,I_ D]) (pH #[Dz E,I_ F])).run prog w = .ok (decide ((⟨B,D⟩:GF)=⟨E,F⟩)) w:=by
 have G:prog.underlying 81=some (.struct (prog.fieldsOf 81)):=bC;have J:prog.stoodInHeld 81=false:=bC;rw [show(10000:Nat)=9999+1 from rfl,run_equalIn_agg w 9999 81 _ _ G J];simp only [CK,underlying81];go_simp;by_cases h:B=E;rotate_left
 ·have h2:=GR h
  simp [h,h2]
 subst h;by_cases h:D=F;rotate_left
 ·simp [h]
 subst h;simp
theorem Qy(B E:ByteArray)(D F:Int)(w:World):(binOp .neq 81 (pH #[Dz B,I_ D]) (pH #[Dz E,I_ F])).run prog w = .ok (pI (!decide ((⟨B,D⟩:GF)=⟨E,F⟩))) w:=by rw [run_neq_struct,PS];rfl
theorem Rw(a a2:Option Addr)(c c2:Nat)(xs ys:List GF)(n m:Nat)(hn:xs.length=n)(hm:ys.length=m)(hL:n<=1000000)(J:m<=1000000)(r:Bool)(hr:decide (xs=ys)=r)(w:World)(h:AR Eg 2 w a c xs)(h2:AR Eg 2 w a2 c2 ys):
  Calls prog 53 #[pF a n c,pF a2 m c2] w fun e w'=>e = pJ (pI r)/\Aa [] w w':=by
 have HH:=lH h;have H2:=lH h2;have HN:=lH hn;have HM:=lH hm;have HR:=lH hr;have hgd:prog.eqGuardType prog.depth 81=false:=bC;clear h h2 hn hm hr;by_cases hnm:n=m;rotate_left
 ·have f1:((n:Int) != (m:Int))=true:=by simp;omega
  obtain rfl:r=false:=by rw [<- HR.o];exact decide_eq_false (fun e=>hnm gH)
  clear hnm;go_enter func53,ntmps53;go_wp2;go_ret;exact⟨rfl,Aa.refl [] w⟩
 subst hnm;go_enter func53,ntmps53;go_wp2;go_loopw [13] (fun i wr=>∃k:Nat,i = I_ k/\k<=n/\Hi (xs.take k=ys.take k)/\Hi (Aa [] w wr)) (fun i _=>n - (intOf i).toNat)
 case atStart=>exact⟨0,rfl,Ba _,lH rfl,lH (Aa.refl [] w)⟩
 case round=>
  obtain⟨k,rfl,hk,HP,HK⟩:=hrel;by_cases hlt:k<n
  ·obtain⟨g1,o1,⟨D,E⟩,rfl,hg1,hx1,hat1⟩:=(HH.o.keeps HK.o).at_k (k:=k) bO
   obtain⟨g2,o2,⟨F,G⟩,rfl,hg2,hx2,hat2⟩:=(H2.o.keeps HK.o).at_k (k:=k) fD;have M:=hat1 0 (Dz D) rfl;have p1:=hat1 1 (I_ E) rfl;have N:=hat2 0 (Dz F) rfl;have O:=hat2 1 (I_ G) rfl;rw [AT] at M;rw [AT] at N;have i1:(0:Int)<=(k:Int):=bB;have i2:(k:Int)<(n:Int):=bB;have HX1:=lH hx1;have HX2:=lH hx2;have hne:=fun W=>Qy D F E G W;clear hat1 hat2 hg1 hg2 hx1 hx2;by_cases he:(⟨D,E⟩:GF)=⟨F,G⟩
   ·simp only [decide_eq_true he,Bool.not_true] at hne
    have B:Hi (xs.take (k+1)=ys.take (k+1)):=lH gF;clear he;go_wp2;go_quiet (fail);go_wp2;go_roundw;case rel=>exact⟨k+1,by go_num,by omega,B,lH (HK.o.drewN _)⟩
    case measure=>simp [intOf];omega
   ·simp only [decide_eq_false he,Bool.not_false] at hne
    obtain rfl:r=false:=by
     rw [<- HR.o];refine decide_eq_false (fun e=>he ?_);have h1:=HX1.o;rw [e,HX2.o] at h1;injection h1 with h1
     exact h1.symm
    clear he;go_wp2;go_quiet (fail);go_wp2;go_ret;exact⟨rfl,HK.o.drewN _⟩
  ·obtain rfl:k=n:=bB;obtain rfl:r=true:=by
    rw [<- HR.o];have:=HP.o;rw [Ak bL,Ak gG] at this;exact decide_eq_true this
   go_wp2;go_ret;exact⟨rfl,HK.o⟩
theorem Iz(B E:ByteArray)(D F:Int)(a2 G:ByteArray)(w:World):(binOp .neq 73 (pH #[Dz B,I_ D,Dz a2]) (pH #[Dz E,I_ F,Dz G])).run prog w = .ok (pI (!decide ((⟨B,D,a2⟩:IA)=⟨E,F,G⟩))) w:=by rw [run_neq_struct,KD];rfl
theorem Rv(a a2:Option Addr)(c c2:Nat)(xs ys:List IA)(n m:Nat)(hn:xs.length=n)(hm:ys.length=m)(hL:n<=1000000)(M:m<=1000000)(r:Bool)(hr:decide (xs=ys)=r)(w:World)(h:AR Cu 3 w a c xs)(h2:AR Cu 3 w a2 c2 ys):
  Calls prog 55 #[pF a n c,pF a2 m c2] w fun e w'=>e = pJ (pI r)/\Aa [] w w':=by
 have HH:=lH h;have H2:=lH h2;have HN:=lH hn;have HM:=lH hm;have HR:=lH hr;have hgd:prog.eqGuardType prog.depth 73=false:=bC;clear h h2 hn hm hr;by_cases hnm:n=m;rotate_left
 ·have f1:((n:Int) != (m:Int))=true:=by simp;omega
  obtain rfl:r=false:=by rw [<- HR.o];exact decide_eq_false (fun e=>hnm gH)
  clear hnm;go_enter func55,ntmps55;go_wp2;go_ret;exact⟨rfl,Aa.refl [] w⟩
 subst hnm;go_enter func55,ntmps55;go_wp2;go_loopw [13] (fun i wr=>∃k:Nat,i = I_ k/\k<=n/\Hi (xs.take k=ys.take k)/\Hi (Aa [] w wr)) (fun i _=>n - (intOf i).toNat)
 case atStart=>exact⟨0,rfl,Ba _,lH rfl,lH (Aa.refl [] w)⟩
 case round=>
  obtain⟨k,rfl,hk,HP,HK⟩:=hrel;by_cases hlt:k<n
  ·obtain⟨g1,o1,⟨D,E,a2⟩,rfl,hg1,hx1,hat1⟩:=(HH.o.keeps HK.o).at_k (k:=k) bO
   obtain⟨g2,o2,⟨F,G,J⟩,rfl,hg2,hx2,hat2⟩:=(H2.o.keeps HK.o).at_k (k:=k) fD;have N:=hat1 0 (Dz D) rfl;have p1:=hat1 1 (I_ E) rfl;have p2:=hat1 2 (Dz a2) rfl;have O:=hat2 0 (Dz F) rfl;have T:=hat2 1 (I_ G) rfl;have U:=hat2 2 (Dz J) rfl;rw [AT] at N;rw [AT] at O;have i1:(0:Int)<=(k:Int):=bB;have i2:(k:Int)<(n:Int):=bB;have HX1:=lH hx1;have HX2:=lH hx2;have hne:=fun W=>Iz D F E G a2 J W;clear hat1 hat2 hg1 hg2 hx1 hx2;by_cases he:(⟨D,E,a2⟩:IA)=⟨F,G,J⟩
   ·simp only [decide_eq_true he,Bool.not_true] at hne
    have B:Hi (xs.take (k+1)=ys.take (k+1)):=lH gF;clear he;go_wp2;go_quiet (fail);go_wp2;go_roundw;case rel=>exact⟨k+1,by go_num,by omega,B,lH (HK.o.drewN _)⟩
    case measure=>simp [intOf];omega
   ·simp only [decide_eq_false he,Bool.not_false] at hne
    obtain rfl:r=false:=by
     rw [<- HR.o];refine decide_eq_false (fun e=>he ?_);have h1:=HX1.o;rw [e,HX2.o] at h1;injection h1 with h1
     exact h1.symm
    clear he;go_wp2;go_quiet (fail);go_wp2;go_ret;exact⟨rfl,HK.o.drewN _⟩
  ·obtain rfl:k=n:=bB;obtain rfl:r=true:=by
    rw [<- HR.o];have:=HP.o;rw [Ak bL,Ak gG] at this;exact decide_eq_true this
   go_wp2;go_ret;exact⟨rfl,HK.o⟩
end
end Go.Proofs.YtjieiikpolahfaaGreatDoor
