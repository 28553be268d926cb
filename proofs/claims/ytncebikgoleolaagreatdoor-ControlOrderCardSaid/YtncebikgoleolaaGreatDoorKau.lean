/- Steps. -/
import Derived.Test.YtncebikgoleolaaGreatDoorKaq
import Derived.Test.YtncebikgoleolaaGreatDoorKas
import Derived.Deep.RegionHeld3
import Derived.Deep.RegionHeld
set_option maxRecDepth 100000
set_option maxHeartbeats 8000000
set_option linter.all false
namespace Go.Proofs.YtncebikgoleolaaGreatDoor
open Tryz
open _root_.Go renaming undef→UD
open Act renaming put→By
open _root_.Bool renaming and_eq_true→Af,eq_iff_iff→DI
open Ending renaming returned→pJ
open IntKind renaming i64→pK
open _root_.List renaming getElem?_eq_getElem→Aq,map_append→pO,mem_cons→Ac,mem_of_getElem?→CD,mem_singleton→Ag,not_mem_nil→Ab,take_of_length_le→Ak
open _root_.Nat renaming add_zero→AT,le_of_eq→qJ,le_refl→Aw,lt_or_ge→pP,mul_one→pR,zero_le→Ba
open Oper renaming semAt_some→pN
open Program renaming fieldsOf→CK
open Value renaming agg→pH,bool→pI,int→pE,pointer→pG,slice→pF,string→Dz
open World renaming ownsRow_nil→BQ
section
open Go.RowKit Go.Shelf
attribute [local go_sem] pN
attribute [local go_sem ↓] wp_at_zero wp_at_succ
theorem Yq(a J:Option Addr)(c M:Nat)(xs ys:List Int)(n m:Nat)(hn:xs.length=n)(hm:ys.length=m)(hL:n<=1000000)(T:m<=1000000)(r:Bool)(hr:decide (xs=ys)=r)(w:World)(h:AR Fb 1 w a c xs)(h2:AR Fb 1 w J M ys):
  Calls prog 81 #[pF a n c,pF J m M] w fun e w'=>e = pJ (pI r)/\Aa [] w w':=by
 have O:=lH h;have N:=lH h2;have HN:=lH hn;have HM:=lH hm;have HR:=lH hr
 skip
 clear h h2 hn hm hr;by_cases hnm:n=m;rotate_left
 ·have f1:((n:Int) != (m:Int))=true:=by simp;omega
  obtain rfl:r=false:=by rw [<- HR.o];exact decide_eq_false (fun e=>hnm gH)
  clear hnm;go_enter func81,ntmps81;go_wp2;go_ret;exact⟨rfl,Aa.refl [] w⟩
 subst hnm;go_enter func81,ntmps81;go_wp2;go_loopw [13] (fun i wr=>∃k:Nat,i = I_ k/\k<=n/\Hi (xs.take k=ys.take k)/\Hi (Aa [] w wr)) (fun i _=>n - (intOf i).toNat)
 case atStart=>exact⟨0,rfl,Ba _,lH rfl,lH (Aa.refl [] w)⟩
 case round=>
  obtain⟨k,rfl,hk,HP,HK⟩:=hrel;by_cases hlt:k<n
  ·obtain⟨g1,o1,D,rfl,hg1,hx1,hat1⟩:=(O.o.keeps HK.o).at_k (k:=k) bO
   obtain⟨Y,o2,E,rfl,G,hx2,B⟩:=(N.o.keeps HK.o).at_k (k:=k) fD;have U:=hat1 0 (I_ D) rfl;have X:=B 0 (I_ E) rfl;rw [AT,pR] at U;rw [AT,pR] at X;have i1:(0:Int)<=(k:Int):=bB;have i2:(k:Int)<(n:Int):=bB;have HX1:=lH hx1;have HX2:=lH hx2
   skip
   clear hat1 B hg1 G hx1 hx2;by_cases he:(D:Int)=E
   ·have hne:(D != E)=false:=by simpa using he
    have F:Hi (xs.take (k+1)=ys.take (k+1)):=lH gF;clear he;go_wp2;go_quiet (fail);go_wp2;go_roundw;case rel=>exact⟨k+1,by go_num,by omega,F,lH (HK.o.drewN _)⟩
    case measure=>simp [intOf];omega
   ·have hne:(D != E)=true:=by simpa using he
    obtain rfl:r=false:=by
     rw [<- HR.o];refine decide_eq_false (fun e=>he ?_);have h1:=HX1.o;rw [e,HX2.o] at h1;injection h1 with h1
     exact h1.symm
    clear he;go_wp2;go_quiet (fail);go_wp2;go_ret;exact⟨rfl,HK.o.drewN _⟩
  ·obtain rfl:k=n:=bB;obtain rfl:r=true:=by
    rw [<- HR.o];have:=HP.o;rw [Ak bL,Ak gG] at this;exact decide_eq_true this
   go_wp2;go_ret;exact⟨rfl,HK.o⟩
theorem cJ(a J:Option Addr)(c M:Nat)(xs ys:List Bool)(n m:Nat)(hn:xs.length=n)(hm:ys.length=m)(hL:n<=1000000)(T:m<=1000000)(r:Bool)(hr:decide (xs=ys)=r)(w:World)(h:AR JM 1 w a c xs)(h2:AR JM 1 w J M ys):
  Calls prog 82 #[pF a n c,pF J m M] w fun e w'=>e = pJ (pI r)/\Aa [] w w':=by
 have O:=lH h;have N:=lH h2;have HN:=lH hn;have HM:=lH hm;have HR:=lH hr
 skip
 clear h h2 hn hm hr;by_cases hnm:n=m;rotate_left
 ·have f1:((n:Int) != (m:Int))=true:=by simp;omega
  obtain rfl:r=false:=by rw [<- HR.o];exact decide_eq_false (fun e=>hnm gH)
  clear hnm;go_enter func82,ntmps82;go_wp2;go_ret;exact⟨rfl,Aa.refl [] w⟩
 subst hnm;go_enter func82,ntmps82;go_wp2;go_loopw [13] (fun i wr=>∃k:Nat,i = I_ k/\k<=n/\Hi (xs.take k=ys.take k)/\Hi (Aa [] w wr)) (fun i _=>n - (intOf i).toNat)
 case atStart=>exact⟨0,rfl,Ba _,lH rfl,lH (Aa.refl [] w)⟩
 case round=>
  obtain⟨k,rfl,hk,HP,HK⟩:=hrel;by_cases hlt:k<n
  ·obtain⟨g1,o1,D,rfl,hg1,hx1,hat1⟩:=(O.o.keeps HK.o).at_k (k:=k) bO
   obtain⟨Y,o2,E,rfl,G,hx2,B⟩:=(N.o.keeps HK.o).at_k (k:=k) fD;have U:=hat1 0 (pI D) rfl;have X:=B 0 (pI E) rfl;rw [AT,pR] at U;rw [AT,pR] at X;have i1:(0:Int)<=(k:Int):=bB;have i2:(k:Int)<(n:Int):=bB;have HX1:=lH hx1;have HX2:=lH hx2
   skip
   clear hat1 B hg1 G hx1 hx2;by_cases he:(D:Bool)=E
   ·have hne:(!(D==E))=false:=by simpa using he
    have F:Hi (xs.take (k+1)=ys.take (k+1)):=lH gF;clear he;go_wp2;go_quiet (fail);go_wp2;go_roundw;case rel=>exact⟨k+1,by go_num,by omega,F,lH (HK.o.drewN _)⟩
    case measure=>simp [intOf];omega
   ·have hne:(!(D==E))=true:=by simpa using he
    obtain rfl:r=false:=by
     rw [<- HR.o];refine decide_eq_false (fun e=>he ?_);have h1:=HX1.o;rw [e,HX2.o] at h1;injection h1 with h1
     exact h1.symm
    clear he;go_wp2;go_quiet (fail);go_wp2;go_ret;exact⟨rfl,HK.o.drewN _⟩
  ·obtain rfl:k=n:=bB;obtain rfl:r=true:=by
    rw [<- HR.o];have:=HP.o;rw [Ak bL,Ak gG] at this;exact decide_eq_true this
   go_wp2;go_ret;exact⟨rfl,HK.o⟩
theorem Ya(D M:Bool)(E N:Int)(F O:Int)(G T:Int)(J U:Int)(w:World):(Op.equalIn 10000 59 (pH #[pI D,I_ E,I_ F,I_ G,I_ J]) (pH #[pI M,I_ N,I_ O,I_ T,I_ U])).run prog w = .ok (decide ((⟨D,E,F,G,J⟩:EX)=⟨M,N,O,T,U⟩)) w:=by
 have B:prog.underlying 59=some (.struct (prog.fieldsOf 59)):=bC;have aa:prog.stoodInHeld 59=false:=bC;have X:prog.underlying 55=some (.struct (prog.fieldsOf 55)):=bC;have ab:prog.stoodInHeld 55=false:=bC;have Y:prog.underlying 57=some (.struct (prog.fieldsOf 57)):=bC;have ac:prog.stoodInHeld 57=false:=bC;rw [show(10000:Nat)=9999+1 from rfl,run_equalIn_agg w 9999 59 _ _ B aa];simp only [CK,underlying59,underlying55,underlying57];simp only [CK,underlying59,underlying55,underlying57] at B X Y;simp [go_sem,CK,underlying59,underlying55,underlying57,ab,ac];by_cases h:D=M;rotate_left
 ·simp [h]
 subst h;by_cases h:E=N;rotate_left
 ·simp [h]
 subst h;by_cases h:F=O;rotate_left
 ·simp [h]
 subst h;by_cases h:G=T;rotate_left
 ·simp [h]
 subst h;by_cases h:J=U;rotate_left
 ·simp [h]
 subst h;simp
theorem YT(B J:Bool)(D M:Int)(E N:Int)(F O:Int)(G T:Int)(w:World):(binOp .neq 59 (pH #[pI B,I_ D,I_ E,I_ F,I_ G]) (pH #[pI J,I_ M,I_ N,I_ O,I_ T])).run prog w = .ok (pI (!decide ((⟨B,D,E,F,G⟩:EX)=⟨J,M,N,O,T⟩))) w:=by rw [run_neq_struct,Ya];rfl
theorem cI(a D:Option Addr)(c c2:Nat)(xs ys:List EX)(n m:Nat)(hn:xs.length=n)(hm:ys.length=m)(hL:n<=1000000)(ad:m<=1000000)(r:Bool)(hr:decide (xs=ys)=r)(w:World)(h:AR B8 5 w a c xs)(h2:AR B8 5 w D c2 ys):
  Calls prog 83 #[pF a n c,pF D m c2] w fun e w'=>e = pJ (pI r)/\Aa [] w w':=by
 have HH:=lH h;have H2:=lH h2;have HN:=lH hn;have HM:=lH hm;have HR:=lH hr;have hgd:prog.eqGuardType prog.depth 59=false:=bC;clear h h2 hn hm hr;by_cases hnm:n=m;rotate_left
 ·have f1:((n:Int) != (m:Int))=true:=by simp;omega
  obtain rfl:r=false:=by rw [<- HR.o];exact decide_eq_false (fun e=>hnm gH)
  clear hnm;go_enter func83,ntmps83;go_wp2;go_ret;exact⟨rfl,Aa.refl [] w⟩
 subst hnm;go_enter func83,ntmps83;go_wp2;go_loopw [13] (fun i wr=>∃k:Nat,i = I_ k/\k<=n/\Hi (xs.take k=ys.take k)/\Hi (Aa [] w wr)) (fun i _=>n - (intOf i).toNat)
 case atStart=>exact⟨0,rfl,Ba _,lH rfl,lH (Aa.refl [] w)⟩
 case round=>
  obtain⟨k,rfl,hk,HP,HK⟩:=hrel;by_cases hlt:k<n
  ·obtain⟨g1,o1,⟨F,G,D,J,M⟩,rfl,hg1,hx1,hat1⟩:=(HH.o.keeps HK.o).at_k (k:=k) bO
   obtain⟨g2,o2,⟨N,O,T,U,X⟩,rfl,Y,hx2,B⟩:=(H2.o.keeps HK.o).at_k (k:=k) fD;have p0:=hat1 0 (pI F) rfl;have p1:=hat1 1 (I_ G) rfl;have p2:=hat1 2 (I_ D) rfl;have p3:=hat1 3 (I_ J) rfl;have p4:=hat1 4 (I_ M) rfl;have q0:=B 0 (pI N) rfl;have q1:=B 1 (I_ O) rfl;have q2:=B 2 (I_ T) rfl;have q3:=B 3 (I_ U) rfl;have q4:=B 4 (I_ X) rfl;rw [AT] at p0;rw [AT] at q0;have i1:(0:Int)<=(k:Int):=bB;have i2:(k:Int)<(n:Int):=bB;have HX1:=lH hx1;have HX2:=lH hx2;have hne:=fun W=>YT F N G O D T J U M X W;clear hat1 B hg1 Y hx1 hx2;by_cases he:(⟨F,G,D,J,M⟩:EX)=⟨N,O,T,U,X⟩
   ·simp only [decide_eq_true he,Bool.not_true] at hne
    have E:Hi (xs.take (k+1)=ys.take (k+1)):=lH gF;clear he;go_wp2;go_quiet (fail);go_wp2;go_roundw;case rel=>exact⟨k+1,by go_num,by omega,E,lH (HK.o.drewN _)⟩
    case measure=>simp [intOf];omega
   ·simp only [decide_eq_false he,Bool.not_false] at hne
    obtain rfl:r=false:=by
     rw [<- HR.o];refine decide_eq_false (fun e=>he ?_);have h1:=HX1.o;rw [e,HX2.o] at h1;injection h1 with h1
     exact h1.symm
    clear he;go_wp2;go_quiet (fail);go_wp2;go_ret;exact⟨rfl,HK.o.drewN _⟩
  ·obtain rfl:k=n:=bB;obtain rfl:r=true:=by
    rw [<- HR.o];have:=HP.o;rw [Ak bL,Ak gG] at this;exact decide_eq_true this
   go_wp2;go_ret;exact⟨rfl,HK.o⟩
theorem XZ(B G:Int)(D J:ByteArray)(E M:Int)(F N:Int)(w:World):(Op.equalIn 10000 194 (pH #[pE pK B,Dz D,I_ E,I_ F]) (pH #[pE pK G,Dz J,I_ M,I_ N])).run prog w = .ok (decide ((⟨B,D,E,F⟩:El)=⟨G,J,M,N⟩)) w:=by
 have O:prog.underlying 194=some (.struct (prog.fieldsOf 194)):=bC;have T:prog.stoodInHeld 194=false:=bC;rw [show(10000:Nat)=9999+1 from rfl,run_equalIn_agg w 9999 194 _ _ O T];simp only [CK,underlying194];go_simp;by_cases h:B=G;rotate_left
 ·simp [h]
 subst h;by_cases h:D=J;rotate_left
 ·have h2:=GR h
  simp [h,h2]
 subst h;by_cases h:E=M;rotate_left
 ·simp [h]
 subst h;by_cases h:F=N;rotate_left
 ·simp [h]
 subst h;simp
theorem YS(B G:Int)(D J:ByteArray)(E M:Int)(F N:Int)(w:World):(binOp .neq 194 (pH #[pE pK B,Dz D,I_ E,I_ F]) (pH #[pE pK G,Dz J,I_ M,I_ N])).run prog w = .ok (pI (!decide ((⟨B,D,E,F⟩:El)=⟨G,J,M,N⟩))) w:=by rw [run_neq_struct,XZ];rfl
theorem cH(a D:Option Addr)(c X:Nat)(xs ys:List El)(n m:Nat)(hn:xs.length=n)(hm:ys.length=m)(hL:n<=1000000)(ab:m<=1000000)(r:Bool)(hr:decide (xs=ys)=r)(w:World)(h:AR BT 4 w a c xs)(h2:AR BT 4 w D X ys):
  Calls prog 84 #[pF a n c,pF D m X] w fun e w'=>e = pJ (pI r)/\Aa [] w w':=by
 have HH:=lH h;have Y:=lH h2;have HN:=lH hn;have HM:=lH hm;have HR:=lH hr;have hgd:prog.eqGuardType prog.depth 194=false:=bC;clear h h2 hn hm hr;by_cases hnm:n=m;rotate_left
 ·have f1:((n:Int) != (m:Int))=true:=by simp;omega
  obtain rfl:r=false:=by rw [<- HR.o];exact decide_eq_false (fun e=>hnm gH)
  clear hnm;go_enter func84,ntmps84;go_wp2;go_ret;exact⟨rfl,Aa.refl [] w⟩
 subst hnm;go_enter func84,ntmps84;go_wp2;go_loopw [13] (fun i wr=>∃k:Nat,i = I_ k/\k<=n/\Hi (xs.take k=ys.take k)/\Hi (Aa [] w wr)) (fun i _=>n - (intOf i).toNat)
 case atStart=>exact⟨0,rfl,Ba _,lH rfl,lH (Aa.refl [] w)⟩
 case round=>
  obtain⟨k,rfl,hk,HP,HK⟩:=hrel;by_cases hlt:k<n
  ·obtain⟨g1,o1,⟨F,G,D,J⟩,rfl,hg1,hx1,hat1⟩:=(HH.o.keeps HK.o).at_k (k:=k) bO
   obtain⟨g2,o2,⟨M,N,O,T⟩,rfl,U,hx2,B⟩:=(Y.o.keeps HK.o).at_k (k:=k) fD;have p0:=hat1 0 (I_ F) rfl;have p1:=hat1 1 (Dz G) rfl;have p2:=hat1 2 (I_ D) rfl;have p3:=hat1 3 (I_ J) rfl;have q0:=B 0 (I_ M) rfl;have q1:=B 1 (Dz N) rfl;have q2:=B 2 (I_ O) rfl;have q3:=B 3 (I_ T) rfl;rw [AT] at p0;rw [AT] at q0;have i1:(0:Int)<=(k:Int):=bB;have i2:(k:Int)<(n:Int):=bB;have HX1:=lH hx1;have HX2:=lH hx2;have hne:=fun W=>YS F M G N D O J T W;clear hat1 B hg1 U hx1 hx2;by_cases he:(⟨F,G,D,J⟩:El)=⟨M,N,O,T⟩
   ·simp only [decide_eq_true he,Bool.not_true] at hne
    have E:Hi (xs.take (k+1)=ys.take (k+1)):=lH gF;clear he;go_wp2;go_quiet (fail);go_wp2;go_roundw;case rel=>exact⟨k+1,by go_num,by omega,E,lH (HK.o.drewN _)⟩
    case measure=>simp [intOf];omega
   ·simp only [decide_eq_false he,Bool.not_false] at hne
    obtain rfl:r=false:=by
     rw [<- HR.o];refine decide_eq_false (fun e=>he ?_);have h1:=HX1.o;rw [e,HX2.o] at h1;injection h1 with h1
     exact h1.symm
    clear he;go_wp2;go_quiet (fail);go_wp2;go_ret;exact⟨rfl,HK.o.drewN _⟩
  ·obtain rfl:k=n:=bB;obtain rfl:r=true:=by
    rw [<- HR.o];have:=HP.o;rw [Ak bL,Ak gG] at this;exact decide_eq_true this
   go_wp2;go_ret;exact⟨rfl,HK.o⟩
theorem WV(v v2:DF)(s G:Fz)(gn un fn E F D:Nat)(hg:s.gens.length=gn)(hu:s.used.length=un)(hf:s.free.length=fn)(Y:G.gens.length=E)(aa:G.used.length=F)(X:G.free.length=D)(b:Bool)(hb:decide (s=G)=b)(w:World)(h:Dy w v s)(h2:Dy w v2 G):
  Calls prog 41 #[pH (S_ v gn un fn),pH (S_ v2 E F D)] w fun e w'=>e = pJ (pI b)/\Aa [] w w':=by
 obtain⟨r1,O⟩:=eX (decide (s.gens=G.gens));obtain⟨r2,T⟩:=eX (decide (s.used=G.used));obtain⟨r3,U⟩:=eX (decide (s.free=G.free));have N:b=(r1&&(r2&&r3)):=by
  rw [<- hb,<- O,<- T,<- U,DI];obtain⟨x1,x2,x3⟩:=s;obtain⟨y1,y2,y3⟩:=G;simp
 have B:=((Aa.refl [] w).alloc (.cells (S_ v gn un fn) 26)).alloc (.cells (S_ v2 E F D) 26);obtain⟨wz,hwz⟩:=eX (((w.alloc (.cells (S_ v gn un fn) 26)).alloc (.cells (S_ v2 E F D) 26)));have J:Blk wz w 26 (S_ v gn un fn):=by rw [<- hwz];exact(Blk.new w _ _).alloc _
 have M:Blk wz (w+1) 26 (S_ v2 E F D):=by rw [<- hwz];exact Ar _ _ _ _ bA
 rw [hwz] at B;have H1:=lH (fun W (hk:Aa [] wz W)=>Yq v.ga v2.ga v.gc v2.gc s.gens G.gens gn E hg Y (by have:=h.sg;omega) (by have:=h2.sg;omega) r1 O W (h.g.keeps (B.trans hk)) (h2.g.keeps (B.trans hk)));have H2:=lH (fun W (hk:Aa [] wz W)=>cJ v.ua v2.ua v.uc v2.uc s.used G.used un F hu aa (by have:=h.su;omega) (by have:=h2.su;omega) r2 T W (h.u.keeps (B.trans hk)) (h2.u.keeps (B.trans hk)));have H3:=lH (fun W (hk:Aa [] wz W)=>Yq v.fa v2.fa v.fc v2.fc s.free G.free fn D hf X (by have:=h.sf;omega) (by have:=h2.sf;omega) r3 U W (h.f.keeps (B.trans hk)) (h2.f.keeps (B.trans hk)));have HB1:=lH J;have HB2:=lH M;have HK0:=lH B;have p0:=J.ce 0;have q0:=M.ce 0;clear h h2 hg hu hf Y aa X hb O T U B J M;go_enter func41,ntmps41;go_wp2_with fail;clear hwz;refine(H1.o wz (Aa.refl [] wz)).mono ?_;rintro e w1 ⟨rfl,hk1⟩;have HK1:=lH hk1;cases r1 with
 | false=>
  obtain rfl:b=false:=N;clear p0 q0 hk1;go_wp2;go_ret;exact⟨rfl,HK0.o.trans HK1.o⟩
 | true=>
  have p1:=(HB1.o.keeps hk1 bA).ce 1;have q1:=(HB2.o.keeps hk1 bA).ce 1;clear p0 q0 hk1;go_wp2_with fail;refine(H2.o w1 HK1.o).mono ?_;rintro e w2 ⟨rfl,hk2⟩;have HK2:=lH (HK1.o.trans hk2);cases r2 with
  | false=>
   obtain rfl:b=false:=N;clear p1 q1 hk2;go_wp2;go_ret;exact⟨rfl,HK0.o.trans HK2.o⟩
  | true=>
   obtain rfl:b=r3:=N;have p2:=(HB1.o.keeps HK2.o bA).ce 2;have q2:=(HB2.o.keeps HK2.o bA).ce 2;clear p1 q1 hk2;go_wp2_with fail;refine(H3.o w2 HK2.o).mono ?_;rintro e w3 ⟨rfl,hk3⟩;have ab:=lH (HK2.o.trans hk3);clear p2 q2 hk3;go_wp2;go_ret;exact⟨rfl,HK0.o.trans ab.o⟩
theorem eT(s t:Ten):decide (s=t)=(decide ((s.slot,s.gen)=(t.slot,t.gen))&&(decide (s.name=t.name)&&(decide (s.state=t.state)&&(decide (s.version=t.version)&&(decide (s.deadline=t.deadline)&&(decide (s.rules=t.rules)&&decide (s.creds=t.creds))))))):=by
 obtain⟨F,G,J,M,N,O,T,a8⟩:=s;obtain⟨U,X,Y,b4,b5,b6,b7,b8⟩:=t;rw [DI];simp only [Af,decide_eq_true_eq,Ten.mk.injEq,Prod.mk.injEq];constructor
 ·rintro⟨h1,h2,h3,h4,B,D,E,h8⟩;exact⟨⟨h1,h2⟩,h3,h4,B,h8,D,E⟩
 ·rintro⟨⟨h1,h2⟩,h3,h4,B,h8,D,E⟩;exact⟨h1,h2,h3,h4,B,D,E,h8⟩
theorem TF(p q:TV)(s t:Ten)(hs:s.rules.length<=1000/\s.creds.length<=1000)(ht:t.rules.length<=1000/\t.creds.length<=1000)(b:Bool)(hb:decide (s=t)=b)(w:World)(h:Cj w p s)(h2:Cj w q t):
  Calls prog 43 #[pH (T_ p),pH (T_ q)] w fun e w'=>e = pJ (pI b)/\Aa [] w w':=by
 obtain⟨wz,hwz⟩:=eX ((w.alloc (.cells (T_ p) 112)).alloc (.cells (T_ q) 112));have HZ:Hi (Aa [] w wz):=lH lY;have HB0:Hi (Blk wz w 112 (T_ p)):=lH kI;have HB1:Hi (Blk wz (w+1) 112 (T_ q)):=lH aF;rw [eT,<- h.slot,<- h.gen,<- h2.slot,<- h2.gen,<- h.name,<- h2.name,<- h.state,<- h2.state,<- h.version,<- h2.version,<- h.deadline,<- h2.deadline] at hb;obtain⟨y1,B⟩:=eX (decide ((p.slot,p.gen)=(q.slot,q.gen)));obtain⟨y2,D⟩:=eX (decide (p.name=q.name));obtain⟨y3,E⟩:=eX (decide (p.state=q.state));obtain⟨y4,F⟩:=eX (decide (p.version=q.version));obtain⟨y5,G⟩:=eX (decide (p.deadline=q.deadline));obtain⟨Y,J⟩:=eX (decide (s.rules=t.rules));obtain⟨y7,M⟩:=eX (decide (s.creds=t.creds));rw [B,D,E,F,G,J,M] at hb;have N:=lH (fun W (hk:Aa [] w W)=>cI p.ra q.ra p.rc q.rc s.rules t.rules p.rl q.rl h.rl h2.rl (by have:=h.rl;omega) (by have:=h2.rl;omega) Y J W (h.rs.keeps hk) (h2.rs.keeps hk));have O:=lH (fun W (hk:Aa [] w W)=>cH p.ca q.ca p.cc q.cc s.creds t.creds p.cl q.cl h.cl h2.cl (by have:=h.cl;omega) (by have:=h2.cl;omega) y7 M W (h.cs.keeps hk) (h2.cs.keeps hk));have HB:=lH hb;have hgd:prog.eqGuardType prog.depth 65=false:=bC;have T:=fun W=>Y4 p.slot q.slot p.gen q.gen W;rw [B] at T;have f2:(p.name.toList==q.name.toList)=y2:=by
  rw [<- D,DI];simp only [beq_iff_eq,decide_eq_true_eq];exact⟨fun e=>by by_cases hh:p.name=q.name;exact hh;exact absurd e (GR hh),fun e=>by rw [e]⟩
 have f3:(p.state==q.state)=y3:=by rw [<- E,DI];simp
 have f4:(p.version==q.version)=y4:=by rw [<- F,DI];simp
 have f5:(p.deadline==q.deadline)=y5:=by rw [<- G,DI];simp
 have d5:=HB0.o.ce 5;have U:=HB0.o.ce 6;have e5:=HB1.o.ce 5;have X:=HB1.o.ce 6;have d0:=HB0.o.ce 0;have d1:=HB0.o.ce 1;have d2:=HB0.o.ce 2;have d3:=HB0.o.ce 3;have d4:=HB0.o.ce 4;have d7:=HB0.o.ce 7;have e0:=HB1.o.ce 0;have e1:=HB1.o.ce 1;have e2:=HB1.o.ce 2;have e3:=HB1.o.ce 3;have e4:=HB1.o.ce 4;have e7:=HB1.o.ce 7;clear hs ht hb h h2 B D E F G J M;cases y1 with
 | false=>
  obtain rfl:b=false:=by rw [<- HB.o];simp
  go_enter func43,ntmps43;go_wp2;go_ret;exact⟨rfl,HZ.o⟩
 | true=>
  cases y2 with
  | false=>
   obtain rfl:b=false:=by rw [<- HB.o];simp
   go_enter func43,ntmps43;go_wp2;go_ret;exact⟨rfl,HZ.o⟩
  | true=>
   cases y3 with
   | false=>
    obtain rfl:b=false:=by rw [<- HB.o];simp
    go_enter func43,ntmps43;go_wp2;go_ret;exact⟨rfl,HZ.o⟩
   | true=>
    cases y4 with
    | false=>
     obtain rfl:b=false:=by rw [<- HB.o];simp
     go_enter func43,ntmps43;go_wp2;go_ret;exact⟨rfl,HZ.o⟩
    | true=>
     cases y5 with
     | false=>
      obtain rfl:b=false:=by rw [<- HB.o];simp
      go_enter func43,ntmps43;go_wp2;go_ret;exact⟨rfl,HZ.o⟩
     | true=>
      go_enter func43,ntmps43;go_wp2_with fail;refine(N.o _ HZ.o).mono ?_;rintro e w1 ⟨rfl,hk1⟩;have HK1:=lH (HZ.o.trans hk1);clear d0 d1 d2 d3 d4 d5 U d7 e0 e1 e2 e3 e4 e5 X e7;have U:=(HB0.o.keeps hk1 bA).ce 6;have X:=(HB1.o.keeps hk1 bA).ce 6;clear hk1 hwz;cases Y with
      | false=>
       obtain rfl:b=false:=by rw [<- HB.o];simp
       go_wp2;go_ret;exact⟨rfl,HK1.o⟩
      | true=>
       obtain rfl:b=y7:=by rw [<- HB.o];simp
       go_wp2_with fail;refine(O.o _ HK1.o).mono ?_;rintro e w2 ⟨rfl,hk2⟩;have HK2:=lH (HK1.o.trans hk2);clear hk2;go_wp2;go_ret;exact⟨rfl,HK2.o⟩
theorem Tu(a a2:Option Addr)(c c2:Nat)(V V2:List TV)(xs ys:List Ten)(n m:Nat)(hn:V.length=n)(hm:V2.length=m)(hL:n<=1000)(au:m<=1000)(T:∀t∈xs,t.rules.length<=1000/\t.creds.length<=1000)(F:∀t∈ys,t.rules.length<=1000/\t.creds.length<=1000)(r:Bool)(hr:decide (xs=ys)=r)(w:World)(h:AR BE 8 w a c V)(h2:AR BE 8 w a2 c2 V2)(G:AX w V xs)(J:AX w V2 ys):
  Calls prog 42 #[pF a n c,pF a2 m c2,.func (.func 43) #[] #[]] w fun e w'=>e = pJ (pI r)/\Aa [] w w':=by
 have M:Hi (xs.length=n):=lH (by rw [<- G.len];exact hn);have HYL:Hi (ys.length=m):=lH (by rw [<- J.len];exact hm);have HH:=lH h;have H2:=lH h2;have HT:=lH G;have aa:=lH J;have HN:=lH hn;have HM:=lH hm;have HR:=lH hr;have X:=lH T;have Y:=lH F;clear h h2 hn hm hr G J T F;by_cases hnm:n=m;rotate_left
 ·have f1:((n:Int) != (m:Int))=true:=by simp;omega
  obtain rfl:r=false:=by rw [<- HR.o];exact decide_eq_false (fun e=>hnm (by rw [<- M.o,<- HYL.o,e]))
  clear hnm;go_enter func42,ntmps42;go_wp2;go_ret;exact⟨rfl,Aa.refl [] w⟩
 subst hnm;go_enter func42,ntmps42;go_wp2;go_loopw [17] (fun i wr=>∃k:Nat,i = I_ k/\k<=n/\Hi (xs.take k=ys.take k)/\Hi (Aa [] w wr)) (fun i _=>n - (intOf i).toNat)
 case atStart=>exact⟨0,rfl,Ba _,lH rfl,lH (Aa.refl [] w)⟩
 case round=>
  obtain⟨k,rfl,hk,HP,HK⟩:=hrel;by_cases hlt:k<n
  ·obtain⟨g1,o1,p,rfl,hg1,hx1,hat1⟩:=(HH.o.keeps HK.o).at_k (k:=k) bO
   obtain⟨g2,o2,q,rfl,ac,hx2,B⟩:=(H2.o.keeps HK.o).at_k (k:=k) fD;obtain⟨s,hs,N⟩:=HT.o.get? hx1;obtain⟨t,G,O⟩:=aa.o.get? hx2;have p0:=hat1 0 _ rfl;have p1:=hat1 1 _ rfl;have p2:=hat1 2 _ rfl;have p3:=hat1 3 _ rfl;have p4:=hat1 4 _ rfl;have p5:=hat1 5 _ rfl;have p6:=hat1 6 _ rfl;have p7:=hat1 7 _ rfl;rw [AT] at p0;have q0:=B 0 _ rfl;have q1:=B 1 _ rfl;have q2:=B 2 _ rfl;have q3:=B 3 _ rfl;have q4:=B 4 _ rfl;have q5:=B 5 _ rfl;have q6:=B 6 _ rfl;have q7:=B 7 _ rfl;rw [AT] at q0;have i1:(0:Int)<=(k:Int):=bB;have i2:(k:Int)<(n:Int):=bB;obtain⟨wz,hwz⟩:=eX ((wr.alloc (.cells (T_ p) 112)).alloc (.cells (T_ q) 112));have HZ:Hi (Aa [] wr wz):=lH (by rw [<- hwz];exact((Aa.refl [] wr).alloc _).alloc _);have D:Blk wz wr 112 (T_ p):=by rw [<- hwz];exact(Blk.new wr _ _).alloc _
   have E:Blk wz (wr+1) 112 (T_ q):=by rw [<- hwz];exact Ar _ _ _ _ bA
   have u0:=Ct q0 (.cells (T_ p) 112);have u1:=Ct q1 (.cells (T_ p) 112);have u2:=Ct q2 (.cells (T_ p) 112);have u3:=Ct q3 (.cells (T_ p) 112);have u4:=Ct q4 (.cells (T_ p) 112);have u5:=Ct q5 (.cells (T_ p) 112);have u6:=Ct q6 (.cells (T_ p) 112);have u7:=Ct q7 (.cells (T_ p) 112);obtain⟨y,hy⟩:=eX (decide (s=t));have HC:=lH (TF p q s t (X.o s (CD hs)) (Y.o t (CD G)) y hy wz (N.keeps (HK.o.trans HZ.o)) (O.keeps (HK.o.trans HZ.o)));have HX1:=lH hs;have HX2:=lH G;have HY:=lH hy;have HB0:=lH D;have HB1:=lH E;have z0:=D.ce 0;have x0:=E.ce 0;have z1:=D.ce 1;have x1:=E.ce 1;have z2:=D.ce 2;have x2:=E.ce 2;have z3:=D.ce 3;have x3:=E.ce 3;have z4:=D.ce 4;have x4:=E.ce 4;have z5:=D.ce 5;have x5:=E.ce 5;have z6:=D.ce 6;have x6:=E.ce 6;have z7:=D.ce 7;have x7:=E.ce 7;clear hat1 B hg1 ac hx1 hx2 hs G N O hy D E;go_wp2_with fail;clear hwz;refine HC.o.mono ?_;rintro e w1 ⟨rfl,hk1⟩;have HK1:=lH ((HK.o.trans HZ.o).trans hk1);clear hk1 z0 x0 z1 x1 z2 x2 z3 x3 z4 x4 z5 x5 z6 x6 z7 x7 u0 u1 u2 u3 u4 u5 u6 u7 p0 p1 p2 p3 p4 p5 p6 p7 q0 q1 q2 q3 q4 q5 q6 q7;cases y with
   | true=>
    have U:Hi (xs.take (k+1)=ys.take (k+1)):=lH (by rw [A0 HX1.o,A0 HX2.o,HP.o,of_decide_eq_true HY.o]);go_wp2;go_roundw;case rel=>exact⟨k+1,by go_num,by omega,U,HK1⟩
    case measure=>simp [intOf];omega
   | false=>
    obtain rfl:r=false:=by
     rw [<- HR.o];refine decide_eq_false (fun e=>of_decide_eq_false HY.o ?_);have h1:=HX1.o;rw [e,HX2.o] at h1;injection h1 with h1
     exact h1.symm
    go_wp2;go_ret;exact⟨rfl,HK1.o⟩
  ·obtain rfl:k=n:=bB;obtain rfl:r=true:=by
    rw [<- HR.o];have:=HP.o;rw [Ak (by rw [M.o];exact Aw _),Ak (by rw [HYL.o];exact Aw _)] at this;exact decide_eq_true this
   go_wp2;go_ret;exact⟨rfl,HK.o⟩
theorem dZ(s t:CJ):decide (s=t)=(decide (s.slots=t.slots)&&(decide (s.seq=t.seq)&&decide (s.l=t.l))):=by
 obtain⟨B,D,E⟩:=s;obtain⟨F,G,J⟩:=t;rw [DI];simp only [Af,decide_eq_true_eq,CJ.mk.injEq];constructor
 ·rintro⟨h1,h2,h3⟩;exact⟨h1,h3,h2⟩
 ·rintro⟨h1,h3,h2⟩;exact⟨h1,h2,h3⟩
theorem FC(v v2:B6)(r M:CJ)(gn un fn ln F J E D:Nat)(hg:r.slots.gens.length=gn)(hu:r.slots.used.length=un)(hf:r.slots.free.length=fn)(hln:v.lv.length=ln)(Y:M.slots.gens.length=F)(aa:M.slots.used.length=J)(X:M.slots.free.length=E)(G:v2.lv.length=D)(seq B:Int)(hsq:r.seq=seq)(N:M.seq=B)(b:Bool)(hb:decide (r=M)=b)(w:World)(h:CH w v r)(h2:CH w v2 M):
  Calls prog 19 #[pH (R_ v gn un fn ln seq),pH (R_ v2 F J E D B)] w fun x w'=>x = pJ (pI b)/\Aa [] w w':=by
 obtain⟨wz,hwz⟩:=eX ((w.alloc (.cells (R_ v gn un fn ln seq) 29)).alloc (.cells (R_ v2 F J E D B) 29));have HZ:Hi (Aa [] w wz):=lH lY;have HB0:Hi (Blk wz w 29 (R_ v gn un fn ln seq)):=lH kI;have HB1:Hi (Blk wz (w+1) 29 (R_ v2 F J E D B)):=lH aF;rw [dZ,hsq,N] at hb;obtain⟨y1,O⟩:=eX (decide (r.slots=M.slots));obtain⟨y2,T⟩:=eX (decide (seq=B));obtain⟨y3,U⟩:=eX (decide (r.l=M.l));rw [O,T,U] at hb;have l1:ln<=1000:=by rw [<- hln,h.t.len];exact h.sl
 have l2:D<=1000:=by rw [<- G,h2.t.len];exact h2.sl
 have ab:=lH (fun W (hk:Aa [] w W)=>WV v.s v2.s r.slots M.slots gn un fn F J E hg hu hf Y aa X y1 O W (h.s.keeps hk) (h2.s.keeps hk));have ac:=lH (fun W (hk:Aa [] w W)=>Tu v.la v2.la v.lc v2.lc v.lv v2.lv r.l M.l ln D hln G l1 l2 h.small h2.small y3 U W (h.l.keeps hk) (h2.l.keeps hk) (h.t.keeps hk) (h2.t.keeps hk));have HB:=lH hb;have f2:(seq==B)=y2:=by rw [<- T,DI];simp
 have d0:=HB0.o.ce 0;have d1:=HB0.o.ce 1;have d2:=HB0.o.ce 2;have e0:=HB1.o.ce 0;have e1:=HB1.o.ce 1;have e2:=HB1.o.ce 2;clear hg hu hf hln Y aa X G hsq N hb h h2 O T U l1 l2;go_enter func19,ntmps19;go_wp2_with fail;clear hwz d0 d1 d2 e0 e1 e2;refine(ab.o _ HZ.o).mono ?_;rintro e w1 ⟨rfl,hk1⟩;have HK1:=lH (HZ.o.trans hk1);have d3:=(HB0.o.keeps hk1 bA).ce 3;have d4:=(HB0.o.keeps hk1 bA).ce 4;have e3:=(HB1.o.keeps hk1 bA).ce 3;have e4:=(HB1.o.keeps hk1 bA).ce 4;clear hk1;cases y1 with
 | false=>
  obtain rfl:b=false:=by rw [<- HB.o];simp
  go_wp2;go_ret;exact⟨rfl,HK1.o⟩
 | true=>
  cases y2 with
  | false=>
   obtain rfl:b=false:=by rw [<- HB.o];simp
   go_wp2;go_ret;exact⟨rfl,HK1.o⟩
  | true=>
   obtain rfl:b=y3:=by rw [<- HB.o];simp
   go_wp2_with fail;refine(ac.o _ HK1.o).mono ?_;rintro e w2 ⟨rfl,hk2⟩;have HK2:=lH (HK1.o.trans hk2);clear hk2;go_wp2;go_ret;exact⟨rfl,HK2.o⟩
end
section
open Go.RowKit
theorem Kq{P:Program}{ops:Array Oper}{rest:List Oper}{o:Oper}{a:Act}{w:World}{Q:Exit->Act->World->Prop}(hgd:o.guard=none)(ty:TypeId)(x y:Operand)(ho:o.op = .store ty x y)
 (b off:Nat)(cells:Array Value)(hx:a.eval x = p_ b off)(hy:a.eval y = .agg cells)(t:TypeId)(old:Array Value)(hb:Blk w b t old)(hs:off+cells.size<=old.size)
 (hi:(P.info? ty).map (·.size)=some cells.size)(h1:cells.all (·.oneCell')=true)(new:Array Value)(hn:Ht old off cells.toList=new)(h:∀W',Blk W' b t new->Aa [b] w W'->wpList P ops Q rest (a.put o.dst UD) W'):wpList P ops Q (o::rest) a w:=
 wpList_store_mid hgd ty x y ho b off cells hx hy (Blk.there hb off cells.size hs) hi h1 (h _ (hn▸Blk.puts cells.toList off hb) (Bb b off _ w))
end
section
open Go.RowKit Go.Shelf
attribute [local go_sem] pN Lr Ls Lp Lq
attribute [local go_sem ↓] wp_at_zero wp_at_succ
def qR(o:sZ):List Value:=[pE pK o.kind,pE pK o.a,pE pK o.b,Dz o.s]
theorem qZ(x:sZ):(qR x).length=4:=rfl
theorem sU:∀(x:sZ),∀u∈qR x,u.oneCell'=true:=by intro x u hu;simp only [qR,Ac,Ab,or_false] at hu;rcases hu with rfl | rfl | rfl | rfl<;>rfl
abbrev sD:=AR qR 4
def sB(o:sZ):sZ:={ o with s:=F0 o.s }
def rI(L:List sZ):List sZ:=(L.take 90).map sB
theorem tI(a:Option Addr)(c:Nat)(L:List sZ)(n:Nat)(hn:L.length=n)(hm:n<=9223372036854775807)(w:World)(h:sD w a c L):
  Calls prog 16 #[pF a n c] w fun e w'=>∃a' n' c',e = pJ (.slice a' n' c')/\sD w' a' c' (rI L)/\(rI L).length=n'/\Aa [] w w':=by
 have H:=lH h;have HN:=lH hn;clear h hn;go_enter func16,ntmps16;go_wp2;go_loopw [3,4] (fun v i wr=>∃k:Nat,k<=n/\k<=90/\i = I_ k/\Hi (wr.ownsRow w 78 4 v ((L.take k).map sB).length (((L.take k).map sB).flatMap qR))/\Hi (Aa [] w wr)) (fun _ i _=>90 - (intOf i).toNat)
 case atStart=>exact⟨0,Ba _,Ba _,rfl,lH (BQ _ _ _ _),lH (Aa.refl _ _)⟩
 case round=>
  obtain⟨k,hkn,X,rfl,HR,HK⟩:=hrel;by_cases hlt:k<n/\k<90
  ·obtain⟨h1,h2⟩:=hlt
   obtain⟨x,hx⟩:∃x,L[k]? = some x:=⟨_,Aq lZ⟩;obtain⟨g,off,x',rfl,hg,D,hat⟩:=H.o.at_k (k:=k) lZ;obtain rfl:x=x':=by rw [hx] at D;injection D
   have q0:wr.cell? (A_ g (off+k*4))=_:=(HK.o.cell (p:=A_ g _) hg bA).trans (hat 0 _ rfl);have q1:wr.cell? (A_ g (off+k*4+1))=_:=(HK.o.cell (p:=A_ g _) hg bA).trans (hat 1 _ rfl);have q2:wr.cell? (A_ g (off+k*4+2))=_:=(HK.o.cell (p:=A_ g _) hg bA).trans (hat 2 _ rfl);have q3:wr.cell? (A_ g (off+k*4+3))=_:=(HK.o.cell (p:=A_ g _) hg bA).trans (hat 3 _ rfl);have i1:(0:Int)<=(k:Int):=bB;have i2:(k:Int)<(n:Int):=bB;have i3:(k:Int)<90:=bB;obtain⟨Y,hys⟩:=eX ((L.take k).map sB);have HTK:Hi ((L.take (k+1)).map sB=Y++[sB x]):=lH (by rw [A0 hx,pO,hys];rfl);rw [hys] at HR;have HYL:Hi (Y.length<=90):=lH vH;have T:=lH (Q5 (enc:=qR) (t:=73) underlying73 bC bE qZ sU HR.o HK.o.size (sB x) vB 73);have O:Hi (∀W,Aa u3.ownBlock.toList wr W->Aa [] w W):=lH fun W hW=>HK.o.own hW (AZ HR.o);clear hx D hat hys hg;go_upto_region 6 with(refine As bD 78 _ _ bD wr #[pE pK x.kind,I_ x.a,I_ x.b,Dz x.s] bD bD 78 #[pE pK 0,I_ 0,I_ 0,Dz ⟨#[]⟩] (Blk.new wr _ _) rfl bC aG ?_;intro w2 hb hk)
   try simp only [By]
   have hk1:Aa [] wr w2:=((Aa.refl [] wr).alloc _).own hk QW;obtain⟨b,B⟩:=eX wr.heap.size;have M:Hi (wr.heap.size<=b):=lH (qJ B);rw [B] at hb ⊢;clear B hk q0 q1 q2 q3;have b3:w2.cell? (A_ b 3)=some (Dz x.s):=hb.cell 3;have f3:w2.frozen? (A_ b 3)=false:=hb.frozen 3;have HB:=lH hb;have HK1:=lH hk1;clear hb hk1;go_wp2_with fail;refine(EU x.s _).mono ?_;rintro r w' ⟨rfl,rfl⟩;go_upto_region 7 with fail
   try simp only [By]
   have hb:=HB.o.set_ 3 (Dz (F0 x.s));have hk:=HK1.o.own (Ae w2 b 3 (Dz (F0 x.s))) (fun y hy=>by obtain rfl:=Ag.1 hy;exact M.o);generalize w2.setCell (A_ b 3) (Dz (F0 x.s))=w3 at hb hk ⊢;clear b3 f3 HB HK1;have c0:w3.cell? (A_ b 0)=some (I_ x.kind):=hb.cell 0;have c1:w3.cell? (A_ b 1)=some (I_ x.a):=hb.cell 1;have c2:w3.cell? (A_ b 2)=some (I_ x.b):=hb.cell 2;have c3:w3.cell? (A_ b 3)=some (Dz (F0 x.s)):=hb.cell 3;obtain⟨g4,c4,W4,G,F,hk4⟩:=T.o w3 hk;have HR4:=lH F;have HK4:=lH (O.o _ hk4);clear hb hk F hk4;go_wp2_with (at_builtin;refine Au _ rfl _ _ 73 rfl rfl rfl G ?_);go_roundw;case rel=>exact⟨k+1,by omega,by omega,by go_num,lH vG,HK4⟩
   case measure=>(simp [intOf];omega)
  ·have e1:((n:Nat):Int)<=(k:Int)\/(90:Int)<=(k:Int):=bB;have U:rI L=(L.take k).map sB:=by
    have h1:=HN.o;unfold rI;rcases pP k 90 with h | h
    ·rw [Ak (show L.length<=90 by omega),Ak (show L.length<=k by omega)]
    ·rw [show k=90 by omega]
   obtain⟨a',c',rfl,J,_⟩:=AR.of_row qZ HR.o;have E:Hi (sD wr a' c' (rI L)):=lH (by rw [U];exact J);obtain⟨N,hN⟩:=eX (((L.take k).map sB).length);rw [hN];have HLE:Hi ((rI L).length=N):=lH (by rw [U,hN]);clear J U hlt hN HR;rcases pP k n with hk | hk
   ·have i2:(k:Int)<(n:Int):=bB;have i3:¬(k:Int)<90:=bB;clear e1;go_wp2_with fail;go_ret;exact⟨_,_,_,rfl,E.o,HLE.o,HK.o⟩
   ·have i2:¬(k:Int)<(n:Int):=bB;clear e1;go_wp2_with fail;go_ret;exact⟨_,_,_,rfl,E.o,HLE.o,HK.o⟩
end
end Go.Proofs.YtncebikgoleolaaGreatDoor
