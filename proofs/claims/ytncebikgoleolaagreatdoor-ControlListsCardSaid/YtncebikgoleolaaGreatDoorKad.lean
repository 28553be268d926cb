/- Steps. -/
import Derived.Test.YtncebikgoleolaaGreatDoorKac
import Derived.Deep.AppendSrc
import Derived.Deep.RegionLaw
import Derived.Lib.AppendZerosOnto
import Derived.Lib.Overlaps
import Derived.Deep.DeepCutAuto
import Derived.Lib.AppendZeros
set_option maxRecDepth 100000
set_option maxHeartbeats 8000000
set_option linter.all false
namespace Go.Proofs.YtncebikgoleolaaGreatDoor
open Tryz
open _root_.Array renaming length_toList→BX
open _root_.Bool renaming and_assoc→EJ,and_eq_true→Af,true_and→DJ
open Builtin renaming append_→BI,copy_→E3,zeroCells→AN
open Ending renaming returned→pJ
open Instr renaming slice→AV
open _root_.Int renaming toNat_natCast→pW
open IntKind renaming i64→pK
open _root_.List renaming all_eq_true→Bm,append_assoc→CC,eq_nil_of_length_eq_zero→Ds,flatMap_append→BY,getElem?_cons_succ→Ao,getElem?_cons_zero→Aj,getElem?_eq_some_iff→Ad,getElem?_take→Dh,getElem?_toArray→An,length_append→Al,length_cons→Av,length_drop→B1,length_singleton→Bp,length_take→Ax,mem_cons→Ac,mem_flatMap→E6,nil_append→BH,not_mem_nil→Ab,size_toArray→Cz,take_append_drop→Dn,take_append_of_le_length→CI,take_of_length_le→Ak
open _root_.Nat renaming add_mul→qL,add_zero→AT,le_refl→Aw,le_trans→A8,lt_of_lt_of_le→BS,lt_or_ge→pP,min_eq_left→DE,mul_le_mul_right→Ch,zero_add→AW,zero_le→Ba
open Oper renaming semAt_some→pN
open Result renaming andThen→Bg
open Value renaming agg→pH,bool→pI,int→pE,ownBlock→EZ,pointer→pG,slice→pF,string→Dz
open World renaming block_lt_of_cell?→Be
section
open Go.RowKit Go.Shelf
attribute [local go_sem] pN
attribute [local go_sem ↓] wp_at_zero wp_at_succ
def Yr(n:Int):Value:=if n=0 then .nilIface else .iface 342 (pH #[pE pK n])
def DG(B:Nat)(w:World)(u:Value)(l:List El):Prop:=∃a c,u = pF a l.length c/\Hg w a c l/\∀g o,a=some ⟨g,o,none⟩->B<=g
theorem DG.none_(B:Nat)(w:World):DG B w (pF none 0 0) []:=⟨none,0,rfl,AR.none_,fun _ _ e=>by cases e⟩
theorem DG.of_row{w:World}{B B':Nat}{u:Value}{l:List El}(h:w.ownsRow B 194 4 u l.length (l.flatMap BT))(hb:B'<=B):DG B' w u l:=by
 obtain⟨a,c,rfl,hs,hg⟩:=AR.of_row D0 h;exact⟨a,c,rfl,hs,fun g o e=>A8 hb (hg g o e)⟩
theorem DG.keeps{B:Nat}{w w':World}{u:Value}{l:List El}(h:DG B w u l)(hk:Aa [] w w'):DG B w' u l:=by
 obtain⟨a,c,h1,h2,h3⟩:=h;exact⟨a,c,h1,h2.keeps hk,h3⟩
theorem Ul(a:Option Addr)(c:Nat)(L:List El)(n:Nat)(hn:L.length=n)(hL:n<=1000)(key:ByteArray)(now ov span:Int)(B:Hi ((DK L&&(Ns key&&(Em now 0 1000000000000&&(Em ov 0 1000000000&&(Em span 1 1000000000&&decide (now+span<=1000000000000))))))=false))(w:World)(h:Hg w a c L):
  Calls prog 167 #[pF a n c,Dz key,I_ now,I_ ov,I_ span] w (fun e w'=>∃u,e = pJ (.tuple #[u,I_ (Bk L key now ov span).2.1,Yr (Bk L key now ov span).2.2])/\DG w w' u (Bk L key now ov span).1/\Aa [] w w'):=by
 obtain⟨wz,hwz⟩:=eX ((w.alloc (.cells #[pE pK now] 3)).alloc (.cells #[pE pK ov] 3));have G:Aa [] w wz:=by rw [<- hwz];exact((Aa.refl [] w).alloc _).alloc _
 have T:Blk wz w 3 #[pE pK now]:=by rw [<- hwz];exact(Blk.new w _ _).alloc _
 have U:Blk wz (w+1) 3 #[pE pK ov]:=by rw [<- hwz];exact Ar _ _ _ _ bA
 obtain⟨N,hb1⟩:=eX (DK L);obtain⟨O,hb2⟩:=eX (Ns key);obtain⟨p1,D⟩:=eX (Em now 0 1000000000000);obtain⟨p2,E⟩:=eX (Em ov 0 1000000000);obtain⟨p3,F⟩:=eX (Em span 1 1000000000);have HR:=lH (fun W (hkk:Aa [] wz W)=>Kb a c L n hn bB N hb1 W (h.keeps (G.trans hkk)));have Y:Hi (Bk L key now ov span=([],0,if N then if O then 2 else 50 else 110)):=lH (by
  have hx:=B.out;rw [hb1,hb2,D,E,F] at hx;unfold Bk;rw [hb1,hb2,D,E,F];cases N<;>cases O<;>simp only [Bool.false_eq_true,if_false,if_true,DJ,EJ] at hx ⊢;rw [hx];rfl)
 have J:Hi ((N&&(O&&(p1&&(p2&&(p3&&decide (now+span<=1000000000000))))))=false):=lH (by rw [<- hb1,<- hb2,<- D,<- E,<- F];exact B.out);have H2:=lH hb2;have HP1:=lH D;have X:=lH E;have M:=lH F;have HK0:=lH G;have HB0:=lH T;have HB1:=lH U;clear h hn hb1 hb2 D E F G T U B;rw [Y.o];dsimp only;go_enter func167,ntmps167;go_wp2_with fail;refine(HR.o wz (Aa.refl [] wz)).mono ?_;rintro e w1 ⟨rfl,hk1⟩;have HK1:=lH (HK0.o.trans hk1);have c0:=(HB0.o.keeps hk1 bA).ce 0;have c1:=(HB1.o.keeps hk1 bA).ce 0;clear hk1 hwz;cases N with
 | false=>
  go_wp2_with fail;exact bodyPost_ret (v:=.tuple #[pF none 0 0,I_ 0,.iface 342 (pH #[pE pK 110])]) (by simp [results,results167,go_sem]) rfl ⟨_,rfl,DG.none_ _ _,HK1.o⟩
 | true=>
  go_wp2_with fail;refine(Kf key O H2.o _).mono ?_;rintro e w2 ⟨rfl,rfl⟩;cases O with
  | false=>
   go_wp2_with fail;exact bodyPost_ret (v:=.tuple #[pF none 0 0,I_ 0,.iface 342 (pH #[pE pK 50])]) (by simp [results,results167,go_sem]) rfl ⟨_,rfl,DG.none_ _ _,HK1.o⟩
  | true=>
   go_wp2_with fail;refine(G3 now _ _ p1 HP1.o _).mono ?_;rintro e w2 ⟨rfl,rfl⟩;cases p1 with
   | false=>
    go_wp2_with fail;exact bodyPost_ret (v:=.tuple #[pF none 0 0,I_ 0,.iface 342 (pH #[pE pK 2])]) (by simp [results,results167,go_sem]) rfl ⟨_,rfl,DG.none_ _ _,HK1.o⟩
   | true=>
    go_wp2_with fail;refine(G3 ov _ _ p2 X.o _).mono ?_;rintro e w2 ⟨rfl,rfl⟩;cases p2 with
    | false=>
     go_wp2_with fail;exact bodyPost_ret (v:=.tuple #[pF none 0 0,I_ 0,.iface 342 (pH #[pE pK 2])]) (by simp [results,results167,go_sem]) rfl ⟨_,rfl,DG.none_ _ _,HK1.o⟩
    | true=>
     go_wp2_with fail;refine(G3 span _ _ p3 M.o _).mono ?_;rintro e w2 ⟨rfl,rfl⟩;cases p3 with
     | false=>
      go_wp2_with fail;exact bodyPost_ret (v:=.tuple #[pF none 0 0,I_ 0,.iface 342 (pH #[pE pK 2])]) (by simp [results,results167,go_sem]) rfl ⟨_,rfl,DG.none_ _ _,HK1.o⟩
     | true=>
      have i9:(1000000000000:Int)<now+span:=by
       have:=J.o;simp only [DJ] at this;have:=of_decide_eq_false this;omega
      have ab:IntKind.i64.wrap (now+span)=now+span:=by
       have h1:=HP1.o;have h3:=M.o;unfold Em at h1 h3;simp only [Af,decide_eq_true_eq] at h1 h3;exact IntWalk.i64_in _ bB
      go_wp2_with fail;exact bodyPost_ret (v:=.tuple #[pF none 0 0,I_ 0,.iface 342 (pH #[pE pK 2])]) (by simp [results,results167,go_sem]) rfl ⟨_,rfl,DG.none_ _ _,HK1.o⟩
theorem WQ(a:Option Addr)(c:Nat)(L:List El)(n:Nat)(hn:L.length=n)(hL:n<=1000)(key:ByteArray)(now ov span:Int)(hb1:DK L=true)(hb2:Ns key=true)(J:Em now 0 1000000000000=true)(M:Em ov 0 1000000000=true)(N:Em span 1 1000000000=true)(ac:now+span<=1000000000000)(w:World)(h:Hg w a c L):
  Calls prog 167 #[pF a n c,Dz key,I_ now,I_ ov,I_ span] w (fun e w'=>∃u,e = pJ (.tuple #[u,I_ (Bk L key now ov span).2.1,Yr (Bk L key now ov span).2.2])/\DG w w' u (Bk L key now ov span).1/\Aa [] w w'):=by
 obtain⟨wz,hwz⟩:=eX ((w.alloc (.cells #[pE pK now] 3)).alloc (.cells #[pE pK ov] 3));have X:Aa [] w wz:=by rw [<- hwz];exact((Aa.refl [] w).alloc _).alloc _
 have Y:Blk wz w 3 #[pE pK now]:=by rw [<- hwz];exact(Blk.new w _ _).alloc _
 have aa:Blk wz (w+1) 3 #[pE pK ov]:=by rw [<- hwz];exact Ar _ _ _ _ bA
 have HR:=lH (fun W (hkk:Aa [] wz W)=>Kb a c L n hn bB true hb1 W (h.keeps (X.trans hkk)));have E:Hi (Bk L key now ov span=if 4<(Cq L now ov).length+1\/1000000000<DO L then([],0,92) else(Cq L now ov++[⟨DO L,key,now,now+span⟩],DO L,0)):=lH (by
  unfold Bk;rw [hb1,hb2,J,M,N,decide_eq_true ac];rfl)
 have HH:=lH h;have HN:=lH hn;have ae:=lH hb1;have H2:=lH hb2;have HP1:=lH J;have ai:=lH M;have aj:=lH N;have HK0:=lH X;have HB0:=lH Y;have HB1:=lH aa;have T:Hi (0<=now/\now<=1000000000000/\0<=ov/\ov<=1000000000/\1<=span/\span<=1000000000):=lH (by
  unfold Em at J M N;simp only [Af,decide_eq_true_eq] at J M N;omega)
 have aw:IntKind.i64.wrap (now+span)=now+span:=IntWalk.i64_in _ (by have:=T.o;omega);have ak:Hi (IntKind.i64.wrap (now+ov)=now+ov):=lH (IntWalk.i64_in _ (by have:=T.o;omega));have i9:¬(1000000000000:Int)<now+span:=bB;clear h hn hb1 hb2 J M N ac X Y aa;go_enter func167,ntmps167;go_wp2_with fail;refine(HR.o wz (Aa.refl [] wz)).mono ?_;rintro e w1 ⟨rfl,hk1⟩;have HK1:=lH (HK0.o.trans hk1);have ag:=lH hk1;have c0:=(HB0.o.keeps hk1 bA).ce 0;have c1:=(HB1.o.keeps hk1 bA).ce 0;clear hk1 hwz;go_wp2_with fail;refine(Kf key true H2.o _).mono ?_;rintro e w2 ⟨rfl,rfl⟩;go_wp2_with fail;refine(G3 now _ _ true HP1.o _).mono ?_;rintro e w2 ⟨rfl,rfl⟩;go_wp2_with fail;refine(G3 ov _ _ true ai.o _).mono ?_;rintro e w2 ⟨rfl,rfl⟩;go_wp2_with fail;refine(G3 span _ _ true aj.o _).mono ?_;rintro e w2 ⟨rfl,rfl⟩;go_wp2_with fail;have G:w.heap.size+1<w1.heap.size:=BS HB1.o.lt ag.o.size;have HLT:=lH G;have hid:∀x∈L,-1000000000000<=x.id/\x.id<=1000000000000:=fun x hx=>by
  have h1:=ae.o;unfold DK at h1;rw [Af] at h1;have h2:=Bm.1 h1.2 x hx;unfold IR at h2;simp only [Af,decide_eq_true_eq] at h2;omega
 have hA:=(Aa.refl [] w1).alloc (.cells #[pE pK 1] 3);refine(Ra a c L n HN.o hL w1 w (w+1) now ov hid ak.o (w1.alloc (.cells #[pE pK 1] 3)) (HH.o.keeps (HK1.o.trans hA)) (Blk.new w1 _ _) (Ct c0 _) (Ct c1 _) bB bB (fun h0 g o e=>by
  intro hg;subst hg;obtain⟨g',o',e1,hlt,_⟩:=HH.o.at_ (by rw [HN.o];exact h0);rw [e] at e1;injection e1 with e1;injection e1 with e1 _
  have:=HK1.o.size;omega)).mono ?_
 rintro e w3 ⟨u,rfl,hrow,O,hk3⟩;have af:Hi (Aa [] w w3):=lH (HK1.o.own (((Aa.refl [w1.heap.size] w1).alloc _).trans hk3) (fun y hy=>by simp only [Ac,Ab,or_false] at hy;have:=HK1.o.size;omega));have F:∀g∈u.ownBlock.toList,w1.heap.size<g:=fun g hg=>by
  have:=AZ hrow g hg;simp at this;omega
 have d0:=(hk3.cell (p:=A_ w 0) bG bG).trans (Ct c0 _);have d2:=O.ce 0;obtain⟨ys,hys⟩:=eX (Cq L now ov);obtain⟨id,U⟩:=eX (DO L);have am:ys.length<=n:=by rw [<- hys,<- HN.o];exact Pk _ _ _
 rw [hys] at hrow E;rw [U] at d2 E O;obtain⟨g9,c9,w9,B,D,hk9,ab⟩:=CO (enc:=BT) prog (t:=110) underlying110 ON bE D0 Iq hrow (A8 bA hk3.size) ⟨id,key,now,now+span⟩ bB 110;have e2:=(O.keeps hk9 (fun hm=>by have:=F _ hm;omega)).ce 0;have HK9:Hi (Aa [] w w9):=lH (af.o.own hk9 (fun y hy=>by have:=F y hy;have:=HK1.o.size;omega));have HR9:=lH D;have ah:Hi (ys.length<=1000):=lH bB;simp only [BT] at B;obtain⟨m,hm⟩:=eX (ys.length+1);rw [hm] at B E;have HM:=lH hm;have HC9:Hi (DG w w9 (pF (some (A_ g9 0)) m c9) (ys++[⟨id,key,now,now+span⟩])):=lH (by rw [<- hm];exact DG.of_row D (by have:=HK1.o.size;simp;omega));clear c0 c1 G hid hA hrow O hk3 F hys U am D hk9 ab hm;have ar:m<=1001:=by rw [<- HM.o];have:=ah.o;omega
 by_cases h4:4<m
 ·have HE:=lH (E.o.trans (if_pos (.inl h4)))
  have i4:(4:Int)<(m:Int):=bB;clear h4;go_wp2_with (at_builtin;refine Au _ rfl _ _ 110 rfl rfl rfl B ?_);exact bodyPost_ret (v:=.tuple #[pF none 0 0,I_ 0,.iface 342 (pH #[pE pK 92])]) (by simp [results,results167,go_sem]) rfl ⟨_,by rw [HE.o];rfl,by rw [HE.o];exact DG.none_ _ _,HK9.o⟩
 ·have i4:¬(4:Int)<(m:Int):=bB;by_cases h5:1000000000<id
  ·have HE:=lH (E.o.trans (if_pos (.inr h5)))
   clear h4;go_wp2_with (at_builtin;refine Au _ rfl _ _ 110 rfl rfl rfl B ?_);exact bodyPost_ret (v:=.tuple #[pF none 0 0,I_ 0,.iface 342 (pH #[pE pK 92])]) (by simp [results,results167,go_sem]) rfl ⟨_,by rw [HE.o];rfl,by rw [HE.o];exact DG.none_ _ _,HK9.o⟩
  ·have HE:=lH (E.o.trans (if_neg bB))
   clear h4;go_wp2_with (at_builtin;refine Au _ rfl _ _ 110 rfl rfl rfl B ?_);go_quiet (fail);go_wp2_with fail;exact bodyPost_ret (v:=.tuple #[pF (some (A_ g9 0)) m c9,I_ id,.nilIface]) (by simp [results,results167,go_sem]) rfl ⟨_,by rw [HE.o];rfl,by rw [HE.o];exact HC9.o.keeps (by repeat(first | exact Aa.refl _ _ | refine Aa.drewN ?_ _ | refine Aa.drew ?_)),by first | exact HK9.o | exact HK9.o.drewN _ | exact HK9.o.drew⟩
theorem Uk(a:Option Addr)(c:Nat)(L:List El)(n:Nat)(hn:L.length=n)(hL:n<=1000)(key:ByteArray)(now ov B:Int)(w:World)(h:Hg w a c L):
  Calls prog 167 #[pF a n c,Dz key,I_ now,I_ ov,I_ B] w (fun e w'=>∃u,e = pJ (.tuple #[u,I_ (Bk L key now ov B).2.1,Yr (Bk L key now ov B).2.2])/\DG w w' u (Bk L key now ov B).1/\Aa [] w w'):=by
 cases hb:(DK L&&(Ns key&&(Em now 0 1000000000000&&(Em ov 0 1000000000&&(Em B 1 1000000000&&decide (now+B<=1000000000000)))))) with
 | false=>exact Ul a c L n hn hL key now ov B (lH hb) w h
 | true=>
  simp only [Af,decide_eq_true_eq] at hb;obtain⟨h1,h2,h3,h4,D,E⟩:=hb;exact WQ a c L n hn hL key now ov B h1 h2 h3 h4 D E w h
theorem ME(a:Option Addr)(c:Nat)(L:List El)(n:Nat)(hn:L.length=n)(hL:n<=1000)(key:ByteArray)(now ov B:Int)(w:World)(hg:Et w)(E:0<w.heap.size)(h:Hg w a c L):
  Calls prog 131 #[pF a n c,Dz key,I_ now,I_ ov,I_ B] w (fun e w'=>∃u,e = pJ (.tuple #[u,I_ (Bk L key now ov B).2.1,I_ (Bk L key now ov B).2.2])/\DG w w' u (Bk L key now ov B).1/\Aa [] w w'):=by
 have HR:=lH (Uk a c L n hn hL key now ov B w h);obtain⟨⟨l,id,er⟩,hr⟩:∃r,Bk L key now ov B=r:=⟨_,rfl⟩;rw [hr] at HR ⊢;dsimp only at HR ⊢;have HG:=lH hg;clear hr h hn hg;go_enter func131,ntmps131;go_wp2_with fail;refine HR.o.mono ?_;rintro e w1 ⟨u,rfl,hu,hk⟩;have HU:=lH hu;have HK:=lH hk;have D:=lH (HG.o.keeps hk bA);clear hu hk;by_cases he:er=0
 ·subst he
  simp only [Yr,if_pos];go_wp2_with fail;refine(ErD.told_nil w1).mono ?_;rintro e w2 ⟨rfl,hk2⟩;have HK2:=lH hk2;clear hk2;go_wp2_with fail;exact bodyPost_ret (v:=.tuple #[u,I_ id,I_ 0]) (by simp [results,results131,go_sem]) rfl ⟨_,rfl,HU.o.keeps HK2.o,HK.o.trans HK2.o⟩
 ·simp only [Yr,if_neg he]
  go_wp2_with fail;refine(ErD.told_why er w1 D.o).mono ?_;rintro e w2 ⟨rfl,hk2⟩;have HK2:=lH hk2;clear hk2;go_wp2_with fail;exact bodyPost_ret (v:=.tuple #[u,I_ id,I_ er]) (by simp [results,results131,go_sem]) rfl ⟨_,rfl,HU.o.keeps HK2.o,HK.o.trans HK2.o⟩
def Fp(w:World)(E:Nat->Addr):Prop:=Ge w 438 [5,6,7,8,11,13] E
theorem Fp.keep{w w':World}{E:Nat->Addr}(h:Fp w E)(hk:Aa [] w w'):Fp w' E:=Ge.keep h hk
theorem Lk{E:Nat->Addr}(w:World)(h:Fp w E):Calls prog 222 #[.iface 438 (pG (some (E 5)))] w fun e w'=>e = pJ (I_ 81)/\w=w':=by
 have D:=h.cell 5 bA;have B:=lH (DM h (some 5) 5 bA bA true bE);simp only [Jj] at B;clear h;go_enter func222,ntmps222;go_wp2_with fail;refine B.out.mono ?_;rintro e w1 ⟨rfl,rfl⟩;go_wp2;go_ret;exact⟨rfl,rfl⟩
theorem DH{E:Nat->Addr}(w:World)(h:Fp w E):Calls prog 222 #[.iface 438 (pG (some (E 6)))] w fun e w'=>e = pJ (I_ 80)/\w=w':=by
 have F:=h.cell 5 bA;have B:=lH (DM h (some 6) 5 bA bA false bE);have G:=h.cell 6 bA;have D:=lH (DM h (some 6) 6 bA bA true bE);simp only [Jj] at B D;clear h;go_enter func222,ntmps222;go_wp2_with fail;refine B.out.mono ?_;rintro e w1 ⟨rfl,rfl⟩;go_wp2_with fail;refine D.out.mono ?_;rintro e w1 ⟨rfl,rfl⟩;go_wp2;go_ret;exact⟨rfl,rfl⟩
theorem I4{E:Nat->Addr}(w:World)(h:Fp w E):Calls prog 222 #[.iface 438 (pG (some (E 7)))] w fun e w'=>e = pJ (I_ 82)/\w=w':=by
 have J:=h.cell 5 bA;have D:=lH (DM h (some 7) 5 bA bA false bE);have M:=h.cell 6 bA;have F:=lH (DM h (some 7) 6 bA bA false bE);have G:=h.cell 7 bA;have B:=lH (DM h (some 7) 7 bA bA true bE);simp only [Jj] at D F B;clear h;go_enter func222,ntmps222;go_wp2_with fail;refine D.out.mono ?_;rintro e w1 ⟨rfl,rfl⟩;go_wp2_with fail;refine F.out.mono ?_;rintro e w1 ⟨rfl,rfl⟩;go_wp2_with fail;refine B.out.mono ?_;rintro e w1 ⟨rfl,rfl⟩;go_wp2;go_ret;exact⟨rfl,rfl⟩
theorem Ll{E:Nat->Addr}(w:World)(h:Fp w E):Calls prog 256 #[.iface 438 (pG (some (E 11)))] w fun e w'=>e = pJ (I_ 70)/\w=w':=by
 have D:=h.cell 11 bA;have B:=lH (DM h (some 11) 11 bA bA true bE);simp only [Jj] at B;clear h;go_enter func256,ntmps256;go_wp2_with fail;refine B.out.mono ?_;rintro e w1 ⟨rfl,rfl⟩;go_wp2;go_ret;exact⟨rfl,rfl⟩
end
section
open Go.RowKit Go.Shelf
structure Lu(P:Program)(t e:TypeId)(n:Nat)(z:Value):Prop where
 ht:P.underlying t=some (.slice e)
 hi:D1 (P.info? e) n=true
 el:P.elem t=e
 sz:∀W,(sizeOf e).run P W = .ok n W
 zv:∀W,(zeroValue e).run P W = .ok z W
 zc:z.cells.size=n
 z1:∀u∈z.cells.toList,u.oneCell'=true
section
variable {P:Program} {t e:TypeId} {n:Nat} {z:Value}
theorem Lu.ht'(h:Lu P t e n z):P.underlying t=some (.slice (P.elem t)):=by rw [h.el];exact h.ht
theorem Lu.s_h(h:Lu P t e n z)(W:World)(g off k cap l:Nat)(h2:l<=cap):
  (AV t (pF (some (A_ g off)) k cap) none (some (I_ (l:Int))) none).run P W = .ok (pF (some (A_ g off)) l cap) W:=by
 have B:=run_slice_h (P:=P) W t (some (A_ g off)) k cap h.ht' .i64 l bB bB;rw [B,h.el,h.sz];simp [sliced,BR,Bg]
theorem Lu.s_l(h:Lu P t e n z)(W:World)(g off k cap l:Nat)(h1:l<=k)(h2:k<=cap):
  (AV t (pF (some (A_ g off)) k cap) (some (I_ (l:Int))) none none).run P W = .ok (pF (some (if cap=l then(A_ g off) else(A_ g (off+l*n)))) (k - l) (cap - l)) W:=by
 have B:=run_slice_l (P:=P) W t (some (A_ g off)) k cap h.ht' .i64 l bB bB;rw [B,h.el,h.sz];by_cases hc:cap=l
 ·simp [sliced,hc,Bg]
 ·simp [sliced,hc,BR,Bg]
theorem Lu.s_lh(h:Lu P t e n z)(W:World)(g off k cap l m:Nat)(h0:l<=m)(h1:m<=cap)(h2:l<cap):
  (AV t (pF (some (A_ g off)) k cap) (some (I_ (l:Int))) (some (I_ (m:Int))) none).run P W = .ok (pF (some (A_ g (off+l*n))) (m - l) (cap - l)) W:=by
 have B:=run_slice_lh (P:=P) W t (some (A_ g off)) k cap h.ht' .i64 .i64 l m bB bB bB;rw [B,h.el,h.sz];simp [sliced,show ¬cap=l by omega,BR,Bg]
theorem Lu.s_lhm(h:Lu P t e n z)(W:World)(g off k cap l m r:Nat)(h0:l<=m)(h1:m<=r)(h2:r<=cap):
  (AV t (pF (some (A_ g off)) k cap) (some (I_ (l:Int))) (some (I_ (m:Int))) (some (I_ (r:Int)))).run P W = .ok (sliced (some (A_ g off)) l m r n) W:=by
 have B:=run_slice_lhm (P:=P) W t (some (A_ g off)) k cap h.ht' .i64 .i64 .i64 l m r bB bB bB bB;rw [B,h.el,h.sz];rfl
theorem Lu.clear1(h:Lu P t e n z)(W:World)(B:TypeId)(g o c:Nat)(cs:Array Value)(hb:Blk W g e cs)(D:o+n<=cs.size):
  (Builtin.clear_ #[t] B #[pF (some (A_ g o)) 1 c]).run P W = .ok (.tuple #[]) (W.setCells g o (AN z.cells 1).toList):=by
 have hl:(AN z.cells 1).toList.length=n:=by simp [AN,h.zc]
 have hst:=run_storeCells_cells (P:=P) g o (AN z.cells 1).toList 0 W (fun j hj=>by
   rw [hl] at hj;rw [hb.cell,Array.getElem?_eq_getElem bB];rfl) (fun j _=>hb.frozen _) (fun u hu=>by
   refine h.z1 u ?_;have:(AN z.cells 1).toList=z.cells.toList:=by
    apply List.ext_getElem?;intro j;rcases pP j n with hj | hj
    ·simp [AN,h.zc,hj,Nat.mod_eq_of_lt hj]
    ·rw [List.getElem?_eq_none (by rw [hl];exact hj),List.getElem?_eq_none (by rw [BX,h.zc];exact hj)]
   rw [<- this];exact hu)
 simp only [AT] at hst;simp only [Builtin.clear_,An,Aj,Sem.run_bind,run_underlying h.ht,Result.andThen_ok,h.zv,hst,Sem.run_pure]
structure mG(P:Program)(t:TypeId)(n:Nat){α:Type}(enc:α→List Value)(xs:List α)(L i g c:Nat)(w:World)(X A:Value)(W1 W2:World):Prop where
 s1:∀W,(AV t (pF (some ⟨g,0,none⟩) L c) (some (pE pK (i:Int))) (some (pE pK ((i:Int)+1))) (some (pE pK (L:Int)))).run P W = .ok X W
 s2:∀W,(AV t (pF (some ⟨g,0,none⟩) L c) none (some (pE pK (i:Int))) none).run P W = .ok (pF (some ⟨g,0,none⟩) i c) W
 s3:∀W,(AV t (pF (some ⟨g,0,none⟩) L c) (some (pE pK ((i:Int)+1))) none none).run P W = .ok A W
 s4:∀W,(AV t (pF (some ⟨g,0,none⟩) (L - 1) c) (some (pE pK ((L - 1:Nat):Int))) (some (pE pK (L:Int))) none).run P W = .ok (pF (some ⟨g,(L - 1)*n,none⟩) 1 (c - (L - 1))) W
 ap:∀ty,(BI #[t,t] ty #[pF (some ⟨g,0,none⟩) i c,A]).run P w.drew = .ok (pF (some ⟨g,0,none⟩) (L - 1) c) W1
 cl:∀ty,(Builtin.clear_ #[t] ty #[pF (some ⟨g,(L - 1)*n,none⟩) 1 (c - (L - 1))]).run P W1 = .ok (.tuple #[]) W2
 fin:AR enc n W2 (some ⟨g,0,none⟩) c (xs.eraseIdx i)
 keep:Aa [g] w W2
theorem J9{α:Type}{enc:α->List Value}(hn:∀x,(enc x).length=n)(xs:List α)(k:Nat)(hk:k<=xs.length):(xs.take k).flatMap enc=(xs.flatMap enc).take (k*n):=by
 have h:xs.flatMap enc=(xs.take k).flatMap enc++(xs.drop k).flatMap enc:=by rw [<- BY,Dn]
 have hl:((xs.take k).flatMap enc).length=k*n:=by rw [EP hn,Ax,DE hk]
 rw [h,CI bB];exact(Ak bB).symm
theorem J8{α:Type}{enc:α->List Value}(hn:∀x,(enc x).length=n)(xs:List α)(k:Nat)(hk:k<=xs.length):(xs.drop k).flatMap enc=(xs.flatMap enc).drop (k*n):=by
 have h:xs.flatMap enc=(xs.take k).flatMap enc++(xs.drop k).flatMap enc:=by rw [<- BY,Dn]
 have hl:((xs.take k).flatMap enc).length=k*n:=by rw [EP hn,Ax,DE hk]
 rw [h,List.drop_append_of_le_length bB,List.drop_of_length_le (l:=(xs.take k).flatMap enc) bB,BH]
theorem AR.of_cells{α:Type}{enc:α->List Value}(hn:∀x,(enc x).length=n){w:World}{g c:Nat}{cs:Array Value}{xs:List α}(hb:Blk w g e cs)(B:xs.length<=c)(h:cs.toList.take (xs.length*n)=xs.flatMap enc):AR enc n w (some (A_ g 0)) c xs:=
 ⟨B,(fun e=>by cases e),fun _=>⟨g,0,rfl,hb.lt,fun i hi j u hj=>by
  have hjn:j<n:=by have:=(Ad.1 hj).1;rwa [hn] at this
  rw [AW,hb.cell];have h1:=KL hn xs i hi j hjn;have hlt:i*n+j<xs.length*n:=by
   have:(i+1)*n<=xs.length*n:=Ch n hi;rw [qL] at this;omega
  rw [hj,<- h,Dh,if_pos hlt] at h1;simpa using h1⟩⟩
theorem Lu.del(h:Lu P t e n z){α:Type}{enc:α->List Value}(hn:∀x,(enc x).length=n)(ab:∀x,∀u∈enc x,u.oneCell'=true){xs:List α}{L i g c B:Nat}(hL:xs.length=L)(hi:i<L)(ae:L<=1000)(w:World)
 (hr:w.ownsRow B e n (pF (some (A_ g 0)) L c) L (xs.flatMap enc)):∃X A W1 W2,mG P t n enc xs L i g c w X A W1 W2:=by
 rcases hr.2 with⟨h0,_⟩ | ⟨g',c',cur,e1,hb,hg,G,aq,hs,ad⟩
 ·cases h0
 injection e1 with e1 _ e2
 injection e1 with e1;injection e1 with e1 _
 subst e1;subst e2;have F:Blk w g e cur:=hg;obtain⟨i0,zz,ah,aw,N,al,au⟩:=Ck h.hi;obtain⟨E,D⟩:=eX ((xs.drop (i+1)).flatMap enc);have hnl:E.length=(L - (i+1))*n:=by rw [<- D,EP hn,B1,hL]
 have ar:L*n<=cur.size:=by rw [hs];exact Ch n G
 have av:(i+1)*n<=L*n:=Ch n hi;have ak:(i+1)*n=i*n+n:=by rw [qL];omega
 have ap:(L - (i+1))*n=L*n - (i+1)*n:=Nat.sub_mul _ _ _;have ao:(L - 1)*n=L*n - n:=by rw [Nat.sub_mul];omega
 have O:∀j u,E[j]? = some u->cur[(i+1)*n+j]? = some u:=fun j u hj=>by
  have ai:=(Ad.1 hj).1;rw [<- D,J8 hn xs (i+1) bB,List.getElem?_drop,<- ad,Dh] at hj;rw [if_pos bB] at hj;simpa using hj
 obtain⟨A,hA⟩:=eX (pF (some (if c=i+1 then(A_ g 0) else(A_ g (0+(i+1)*n)))) (L - (i+1)) (c - (i+1)));have ac:Src P i0.size t A (L - (i+1)) E w.drew:=by
  rw [<- hA];refine Src.ofSlice _ h.ht _ _ _ _ (by rw [N];exact hnl) (fun j u hj=>?_) (fun u hu=>?_)
  ·have ai:=(Ad.1 hj).1
   have U:c≠i+1:=fun U=>by
    have:L - (i+1)=0:=bB;rw [this] at hnl;omega
   rw [if_neg U,BR,F.drew.cell,AW];exact O j u hj
  ·rw [<- D] at hu
   obtain⟨x,_,hx⟩:=E6.1 hu;exact ab x u hx
 have T:=run_append_room_src (P:=P) w.drew t t;obtain⟨M,hb1,Y⟩:=Blk.setAll E (i*n) w.drew cur F.drew bB;have J:M.size=cur.size:=by rw [<- BX,Y];simp;omega
 obtain⟨an,hb2,af⟩:=Blk.setAll (AN z.cells 1).toList ((L - 1)*n) _ M hb1 (by
  have:(AN z.cells 1).toList.length=n:=by simp [AN,h.zc]
  rw [this,J];omega)
 refine⟨_,A,_,_,⟨fun W=>h.s_lhm W g 0 L c i (i+1) L bB bB G,fun W=>h.s_h W g 0 L c i bB,fun W=>?_,fun W=>?_,fun ty=>?_,fun ty=>h.clear1 _ ty g _ _ M hb1 (by rw [J];omega),?_,?_⟩⟩
 ·rw [<- hA];exact h.s_l W g 0 L c (i+1) hi G
 ·have:=h.s_lh W g 0 (L - 1) c (L - 1) L bB G bB
  rw [AW,show L - (L - 1)=1 by omega] at this;exact this
 ·have:=T ty e i0 h.ht ah g 0 i c _ _ _ ac bB (fun j hj=>by
   rw [N,AW,F.drew.cell,Array.getElem?_eq_getElem bB];rfl) (fun j hj=>F.drew.frozen _)
  rw [N,show i+(L - (i+1))=L - 1 by omega,AW] at this;exact this
 ·have ag:(xs.eraseIdx i).length=L - 1:=by rw [List.length_eraseIdx,if_pos bB,hL]
  refine AR.of_cells hn hb2 bB ?_;rw [ag,af,Y];have e1:cur.toList.take (i*n)=(xs.take i).flatMap enc:=by
   rw [J9 hn xs i bB,<- ad,List.take_take,DE bB]
  have aa:(cur.toList.take (i*n)).length=i*n:=by rw [Ax,BX];omega
  have ax:(cur.toList.take (i*n)++E).length=(L - 1)*n:=by rw [Al,aa,hnl];omega
  rw [CC,CC,CI (by rw [Ax];simp only [Al,B1,BX,aa,hnl];omega),List.take_take,Nat.min_self,<- CC,CI bB,Ak bB,e1,<- D,<- BY,List.eraseIdx_eq_take_drop_succ]
 ·exact((((Aa.refl [g] w).drew)).trans (Aa.setCells (.inl bA) _ _ (Aa.refl [g] _))).trans (Aa.setCells (.inl bA) _ _ (Aa.refl [g] _))
end
section
variable {P:Program} {t e:TypeId} {n:Nat} {z:Value}
theorem Lu.copy(h:Lu P t e n z)(W:World)(O:TypeId)(g o B E:Nat)(a:Addr)(D G k:Nat)(cs:List Value)(cur:Array Value)(hk:Nat.min D B=k)(hl:cs.length=k*n)
 (F:∀j v,cs[j]? = some v->W.cell? (a.add j)=some v)(hb:Blk W g e cur)(T:o+cs.length<=cur.size)(h1:∀v∈cs,v.oneCell'=true):
  (E3 #[t,t] O #[pF (some (A_ g o)) B E,pF (some a) D G]).run P W = .ok (goInt k) (W.setCells g o cs):=by
 obtain⟨U,X,J,_,M,_,_⟩:=Ck h.hi;have N:=run_loadCells_list (P:=P) W a cs F;have hst:=run_storeCells_cells (P:=P) g o cs 0 W (fun j hj=>by rw [AT,hb.cell,Array.getElem?_eq_getElem bB];rfl) (fun j _=>hb.frozen _) h1;simp [E3,run_underlying h.ht,Builtin.lenOf,Builtin.firstCells,sizeOf,typeInfo,J,M,hk,<- hl,N,hst]
structure mJ(P:Program)(t:TypeId)(n:Nat){α:Type}(enc:α→List Value)(xs:List α)(r:α)(L i g c vb:Nat)(w W1 W2:World):Prop where
 s1:∀W,(AV t (pF (some ⟨g,0,none⟩) L c) (some (pE pK (i:Int))) none none).run P W = .ok (pF (some ⟨g,i*n,none⟩) (L - i) (c - i)) W
 s2:∀W,(AV t (pF (some ⟨g,0,none⟩) L c) none (some (pE pK ((L:Int)+1))) none).run P W = .ok (pF (some ⟨g,0,none⟩) (L+1) c) W
 s3:∀W,(AV t (pF (some ⟨g,0,none⟩) (L+1) c) (some (pE pK ((i:Int)+1))) none none).run P W = .ok (pF (some ⟨g,(i+1)*n,none⟩) (L - i) (c - (i+1))) W
 s4:∀W,(AV t (pF (some ⟨g,0,none⟩) (L+1) c) (some (pE pK (i:Int))) none none).run P W = .ok (pF (some ⟨g,i*n,none⟩) (L+1 - i) (c - i)) W
 c1:∀ty,(E3 #[t,t] ty #[pF (some ⟨g,(i+1)*n,none⟩) (L - i) (c - (i+1)),pF (some ⟨g,i*n,none⟩) (L+1 - i) (c - i)]).run P w.drew = .ok (goInt ((L - i:Nat):Int)) W1
 c2:∀ty,(E3 #[t,t] ty #[pF (some ⟨g,i*n,none⟩) (L+1 - i) (c - i),pF (some ⟨vb,0,none⟩) 1 1]).run P W1 = .ok (goInt 1) W2
 fin:AR enc n W2 (some ⟨g,0,none⟩) c (xs.take i++r::xs.drop i)
 keep:Aa [g] w W2
theorem Li{α:Type}(a b:List α)(k:Nat)(h:a.length=k):(a++b).take k=a:=by rw [CI bB,Ak bB]
theorem Lu.ins(h:Lu P t e n z){α:Type}{enc:α->List Value}(hn:∀x,(enc x).length=n)(N:∀x,∀u∈enc x,u.oneCell'=true){xs:List α}(r:α){L i g c B Y:Nat}(hL:xs.length=L)(hi:i<L)(F:L+1<=c)(ab:L<=1000)(w:World)
 (hr:w.ownsRow B e n (pF (some (A_ g 0)) L c) L (xs.flatMap enc)){te:TypeId}(hv:Blk w Y te (enc r).toArray)(hne:Y≠g):∃W1 W2,mJ P t n enc xs r L i g c Y w W1 W2:=by
 rcases hr.2 with⟨h0,_⟩ | ⟨g',c',cur,e1,hb,hg,ad,ai,hs,X⟩
 ·cases h0
 injection e1 with e1 _ e2
 injection e1 with e1;injection e1 with e1 _
 subst e1;subst e2;have J:Blk w g e cur:=hg;obtain⟨D,E⟩:=eX ((xs.drop i).flatMap enc);have hnl:D.length=(L - i)*n:=by rw [<- E,EP hn,B1,hL]
 have aj:(L+1)*n<=cur.size:=by rw [hs];exact Ch n F
 have e1:(L+1)*n=L*n+n:=by rw [qL];omega
 have e2:(i+1)*n=i*n+n:=by rw [qL];omega
 have e3:(L - i)*n=L*n - i*n:=Nat.sub_mul _ _ _;have e4:i*n<=L*n:=Ch n bB;have T:∀j u,D[j]? = some u->cur[i*n+j]? = some u:=fun j u hj=>by
  have ak:=(Ad.1 hj).1;rw [<- E,J8 hn xs i bB,List.getElem?_drop,<- X,Dh] at hj;rw [if_pos bB] at hj;simpa using hj
 obtain⟨G,hb1,O⟩:=Blk.setAll D ((i+1)*n) w.drew cur J.drew bB;have M:G.size=cur.size:=by rw [<- BX,O];simp;omega
 obtain⟨ah,hb2,ac⟩:=Blk.setAll (enc r) (i*n) _ G hb1 (by rw [hn,M];omega);have ae:Blk (w.drew.setCells g ((i+1)*n) D) Y te (enc r).toArray:=hv.keeps ((Aa.setCells (S:=[g]) (.inl bA) D ((i+1)*n) ((Aa.refl [g] w).drew))) aV;refine⟨w.drew.setCells g ((i+1)*n) D,(w.drew.setCells g ((i+1)*n) D).setCells g (i*n) (enc r),⟨fun W=>?_,fun W=>h.s_h W g 0 L c (L+1) F,fun W=>?_,fun W=>?_,fun ty=>?_,fun ty=>?_,?_,?_⟩⟩
 ·have:=h.s_l W g 0 L c i bB ad
  rw [if_neg bB,AW] at this;exact this
 ·have:=h.s_l W g 0 (L+1) c (i+1) bB F
  rw [if_neg bB,AW,show L+1 - (i+1)=L - i by omega] at this;exact this
 ·have:=h.s_l W g 0 (L+1) c i bB F
  rw [if_neg bB,AW] at this;exact this
 ·refine h.copy w.drew ty g ((i+1)*n) (L - i) _ (A_ g (i*n)) (L+1 - i) _ (L - i) D cur nI hnl (fun j v hj=>?_) J.drew bB (fun u hu=>?_)
  ·rw [BR,J.drew.cell];exact T j v hj
  ·rw [<- E] at hu
   obtain⟨x,_,hx⟩:=E6.1 hu;exact N x u hx
 ·refine h.copy _ ty g (i*n) (L+1 - i) _ (A_ Y 0) 1 1 1 (enc r) G nI kE (fun j v hj=>?_) hb1 (by rw [hn,M];omega) (fun u hu=>N r u hu)
  rw [BR,ae.cell,AW];simpa using hj
 ·refine AR.of_cells hn hb2 bG ?_
  have U:(xs.take i++r::xs.drop i).length=L+1:=by simp;omega
  have k1:cur.toList.take (i*n)=(xs.take i).flatMap enc:=by
   rw [J9 hn xs i bB,<- X,List.take_take,DE bB]
  have k2:(cur.toList.take ((i+1)*n)).take (i*n)=(xs.take i).flatMap enc:=by rw [List.take_take,DE bB,k1]
  have k3:(cur.toList.take ((i+1)*n)).length=(i+1)*n:=by rw [Ax,BX];omega
  have k4:((xs.take i).flatMap enc).length=i*n:=by rw [EP hn,Ax];congr 1;omega
  have k5:G.toList.take (i*n)=(xs.take i).flatMap enc:=by
   rw [O,CC,CI bB,k2]
  have k6:G.toList.drop (i*n+n)=D++cur.toList.drop ((i+1)*n+D.length):=by
   rw [O,CC,<- e2];exact List.drop_left' k3
  rw [U,ac,hn,k5,k6,BY,List.flatMap_cons,E];rw [show(xs.take i).flatMap enc++enc r++(D++cur.toList.drop ((i+1)*n+D.length))=((xs.take i).flatMap enc++(enc r++D))++cur.toList.drop ((i+1)*n+D.length) by simp only [CC]];exact Li _ _ _ (by simp only [Al,k4,hn,hnl];omega)
 ·exact((((Aa.refl [g] w).drew)).trans (Aa.setCells (.inl bA) _ _ (Aa.refl [g] _))).trans (Aa.setCells (.inl bA) _ _ (Aa.refl [g] _))
structure mH(P:Program)(t ti:TypeId)(n:Nat){α:Type}(enc:α→List Value)(xs:List α)(r:α)(L i g c vb N G:Nat)(w W1 W2 W3:World):Prop where
 s1:∀W,(AV t (pF (some ⟨g,0,none⟩) L c) (some (pE pK (i:Int))) none none).run P W = .ok (pF (some ⟨g,i*n,none⟩) (L - i) (c - i)) W
 s2:∀W,(AV t (pF (some ⟨g,0,none⟩) L c) none (some (pE pK (i:Int))) none).run P W = .ok (pF (some ⟨g,0,none⟩) i c) W
 ap:∀ty,(BI #[t,ti] ty #[pF (some ⟨g,0,none⟩) i c,pE pK ((L:Int)+1 - (i:Int))]).run P w = .ok (pF (some ⟨N,0,none⟩) (L+1) G) W1
 s3:∀W,(AV t (pF (some ⟨N,0,none⟩) (L+1) G) (some (pE pK (i:Int))) none none).run P W = .ok (pF (some ⟨N,i*n,none⟩) (L+1 - i) (G - i)) W
 c1:∀ty,(E3 #[t,t] ty #[pF (some ⟨N,i*n,none⟩) (L+1 - i) (G - i),pF (some ⟨vb,0,none⟩) 1 1]).run P W1 = .ok (goInt 1) W2
 s4:∀W,(AV t (pF (some ⟨N,0,none⟩) (L+1) G) (some (pE pK ((i:Int)+1))) none none).run P W = .ok (pF (some ⟨N,(i+1)*n,none⟩) (L - i) (G - (i+1))) W
 c2:∀ty,(E3 #[t,t] ty #[pF (some ⟨N,(i+1)*n,none⟩) (L - i) (G - (i+1)),pF (some ⟨g,i*n,none⟩) (L - i) (c - i)]).run P W2.drew = .ok (goInt ((L - i:Nat):Int)) W3
 fin:AR enc n W3 (some ⟨N,0,none⟩) G (xs.take i++r::xs.drop i)
 keep:Aa [] w W3
 ge:w.heap.size≤N
theorem Lu.insG(h:Lu P t e n z){ti:TypeId}(a3:P.underlying ti=some (.int .i64))(be:0<n){α:Type}{enc:α->List Value}(hn:∀x,(enc x).length=n)(ab:∀x,∀u∈enc x,u.oneCell'=true){xs:List α}(r:α){L i g c B vb:Nat}(hL:xs.length=L)(hi:i<L)(af:c<L+1)(ap:L<=1000)(w:World)
 (hr:w.ownsRow B e n (pF (some (A_ g 0)) L c) L (xs.flatMap enc)){te:TypeId}(hv:Blk w vb te (enc r).toArray):∃N G W1 W2 W3,mH P t ti n enc xs r L i g c vb N G w W1 W2 W3:=by
 rcases hr.2 with⟨h0,_⟩ | ⟨g',c',cur,e1,hb,hg,al,bb,hs,an⟩
 ·cases h0
 injection e1 with e1 _ e2
 injection e1 with e1;injection e1 with e1 _
 subst e1;subst e2;have T:Blk w g e cur:=hg;obtain⟨i0,zz,az,a1,a0,ak,ay⟩:=Ck h.hi;obtain⟨D,E⟩:=eX ((xs.drop i).flatMap enc);have hnl:D.length=(L - i)*n:=by rw [<- E,EP hn,B1,hL]
 have bd:L*n<=cur.size:=by rw [hs];exact Ch n al
 have e1:(L+1)*n=L*n+n:=by rw [qL];omega
 have e2:(i+1)*n=i*n+n:=by rw [qL];omega
 have e3:(L - i)*n=L*n - i*n:=Nat.sub_mul _ _ _;have e4:i*n<=L*n:=Ch n bB;have e5:(L+1 - i)*n=(L+1)*n - i*n:=Nat.sub_mul _ _ _;have ad:∀j u,D[j]? = some u->cur[i*n+j]? = some u:=fun j u hj=>by
  have a2:=(Ad.1 hj).1;rw [<- E,J8 hn xs i bB,List.getElem?_drop,<- an,Dh] at hj;rw [if_pos bB] at hj;simpa using hj
 obtain⟨olds,J⟩:=eX ((xs.take i).flatMap enc);have U:olds.length=i*n:=by rw [<- J,EP hn,Ax];congr 1;omega
 have ae:∀j u,olds[j]? = some u->cur[j]? = some u:=fun j u hj=>by
  have a2:=(Ad.1 hj).1;rw [<- J,J9 hn xs i bB,<- an,List.take_take,Dh] at hj;rw [if_pos bB] at hj;simpa using hj
 have hb2:(L+1)*i0.bytes<=140737488355328:=A8 (Nat.mul_le_mul (show L+1<=1001 by omega) ay) bE;have av:=Lib.run_append_grow_zeros (P:=P) w t ti;have hG:∀X,(BI #[t,ti] X #[pF (some (A_ g 0)) i c,I_ ((L+1 - i:Nat):Int)]).run P w = .ok (pF (some (A_ w 0)) (i+(L+1 - i)) (grownCap w (i+(L+1 - i)) c e)) (w.drew.alloc (.cells (olds.toArray++AN zz.cells (L+1 - i)++AN zz.cells (grownCap w (i+(L+1 - i)) c e - (i+(L+1 - i)))) e)):=fun X=>
  av X e i0 zz .i64 .i64 h.ht a3 az a1 (some (A_ g 0)) i c olds (run_firstCells_some w.drew i0.size i (A_ g 0) i c olds (by rw [a0];exact U) (fun j v hj=>by rw [BR,T.drew.cell,AW];exact ae j v hj)) (L+1 - i) bB bB bB bB (by
   have:(L+1 - i)*i0.bytes<=(L+1)*i0.bytes:=Ch _ bB;omega) (by rw [show i+(L+1 - i)=L+1 by omega];exact growslice_fits af hb2)
 obtain⟨G,ah⟩:=eX (grownCap w (i+(L+1 - i)) c e);have Y:L+1<=G:=by rw [<- ah,show i+(L+1 - i)=L+1 by omega];exact grownCap_ge _ _ _ _
 rw [ah] at hG;obtain⟨F,O⟩:=eX (olds.toArray++AN zz.cells (L+1 - i)++AN zz.cells (G - (i+(L+1 - i))));rw [O] at hG;have a4:∀k,(AN zz.cells k).size=k*n:=fun k=>by simp [AN,ak]
 have ba:(L+1)*n<=F.size:=by
  rw [<- O];simp only [Array.size_append,a4,Cz,U];omega
 have ar:F.toList.take (i*n)=olds:=by
  rw [<- O];simp only [Array.toList_append];rw [CC];exact Li _ _ _ U
 have hN:=Blk.new w.drew e F;have aq:w.drew.heap.size=w.heap.size:=rfl;rw [aq] at hN;have hk1:Aa [] w (w.drew.alloc (.cells F e)):=((Aa.refl [] w).drew).alloc _;obtain⟨W1,au⟩:=eX (w.drew.alloc (.cells F e));rw [au] at hN hk1 hG;obtain⟨M,hb1,aj⟩:=Blk.setAll (enc r) (i*n) W1 F hN kE;have aa:M.size=F.size:=by rw [<- BX,aj];simp [hn];omega
 have hk2:Aa [w.heap.size] W1 (W1.setCells w (i*n) (enc r)):=Aa.setCells (.inl bA) _ _ (Aa.refl _ _);obtain⟨W2,ac⟩:=eX (W1.setCells w (i*n) (enc r));have a7:=T.lt;have ax:Blk W2 g e cur:=by rw [<- ac];exact(T.keeps hk1 bA).keeps hk2 bG
 rw [ac] at hb1 hk2;obtain⟨a9,ai,aw⟩:=Blk.setAll D ((i+1)*n) W2.drew M hb1.drew (by rw [aa];omega);refine⟨w,G,W1,W2,W2.drew.setCells w ((i+1)*n) D,⟨fun W=>?_,fun W=>h.s_h W g 0 L c i bB,fun X=>?_,fun W=>?_,fun X=>?_,fun W=>?_,fun X=>?_,?_,?_,Aw _⟩⟩
 ·have:=h.s_l W g 0 L c i bB al
  rw [if_neg bB,AW] at this;exact this
 ·have:=hG X
  rw [show i+(L+1 - i)=L+1 by omega,show((L+1 - i:Nat):Int)=(L:Int)+1 - (i:Int) by omega] at this;exact this
 ·have:=h.s_l W w 0 (L+1) G i bB Y
  rw [if_neg bB,AW] at this;exact this
 ·rw [<- ac]
  refine h.copy W1 X w (i*n) (L+1 - i) _ (A_ vb 0) 1 1 1 (enc r) F nI kE (fun j v hj=>?_) hN kE (fun u hu=>ab r u hu);rw [BR,(hv.keeps hk1 bA).cell,AW];simpa using hj
 ·have:=h.s_l W w 0 (L+1) G (i+1) bB Y
  rw [if_neg bB,AW,show L+1 - (i+1)=L - i by omega] at this;exact this
 ·refine h.copy W2.drew X w ((i+1)*n) (L - i) _ (A_ g (i*n)) (L - i) _ (L - i) D M (Nat.min_self _) hnl (fun j v hj=>?_) hb1.drew (by rw [aa];omega) (fun u hu=>?_)
  ·rw [BR,ax.drew.cell];exact ad j v hj
  ·rw [<- E] at hu
   obtain⟨x,_,hx⟩:=E6.1 hu;exact ab x u hx
 ·refine AR.of_cells hn ai bG ?_
  have am:(xs.take i++r::xs.drop i).length=L+1:=by simp;omega
  have k1:M.toList.take ((i+1)*n)=olds++enc r:=by
   rw [aj,ar];exact Li _ _ _ (by rw [Al,U,hn];omega)
  rw [am,aw,k1,BY,List.flatMap_cons,J,E];rw [show olds++enc r++D++M.toList.drop ((i+1)*n+D.length)=(olds++(enc r++D))++M.toList.drop ((i+1)*n+D.length) by simp only [CC]];exact Li _ _ _ (by simp only [Al,U,hn,hnl];omega)
 ·have hk3:Aa [w.heap.size] W2 (W2.drew.setCells w ((i+1)*n) D):=((Aa.refl _ W2).drew).trans (Aa.setCells (.inl bA) _ _ (Aa.refl _ _))
  exact hk1.own (hk2.trans hk3) bF
end
end
section
open Go.RowKit Go.Shelf
attribute [local go_sem] pN
attribute [local go_sem ↓] wp_at_zero wp_at_succ
theorem Ip:Lu prog 109 59 5 (pH #[pI false,I_ 0,I_ 0,I_ 0,I_ 0]):=⟨by kernel_rfl,by kernel_rfl,by kernel_rfl,fun W=>by kernel_rfl,fun W=>by kernel_rfl,by kernel_rfl,by
 intro u hu;simp only [Value.cells,Ac,Ab,or_false] at hu;rcases hu with rfl | rfl | rfl | rfl | rfl<;>rfl⟩
theorem Yi(xs:List EX)(L i g c B:Nat)(hL:xs.length=L)(hi:i<L)(E:L<=1000)(w:World)(hr:w.ownsRow B 59 5 (pF (some (A_ g 0)) L c) L (xs.flatMap B8)):
  Calls prog 224 #[pF (some (A_ g 0)) L c,I_ (i:Int),I_ ((i:Int)+1)] w fun e w'=>e = pJ (pF (some (A_ g 0)) (L - 1) c)/\AR B8 5 w' (some (A_ g 0)) c (xs.eraseIdx i)/\Aa [g] w w':=by
 obtain⟨X,A,U,W2,D⟩:=Ip.del Cv FA hL hi E w hr;have hs1:=D.s1;have N:=D.s2;have O:=D.s3;have T:=D.s4;have J:=D.cl 109;have G:=D.cl;have F:=lH D;have M:((i:Int)==(i:Int)+1)=false:=by simp;omega
 clear D hr hL hi;go_enter func224,ntmps224;go_wp2_with fail
 go_region_law (refine BG _ _ 109 bD bD bD bD (F.o.ap _) ?_)
 all_goals
  go_wp2;go_ret;exact⟨rfl,F.o.fin,F.o.keep⟩
theorem gL:Lu prog 33 67 24 (pH #[pE pK 0,I_ 0,Dz ⟨#[]⟩,Dz ⟨#[]⟩,I_ 0,I_ 0,Dz ⟨#[]⟩,I_ 0,I_ 0,pI false,I_ 0,I_ 0,I_ 0,I_ 0,Dz ⟨#[]⟩,I_ 0,I_ 0,I_ 0,I_ 0,I_ 0,I_ 0,Dz ⟨#[]⟩,I_ 0,I_ 0]):=⟨by kernel_rfl,by kernel_rfl,by kernel_rfl,fun W=>by kernel_rfl,fun W=>by kernel_rfl,by kernel_rfl,by
 intro u hu;simp only [Value.cells,Ac,Ab,or_false] at hu;rcases hu with rfl | rfl | rfl | rfl | rfl | rfl | rfl | rfl | rfl | rfl | rfl | rfl | rfl | rfl | rfl | rfl | rfl | rfl | rfl | rfl | rfl | rfl | rfl | rfl<;>rfl⟩
theorem cF(xs:List Bq)(L i g c B:Nat)(hL:xs.length=L)(hi:i<L)(E:L<=1000)(w:World)(hr:w.ownsRow B 67 24 (pF (some (A_ g 0)) L c) L (xs.flatMap encJob)):
  Calls prog 46 #[pF (some (A_ g 0)) L c,I_ (i:Int),I_ ((i:Int)+1)] w fun e w'=>e = pJ (pF (some (A_ g 0)) (L - 1) c)/\AR encJob 24 w' (some (A_ g 0)) c (xs.eraseIdx i)/\Aa [g] w w':=by
 obtain⟨X,A,U,W2,D⟩:=gL.del Dc Ir hL hi E w hr;have hs1:=D.s1;have N:=D.s2;have O:=D.s3;have T:=D.s4;have J:=D.cl 33;have G:=D.cl;have F:=lH D;have M:((i:Int)==(i:Int)+1)=false:=by simp;omega
 clear D hr hL hi;go_enter func46,ntmps46;go_wp2_with fail
 go_region_law (refine BG _ _ 33 bD bD bD bD (F.o.ap _) ?_)
 all_goals
  go_wp2;go_ret;exact⟨rfl,F.o.fin,F.o.keep⟩
theorem DB:Lu prog 27 112 8 (.agg OC.k):=⟨by kernel_rfl,by kernel_rfl,by kernel_rfl,fun W=>by kernel_rfl,fun W=>by kernel_rfl,by kernel_rfl,by
 intro u hu;simp only [Value.cells,Ac,Ab,or_false] at hu;rcases hu with rfl | rfl | rfl | rfl | rfl | rfl | rfl | rfl<;>rfl⟩
theorem Tt(xs:List TV)(L i g c B:Nat)(hL:xs.length=L)(hi:i<L)(E:L<=1000)(w:World)(hr:w.ownsRow B 112 8 (pF (some (A_ g 0)) L c) L (xs.flatMap BE)):
  Calls prog 134 #[pF (some (A_ g 0)) L c,I_ (i:Int),I_ ((i:Int)+1)] w fun e w'=>e = pJ (pF (some (A_ g 0)) (L - 1) c)/\AR BE 8 w' (some (A_ g 0)) c (xs.eraseIdx i)/\Aa [g] w w':=by
 obtain⟨X,A,U,W2,D⟩:=DB.del CF FB hL hi E w hr;have hs1:=D.s1;have N:=D.s2;have O:=D.s3;have T:=D.s4;have J:=D.cl 27;have G:=D.cl;have F:=lH D;have M:((i:Int)==(i:Int)+1)=false:=by simp;omega
 clear D hr hL hi;go_enter func134,ntmps134;go_wp2_with fail
 go_region_law (refine BG _ _ 27 bD bD bD bD (F.o.ap _) ?_)
 all_goals
  go_wp2;go_ret;exact⟨rfl,F.o.fin,F.o.keep⟩
theorem Qw{w:World}{B g k:Nat}{F G:TypeId}{E cb:Array Value}(hv:Blk w B F E)(hg:Blk w g G cb)(hne:B≠g)(D:cb.size≠0)(lb c:Nat):
  (callFunc 246 #[pF (some (A_ B 0)) 1 1,pF (some (A_ g k)) lb c]).run prog w = .ok (.value (pI false)) w:=by
 rw [run_callFunc_extern func246 bC bC bC (e:=Extern.SlicesOverlaps.overlaps #[109,109] #[4]) bC,
  Lib.run_overlaps_apart w 109 4 59 Ip.ht 5 Ip.sz (A_ B 0) (A_ g k) 1 1 lb c hne F G E.size cb.size (by unfold Blk at hv;simp [World.shape?,hv]) (by unfold Blk at hg;simp [World.shape?,hg]) D (hv.frozen 0) (hv.frozen _)]
 rfl
def KO(B:Nat)(xs:List EX)(r:EX)(L i:Nat)(S:List Nat)(w:World):Ending->World->Prop:=fun e w'=>∃a c,e = pJ (pF a (L+1) c)/\Ku w' a c (xs.take i++r::xs.drop i)/\Aa S w w'/\∀g o,a=some ⟨g,o,none⟩->B<=g
theorem cP(xs:List EX)(r:EX)(L c B vb:Nat)(a:Option Addr)(hL:xs.length=L)(U:L<=1000)(w:World)(hB:B<=w.heap.size)(hr:w.ownsRow B 59 5 (pF a L c) L (xs.flatMap B8))(hv:Blk w vb 59 (B8 r).toArray):
  Calls prog 223 #[pF a L c,I_ (L:Int),pF (some (A_ vb 0)) 1 1] w (KO B xs r L L (pF a L c).ownBlock.toList w):=by
 have T:AR B8 5 w (some (A_ vb 0)) 1 [r]:=AR.of_cells Cv hv bA (by simp [B8]);obtain⟨i0,z,F,G,J,M,N⟩:=Ck Ip.hi;obtain⟨v',w',h1,h2,h3⟩:=AR.app (c:=1) prog underlying109 F G J rfl M bE Cv FA (show w.ownsRow B 59 5 (pF a L c) xs.length (xs.flatMap B8) by rw [hL];exact hr) hB T bG N 109;obtain⟨a',c',rfl,O,E⟩:=AR.of_row Cv h2;have D:KO B xs r L L (pF a L c).ownBlock.toList w (pJ (.slice a' (xs++[r]).length c')) w':=⟨a',c',by simp [hL],by rw [<- hL,List.take_length,List.drop_length];exact O,(Aa.refl _ w).grown h3 (fun k hk=>.inl iX),E⟩;obtain⟨q,hq⟩:=eX ((xs++[r]).length);rw [hq] at h1 D;have HF:=lH D;obtain⟨X,hX⟩:∃X,∀W,(AV 109 (pF a L c) (some (I_ (L:Int))) none none).run prog W = .ok X W:=by
  rcases hr.2 with⟨h0,h1⟩ | ⟨g,cap,cur,h0,hb,hg,Y,_⟩
  ·have h1:L=0:=h1
   subst h1;injection h0 with h0 _ h2
   subst h0;subst h2;exact⟨pF none 0 0,fun W=>by kernel_rfl⟩
  ·injection h0 with h0 _ h2
   subst h0;subst h2;exact⟨_,fun W=>Ip.s_l W g 0 L c L (Aw _) Y⟩
 have af:((L:Int)==(L:Int))=true:=bA;clear T F G J M N h2 h3 O D hq hr hv hL;simp only [Bp] at h1;go_enter func223,ntmps223;go_wp2_with (at_builtin;refine Au _ rfl _ _ 109 rfl rfl rfl h1 ?_);go_ret;exact HF.o
theorem Y7(xs:List EX)(r:EX)(L i g c B M:Nat)(hL:xs.length=L)(hi:i<L)(E:L+1<=c)(F:L<=1000)(w:World)(hr:w.ownsRow B 59 5 (pF (some (A_ g 0)) L c) L (xs.flatMap B8))(hv:Blk w M 59 (B8 r).toArray)(hne:M≠g):
  Calls prog 223 #[pF (some (A_ g 0)) L c,I_ (i:Int),pF (some (A_ M 0)) 1 1] w (KO B xs r L i [g] w):=by
 have J:=lH (AZ hr g iW);obtain⟨W1,W2,hI⟩:=Ip.ins Cv FA r hL hi E F w hr hv hne;obtain⟨cs,D⟩:=DP hr rfl;have G:cs.size≠0:=by
  rcases hr.2 with⟨h0,_⟩ | ⟨N,c',cur,e1,hb,hg,aa,U,hs,af⟩
  ·cases h0
  ·injection e1 with e1 _ e2
   injection e1 with e1;injection e1 with e1 _
   subst e1;subst e2;have h1:Blk w g 59 cur:=hg;unfold Blk at h1 D;rw [h1] at D;injection D with D;injection D with D
   rw [<- D,hs];omega
 have ab:=fun k lb c=>Qw (k:=k) hv D hne G lb c;have hs1:=hI.s1;have ac:=hI.s2;have ad:=hI.s3;have ae:=hI.s4;have O:=hI.c1;have T:=hI.c2;have HI:=lH hI;have hw1:IntKind.i64.wrap ((L:Int)+1)=(L:Int)+1:=IntWalk.i64_in _ bB;have ag:IntKind.i64.wrap ((i:Int)+1)=(i:Int)+1:=IntWalk.i64_in _ bB;have X:((i:Int)==(L:Int))=false:=by simp;omega
 have Y:¬(c:Int)<(L:Int)+1:=bB;clear hI hr hv D G hL hi E hne;go_enter func223,ntmps223;go_wp2_with fail;go_region;all_goals
  go_wp2;go_ret;exact⟨_,_,rfl,HI.o.fin,HI.o.keep,fun N o' e=>by(injection e with e;injection e with e _;rw [<- e];exact J.o)⟩
theorem Y6(xs:List EX)(r:EX)(L i g c B O:Nat)(hL:xs.length=L)(hi:i<L)(D:c<L+1)(E:L<=1000)(w:World)(M:B<=w.heap.size)(hr:w.ownsRow B 59 5 (pF (some (A_ g 0)) L c) L (xs.flatMap B8))(hv:Blk w O 59 (B8 r).toArray):
  Calls prog 223 #[pF (some (A_ g 0)) L c,I_ (i:Int),pF (some (A_ O 0)) 1 1] w (KO B xs r L i [g] w):=by
 have F:=lH M;clear M;obtain⟨N,G,W1,W2,W3,hI⟩:=Ip.insG (ti:=3) underlying3 bE Cv FA r hL hi D E w hr hv;have hs1:=hI.s1;have aa:=hI.s2;have ab:=hI.s3;have ac:=hI.s4;have J:=hI.ap 109;have T:=hI.c1;have U:=hI.c2;have HI:=lH hI;have hw1:IntKind.i64.wrap ((L:Int)+1)=(L:Int)+1:=IntWalk.i64_in _ bB;have ad:IntKind.i64.wrap ((i:Int)+1)=(i:Int)+1:=IntWalk.i64_in _ bB;have ae:IntKind.i64.wrap ((L:Int)+1 - (i:Int))=(L:Int)+1 - (i:Int):=IntWalk.i64_in _ bB;have X:((i:Int)==(L:Int))=false:=by simp;omega
 have Y:(c:Int)<(L:Int)+1:=bB;clear hI hr hv hL hi D;go_enter func223,ntmps223;go_wp2_with (at_builtin;refine Lib.wpList_append_run _ rfl _ _ _ _ rfl _ _ rfl rfl _ _ J ?_);go_region;all_goals
  go_wp2;go_ret;exact⟨_,_,rfl,HI.o.fin,HI.o.keep.mono bA,fun g' o' e=>by(injection e with e;injection e with e _;rw [<- e];exact A8 F.o HI.o.ge)⟩
theorem UO(xs:List EX)(r:EX)(L i c B E:Nat)(a:Option Addr)(hL:xs.length=L)(hi:i<=L)(D:L<=1000)(w:World)(F:B<=w.heap.size)(hr:w.ownsRow B 59 5 (pF a L c) L (xs.flatMap B8))(hv:Blk w E 59 (B8 r).toArray)(hne:∀g,(pF a L c).ownBlock=some g->E≠g):
  Calls prog 223 #[pF a L c,I_ (i:Int),pF (some (A_ E 0)) 1 1] w (KO B xs r L i (pF a L c).ownBlock.toList w):=by
 rcases pP i L with h | h
 ·rcases hr.2 with⟨h0,h1⟩ | ⟨g,cap,cur,h0,hb,hg,G,_⟩
  ·have h1:L=0:=h1
   omega
  ·injection h0 with h0 _ h2
   subst h0;subst h2;rcases pP c (L+1) with h3 | h3
   ·exact Y6 xs r L i g c B E hL h h3 D w F hr hv
   ·exact Y7 xs r L i g c B E hL h h3 D w hr hv (hne g rfl)
 ·obtain rfl:i=L:=bB;exact cP xs r i c B E a hL D w F hr hv
def F4(B:Nat)(w:World)(u:Value)(l:List EX):Prop:=∃a c,u = pF a l.length c/\Ku w a c l/\∀g o,a=some ⟨g,o,none⟩->B<=g
theorem F4.none_(B:Nat)(w:World):F4 B w (pF none 0 0) []:=⟨none,0,rfl,AR.none_,fun _ _ e=>by cases e⟩
theorem F4.keeps{B:Nat}{w w':World}{u:Value}{l:List EX}(h:F4 B w u l)(hk:Aa [] w w'):F4 B w' u l:=by
 obtain⟨a,c,h1,h2,h3⟩:=h;exact⟨a,c,h1,h2.keeps hk,h3⟩
theorem SS(a:Option Addr)(c:Nat)(L:List EX)(n:Nat)(hn:L.length=n)(hL:n<=1000)(at_:Int)(w:World)(E:Nat->Addr)(hE:Fp w E)(h:Ku w a c L):
  Calls prog 205 #[pF a n c,I_ at_] w (fun e w'=>∃u,e = pJ (.tuple #[u,I_ (Cl L at_).2])/\F4 w w' u (Cl L at_).1/\Aa [] w w'):=by
 obtain⟨b1,hb1⟩:=eX (Ew L);have HR:=lH (JU a c L n hn bB b1 hb1 w h);have HH:=lH h;have HN:=lH hn;have HE:=lH hE;have HB:=lH hb1;have e5:=hE.cell 5 bA;have e6:=hE.cell 7 bA;clear h hn hE hb1;cases b1 with
 | false=>
  have HC:Hi (Cl L at_=([],81)):=lH (by unfold Cl;rw [HB.o];rfl);rw [HC.o];dsimp only;go_enter func205,ntmps205;go_wp2_with fail;refine HR.o.mono ?_;rintro e w1 ⟨rfl,hk1⟩;have e5:=(HE.o.keep hk1).cell 5 bA;have HK1:=lH hk1;clear hk1;go_wp2_with fail;refine(Lk w1 (HE.o.keep HK1.o)).mono ?_;rintro e w2 ⟨rfl,rfl⟩;go_wp2_with fail;exact bodyPost_ret (v:=.tuple #[pF none 0 0,I_ 81]) (by simp [results,results205,go_sem]) rfl ⟨_,rfl,F4.none_ _ _,HK1.o⟩
 | true=>
  by_cases hat:at_<0\/(n:Int)<=at_
  ·have HC:Hi (Cl L at_=([],82)):=lH (by unfold Cl;rw [HB.o,if_pos rfl,if_pos lQ])
   rw [HC.o];dsimp only;have hf:at_<0\/(¬at_<0/\at_≥(n:Int)):=bB;clear hat;go_enter func205,ntmps205;go_wp2_with fail;refine HR.o.mono ?_;rintro e w1 ⟨rfl,hk1⟩;have e6:=(HE.o.keep hk1).cell 7 bA;have HK1:=lH hk1;clear hk1;rcases hf with hf | ⟨aa,ab⟩
   ·go_wp2_with fail
    refine(I4 w1 (HE.o.keep HK1.o)).mono ?_;rintro e w2 ⟨rfl,rfl⟩;go_wp2_with fail;exact bodyPost_ret (v:=.tuple #[pF none 0 0,I_ 82]) (by simp [results,results205,go_sem]) rfl ⟨_,rfl,F4.none_ _ _,HK1.o⟩
   ·go_wp2_with fail
    refine(I4 w1 (HE.o.keep HK1.o)).mono ?_;rintro e w2 ⟨rfl,rfl⟩;go_wp2_with fail;exact bodyPost_ret (v:=.tuple #[pF none 0 0,I_ 82]) (by simp [results,results205,go_sem]) rfl ⟨_,rfl,F4.none_ _ _,HK1.o⟩
  ·obtain⟨i,rfl,hi⟩:=MA (i:=at_) (u:=n) bB bB
   have HC:Hi (Cl L (i:Int)=(L.eraseIdx i,0)):=lH (by unfold Cl;rw [HB.o,if_pos rfl,if_neg lQ,pW]);rw [HC.o];dsimp only;have aa:¬((i:Int)<0):=bB;have ab:¬((n:Int)<=(i:Int)):=bB;have ai:IntKind.i64.wrap ((i:Int)+1)=(i:Int)+1:=IntWalk.i64_in _ bB;clear hat;go_enter func205,ntmps205;go_wp2_with fail;refine HR.o.mono ?_;rintro e w1 ⟨rfl,hk1⟩;have HK1:=lH hk1;clear hk1;go_wp2_with fail;refine(KB a c L n HN.o bB w1 (HH.o.keeps HK1.o)).mono ?_;rintro e w2 ⟨a2,Y,rfl,ac,B,hk2⟩;obtain⟨F,rfl⟩:∃F,a2=some (A_ F 0):=by
    rcases B.2 with⟨N,e1⟩ | ⟨g,cap,cur,N,_⟩
    ·have e1:n=0:=e1
     omega
    ·injection N with N _ _
     exact⟨g,N⟩
   have J:=AZ B F iW;have HK2:=lH hk2;have U:=lH B;have D:=lH J;clear ac B hk2 J;go_wp2_with fail;refine(Yi L n i F Y _ HN.o hi hL w2 U.o).mono ?_;rintro e w3 ⟨rfl,M,hk3⟩;have T:Hi (Aa [] w w3):=lH ((HK1.o.trans HK2.o).own hk3 (fun y hy=>by simp only [Ac,Ab,or_false] at hy;have:=D.o;have:=HK1.o.size;omega));have X:=lH M;have G:(L.eraseIdx i).length=n - 1:=by rw [List.length_eraseIdx,if_pos (by rw [HN.o];exact hi),HN.o]
   have O:=lH G;clear M hk3 G;go_wp2_with fail;exact bodyPost_ret (v:=.tuple #[pF (some (A_ F 0)) (n - 1) Y,I_ 0]) (by simp [results,results205,go_sem]) rfl ⟨_,rfl,⟨_,Y,by rw [O.o],X.o,fun g o e=>by(injection e with e;injection e with e _;rw [<- e];exact A8 HK1.o.size D.o)⟩,T.o⟩
theorem SR(a:Option Addr)(c:Nat)(L:List EX)(n:Nat)(hn:L.length=n)(hL:n<=999)(at_:Int)(r:EX)(w:World)(E:Nat->Addr)(hE:Fp w E)(h:Ku w a c L):
  Calls prog 204 #[pF a n c,I_ at_,pH (L_ r)] w (fun e w'=>∃u,e = pJ (.tuple #[u,I_ (BU L at_ r).2])/\F4 w w' u (BU L at_ r).1/\Aa [] w w'):=by
 obtain⟨b1,hb1⟩:=eX (Ew L);obtain⟨b2,hb2⟩:=eX (La r);obtain⟨wz,hwz⟩:=eX (w.alloc (.cells (L_ r) 59));have HZ:Hi (Aa [] w wz):=lH jV;have T:Hi (Blk wz w 59 (L_ r)):=lH nN;have HR:=lH (JU a c L n hn bB b1 hb1 wz (h.keeps HZ.o));have ab:=lH (I2 r b2 hb2);have HH:=lH (h.keeps HZ.o);have HN:=lH hn;have HE:=lH (hE.keep HZ.o);have HB:=lH hb1;have HB2:=lH hb2;clear h hn hE hb1 hb2;go_enter func204,ntmps204;go_wp2_with fail;clear hwz;refine HR.o.mono ?_;rintro e w1 ⟨rfl,hk1⟩;have HK1:=lH hk1;have e5:=(HE.o.keep hk1).cell 5 bA;have B:=T.o.keeps hk1 bA;have d0:=B.ce 0;have d1:=B.ce 1;have d2:=B.ce 2;have d3:=B.ce 3;have d4:=B.ce 4;have an:=lH B;clear hk1 B;cases b1 with
 | false=>
  have HC:Hi (BU L at_ r=([],81)):=lH (by unfold BU;rw [HB.o];rfl);go_wp2_with fail;refine(Lk w1 (HE.o.keep HK1.o)).mono ?_;rintro e w2 ⟨rfl,rfl⟩;go_wp2_with fail;exact bodyPost_ret (v:=.tuple #[pF none 0 0,I_ 81]) (by simp [results,results204,go_sem]) rfl ⟨_,by rw [HC.o],by rw [HC.o];exact F4.none_ _ _,HZ.o.trans HK1.o⟩
 | true=>
  go_wp2_with fail;refine(ab.o w1).mono ?_;rintro e w2 ⟨rfl,hk2⟩;have HK2:=lH (HK1.o.trans hk2);have e2:=(HE.o.keep HK2.o).cell 6 bA;have e6:=(HE.o.keep HK2.o).cell 7 bA;have B:=T.o.keeps HK2.o bA;clear d0 d1 d2 d3 d4 e5;have d0:=B.ce 0;have d1:=B.ce 1;have d2:=B.ce 2;have d3:=B.ce 3;have d4:=B.ce 4;have D:=lH B;clear hk2 B;cases b2 with
  | false=>
   have HC:Hi (BU L at_ r=([],80)):=lH (by unfold BU;rw [HB.o,if_pos rfl,HB2.o];rfl);go_wp2_with fail;refine(DH w2 (HE.o.keep HK2.o)).mono ?_;rintro e w3 ⟨rfl,rfl⟩;go_wp2_with fail;exact bodyPost_ret (v:=.tuple #[pF none 0 0,I_ 80]) (by simp [results,results204,go_sem]) rfl ⟨_,by rw [HC.o],by rw [HC.o];exact F4.none_ _ _,HZ.o.trans HK2.o⟩
  | true=>
   by_cases hat:at_<0\/(n:Int)<at_\/16<=n
   ·have HC:Hi (BU L at_ r=([],82)):=lH (by unfold BU;rw [HB.o,if_pos rfl,HB2.o,if_pos rfl,if_pos lQ])
    have hf:at_<0\/(¬at_<0/\(n:Int)<at_)\/(¬at_<0/\¬(n:Int)<at_/\(16:Int)<=(n:Int)):=bB;clear hat;rcases hf with hf | ⟨Y,aa⟩ | ⟨Y,aa,am⟩<;>
    ·go_wp2_with fail
     refine(I4 w2 (HE.o.keep HK2.o)).mono ?_;rintro e w3 ⟨rfl,rfl⟩;go_wp2_with fail;exact bodyPost_ret (v:=.tuple #[pF none 0 0,I_ 82]) (by simp [results,results204,go_sem]) rfl ⟨_,by rw [HC.o],by rw [HC.o];exact F4.none_ _ _,HZ.o.trans HK2.o⟩
   ·have hi:at_.toNat<=n:=bB;obtain⟨i,rfl⟩:∃i:Nat,at_=i:=⟨at_.toNat,by omega⟩;rw [pW] at hi;have HC:Hi (BU L (i:Int) r=(L.take i++r::L.drop i,0)):=lH (by unfold BU;rw [HB.o,if_pos rfl,HB2.o,if_pos rfl,if_neg lQ,pW]);have Y:¬((i:Int)<0):=bB;have aa:¬((n:Int)<(i:Int)):=bB;have am:¬((16:Int)<=(n:Int)):=bB;have J:(L.take i++r::L.drop i).length=n+1:=by have:=HN.o;simp;omega
    have G:=lH J;have HS:Hi (∀W,Aa [] w2 W->Aa [] w2 W/\W.cell? (A_ w 0)=some (pI r.allow)/\W.cell? (A_ w 1)=some (I_ r.addr)/\W.cell? (A_ w 2)=some (I_ r.bits)/\W.cell? (A_ w 3)=some (I_ r.from_)/\W.cell? (A_ w 4)=some (I_ r.to_)):=lH fun W hk=>⟨hk,(D.o.keeps hk bA).cell 0,(D.o.keeps hk bA).cell 1,(D.o.keeps hk bA).cell 2,(D.o.keeps hk bA).cell 3,(D.o.keeps hk bA).cell 4⟩;clear hat J e2 e6 d0 d1 d2 d3 d4;go_wp2_with fail;refine wp_region_held_drew (S:=(fun w':World=>Aa [] w2 w'/\w'.cell? (A_ w 0)=some (pI r.allow)/\w'.cell? (A_ w 1)=some (I_ r.addr)/\w'.cell? (A_ w 2)=some (I_ r.bits)/\w'.cell? (A_ w 3)=some (I_ r.from_)/\w'.cell? (A_ w 4)=some (I_ r.to_))) bC fX (fun hHeld=>?_);refine rQ 0 ?_;refine rQ 2 ?_;refine rQ 3 ?_;refine wpAnyH_ready (rs:=[1,4]) bC bA ?_;refine AllReadyH.cons rfl (fun K hK=>?_) ?_
    ·go_simp
     (refine(KB a c L n HN.o bB _ (HH.o.keeps (HK2.o.trans hHeld.1))).mono ?_;rintro r9 wb ⟨ac,cc,rfl,al,F,hck⟩)
     refine rO hK fX fun hHeld=>?_;clear hK K;refine rC 4 fun K hK=>?_;go_simp;refine rO hK fX fun hHeld=>?_;clear hK K;refine rC 5 fun K hK=>?_;go_simp
     (refine(UO L r n i cc w2 wb ac HN.o hi bB (wb.alloc (.cells (L_ r) 59)) (by(have:=hck.size;simp at this ⊢;omega)) (Ah F ((Aa.refl [] wb).alloc _) bA) (Blk.new wb 59 (L_ r)) (fun g hg=>by(have:=(F.lt g hg).2;omega))).mono ?_;rintro r8 wi ⟨U,X,rfl,O,N,M⟩;have hKI:Aa [] w2 wi:=((((Aa.refl [] w2).drew.trans hck).alloc _).own N (fun y hy=>by(have:=F.lt y bU;simp at this ⊢;omega))))
     refine rO hK fX fun hHeld=>?_;clear hK K;refine rQ 6 ?_;refine rQ 7 ?_;refine wpAnyH_done bC ?_ _
     (go_wp2_with fail;exact bodyPost_ret (v:=.tuple #[pF U (n+1) X,I_ 0]) (by simp [results,results204,go_sem]) rfl ⟨_,by rw [HC.o],by(rw [HC.o];exact⟨U,X,by rw [G.o],O,fun g o e=>A8 (A8 HZ.o.size HK2.o.size) (A8 bB (M g o e))⟩),(HZ.o.trans HK2.o).trans hKI⟩)
    refine AllReadyH.cons rfl (fun K hK=>?_) ?_
    ·go_simp
     refine rO hK fX fun hHeld=>?_;clear hK K;refine rC 1 fun K hK=>?_;go_simp
     (refine(KB a c L n HN.o bB _ (HH.o.keeps (HK2.o.trans hHeld.1))).mono ?_;rintro r9 wb ⟨ac,cc,rfl,al,F,hck⟩)
     refine rO hK fX fun hHeld=>?_;clear hK K;refine rC 5 fun K hK=>?_;go_simp
     (refine(UO L r n i cc (w2+1) w2 ac HN.o hi bB wb (by(have:=hck.size;simp at this ⊢;omega)) (by simpa using F) ((Blk.new w2 59 (L_ r)).drew.keeps hck bA) (fun g hg=>by(have:=(F.lt g hg).1;simp at this;omega))).mono ?_;rintro r8 wi ⟨U,X,rfl,O,N,M⟩;have hKI:Aa [] w2 wi:=(((((Aa.refl [] w2).alloc _).drew).trans hck).own N (fun y hy=>by(have:=F.lt y bU;simp at this ⊢;omega))))
     refine rO hK fX fun hHeld=>?_;clear hK K;refine rQ 6 ?_;refine rQ 7 ?_;refine wpAnyH_done bC ?_ _
     (go_wp2_with fail;exact bodyPost_ret (v:=.tuple #[pF U (n+1) X,I_ 0]) (by simp [results,results204,go_sem]) rfl ⟨_,by rw [HC.o],by(rw [HC.o];exact⟨U,X,by rw [G.o],O,fun g o e=>A8 (A8 HZ.o.size HK2.o.size) (A8 bB (M g o e))⟩),(HZ.o.trans HK2.o).trans hKI⟩)
    exact AllReadyH.nil
theorem DG.down{B B':Nat}{w:World}{x:Value}{l:List El}(h:DG B w x l)(hb:B'<=B):DG B' w x l:=by
 obtain⟨a,c,h1,h2,h3⟩:=h;exact⟨a,c,h1,h2,fun g o e=>A8 hb (h3 g o e)⟩
theorem F4.down{B B':Nat}{w:World}{x:Value}{l:List EX}(h:F4 B w x l)(hb:B'<=B):F4 B' w x l:=by
 obtain⟨a,c,h1,h2,h3⟩:=h;exact⟨a,c,h1,h2,fun g o e=>A8 hb (h3 g o e)⟩
theorem MM{cb:Nat}{u:TV}{seq:Int}{c:FW}{now:Int}{res:Ten×Int}{w w':World}{er:Int}(h:res.2=er)(h0:er≠0)(hk:Aa [cb] w w'):Gt cb u seq c now res w (pJ (.iface 200 (pH #[pE pK er]))) w':=⟨by rw [h,FY,if_neg h0],fun e=>absurd (h▸e) h0,hk⟩
theorem XX{cb:Nat}{B:TV}{seq:Int}{c:FW}{now:Int}{res:Ten×Int}{w w':World}{t:Ten}{u:TV}(h:res=(t,0))(hb:Blk w' cb 143 (K7 u seq c now))(D:Cj w' u t)(hk:Aa [cb] w w')(hg:EY w B u):Gt cb B seq c now res w (pJ .nilIface) w':=by
 subst h;exact⟨rfl,fun _=>⟨u,hb,D,hg⟩,hk⟩
theorem VT(cb:Nat)(u:TV)(t:Ten)(seq:Int)(c:FW)(now:Int)(N:0<=now/\now<=1000000000000)(w:World)(h:Blk w cb 143 (K7 u seq c now))(E:Cj w u t)(hf:FX cb u):Calls prog 170 #[pG (some (A_ cb 0))] w (Gt cb u seq c now (if t.state=1 then if c.n<1\/1000000000<c.n\/1000000000000<now+c.n then(t,2) else({ t with state:=3,deadline:=now+c.n },0) else(t,156)) w):=by
 have M:=h.cell 3;simp only [K7,An,Aj,Ao] at M;have HB:=lH h;have T:=lH E;have O:=lH hf;have hst:=E.state;by_cases hs:u.state=1;rotate_left
 ·rw [if_neg jY]
  have f1:(u.state==1)=false:=by simpa using hs
  clear h E hf hst hs;go_enter func170,ntmps170;go_wp2_with fail;refine(QF cb 3 w).mono ?_;rintro e w1 ⟨rfl,rfl⟩;go_wp2;go_ret;exact⟨rfl,(fun e=>by cases e),Aa.refl _ _⟩
 ·rw [if_pos jY]
  obtain⟨res,D⟩:∃res,(if c.n<1\/1000000000<c.n\/1000000000000<now+c.n then(t,(2:Int)) else({ t with state:=3,deadline:=now+c.n },0))=res:=⟨_,rfl⟩;rw [D];have B:=lH D;clear D;have f1:(u.state==1)=true:=by simpa using hs
  clear h E hf hst hs;go_enter func170,ntmps170;go_wp2_with fail;refine(Ob cb u seq c now 3 w HB.o).mono ?_;rintro e w1 ⟨rfl,hb,hk⟩;have U:=hb.cell 7;have G:=hb.cell 19;have J:=hb.cell 21;have X:=hb.frozen 7;simp only [K7,An,Aj,Ao] at U G J;have HB1:=lH hb;have HK:=lH hk;clear hb hk M;by_cases h1:c.n<1
  ·go_wp2
   go_ret;exact MM (by rw [<- B.o,if_pos (.inl h1)]) bE HK.o
  ·by_cases h2:1000000000<c.n
   ·go_wp2
    go_ret;exact MM (by rw [<- B.o,if_pos (.inr (.inl h2))]) bE HK.o
   ·have hw:IntKind.i64.wrap (now+c.n)=now+c.n:=IntWalk.i64_in _ bB
    by_cases h3:1000000000000<now+c.n
    ·go_wp2
     go_ret;exact MM (by rw [<- B.o,if_pos (.inr (.inr h3))]) bE HK.o
    ·have F:Hi (res=({ t with state:=3,deadline:=now+c.n },0)):=lH (by rw [<- B.o,if_neg bB])
     go_wp2;go_ret;exact XX (u:={ u with state:=3,deadline:=now+c.n }) F.o (HB1.o.set_ 7 (I_ (now+c.n))) { T.o.far (HK.o.trans (Ae w1 cb 7 (I_ (now+c.n)))) O.o with state:=rfl,deadline:=rfl } (HK.o.trans (Ae w1 cb 7 _)) ⟨.inl ⟨rfl,rfl⟩,.inl ⟨rfl,rfl⟩⟩
theorem Ri(cb:Nat)(u:TV)(t:Ten)(seq:Int)(c:FW)(now:Int)(w:World)(hg:Et w)(h:Blk w cb 143 (K7 u seq c now))(J:Cj w u t)(hc:t.creds.length<=1000)(hf:FX cb u):Calls prog 171 #[pG (some (A_ cb 0))] w (Gt cb u seq c now (if(Bk t.creds c.key now c.n c.m).2.2=0 then({ t with creds:=(Bk t.creds c.key now c.n c.m).1 },0) else(t,(Bk t.creds c.key now c.n c.m).2.2)) w):=by
 have HS:Hi (∀W,Aa [] w W->Aa [] w W/\W.cell? (A_ cb 6)=some (pF u.ca u.cl u.cc)/\W.cell? (A_ cb 18)=some (Dz c.key)/\W.cell? (A_ cb 19)=some (I_ c.n)/\W.cell? (A_ cb 20)=some (I_ c.m)/\W.cell? (A_ cb 21)=some (I_ now)):=lH fun W hk=>⟨hk,(h.keeps hk bA).cell 6,(h.keeps hk bA).cell 18,(h.keeps hk bA).cell 19,(h.keeps hk bA).cell 20,(h.keeps hk bA).cell 21⟩;have G:0<w.heap.size:=Be w _ hg;have HR:=lH (fun W (hk:Aa [] w W)=>ME u.ca u.cc t.creds u.cl J.cl (by have:=J.cl;omega) c.key now c.n c.m W (hg.keeps hk bA) (BS G hk.size) (J.cs.keeps hk));have HB:=lH h;have X:=lH J;have U:=lH hf;obtain⟨⟨l,id,er⟩,hr⟩:∃r,Bk t.creds c.key now c.n c.m=r:=⟨_,rfl⟩;rw [hr] at HR ⊢;dsimp only at HR ⊢;obtain⟨res,B⟩:∃res,(if er=0 then(({ t with creds:=l } : Ten),(0:Int)) else(t,er))=res:=⟨_,rfl⟩;rw [B];have D:=lH B;have M:cb<w.heap.size:=h.lt;have HFIN:Hi (∀(x:Value) (W:World),Aa [] w W->DG w W x l->Gt cb u seq c now res w (pJ (FY er)) (W.setCell (A_ cb 6) x)):=lH fun x W hk hx=>by
  have hk2:Aa [cb] w (W.setCell (A_ cb 6) x):=(hk.mono bA).trans (Ae W cb 6 x);by_cases he:er=0
  ·obtain⟨a,Y,rfl,hs,F⟩:=hx
   rw [he];refine XX (t:={ t with creds:=l }) (u:={ u with ca:=a,cl:=l.length,cc:=Y }) (by rw [<- D.o,if_pos he]) ((HB.o.keeps hk bA).set_ 6 _) { X.o.far hk2 U.o with cl:=rfl,cs:=?_ } hk2 ⟨.inl ⟨rfl,rfl⟩,.inr F⟩;exact AR.keepsS hs (Ae W cb 6 _) (fun g o e hm=>by have:=F g o e;simp only [Ac,Ab,or_false] at hm;omega)
  ·rw [FY,if_neg he]
   exact MM (by rw [<- D.o,if_neg he]) he hk2
 clear h J hf hg G hc hr B M;go_enter func171,ntmps171;go_wp2_with fail;refine wp_region_held_drew (S:=(fun W:World=>Aa [] w W/\W.cell? (A_ cb 6)=some (pF u.ca u.cl u.cc)/\W.cell? (A_ cb 18)=some (Dz c.key)/\W.cell? (A_ cb 19)=some (I_ c.n)/\W.cell? (A_ cb 20)=some (I_ c.m)/\W.cell? (A_ cb 21)=some (I_ now))) bC (by((try dsimp only);(first | exact HS.o _ (hHeld.1.trans E) | exact HS.o _ ((Aa.refl [] w).drew)))) (fun hHeld=>?_);refine rQ 0 ?_;refine rQ 1 ?_;refine rQ 2 ?_;refine rQ 3 ?_;refine rQ 4 ?_;refine rQ 5 ?_;refine rQ 6 ?_;refine rQ 7 ?_;refine rQ 8 ?_;refine rQ 9 ?_;refine rQ 10 ?_;refine rQ 11 ?_;refine rQ 12 ?_;refine rQ 13 ?_;refine rQ 14 ?_;refine rQ 15 ?_;refine rQ 16 ?_;refine rQ 17 ?_;refine rQ 18 ?_;refine rQ 19 ?_;refine rQ 20 ?_;refine rQ 21 ?_;refine rQ 22 ?_;refine rQ 23 ?_;refine rQ 24 ?_;refine rC 25 fun K hK=>?_;go_simp
 (refine(HR.o _ hHeld.1).mono ?_;rintro e wr ⟨x,rfl,hx,E⟩;have N:Aa [] w wr:=hHeld.1.trans E;obtain⟨xa,xc,rfl,T,O⟩:=DG.down hx hHeld.1.size)
 refine rO hK (by((try dsimp only);(first | exact HS.o _ (hHeld.1.trans E) | exact HS.o _ ((Aa.refl [] w).drew)))) fun hHeld=>?_;clear hK K;refine rQ 26 ?_;refine rQ 27 ?_;refine rQ 28 ?_;refine rQ 29 ?_;refine rQ 30 ?_;refine rQ 31 ?_;refine rQ 32 ?_;refine wpAnyH_done bC ?_ _
 (have f6:=(HB.o.keeps hHeld.1 bA).frozen 6;go_wp2_with fail;refine(Kk er _).mono ?_;rintro e wu ⟨rfl,rfl⟩;go_wp2_with fail;exact bodyPost_ret (v:=FY er) (by simp [results,results171,go_sem]) rfl (HFIN.o _ _ N ⟨xa,xc,rfl,T,O⟩))
def Vv(t:Ten)(c:FW):Ten×Int:=if 0<=c.at_ then if(BU t.rules c.at_ c.rule).2=0 then({ t with rules:=(BU t.rules c.at_ c.rule).1 },0) else(t,(BU t.rules c.at_ c.rule).2)
  else if(Cl t.rules (-(c.at_+1))).2=0 then({ t with rules:=(Cl t.rules (-(c.at_+1))).1 },0) else(t,(Cl t.rules (-(c.at_+1))).2)
theorem U6{cb:Nat}{u:TV}{t:Ten}{seq:Int}{c:FW}{now:Int}{w:World}{res:Ten×Int}{l:List EX}{er:Int}(hB:Blk w cb 143 (K7 u seq c now))(hT:Cj w u t)(hF:FX cb u)(hres:(if er=0 then(({ t with rules:=l } : Ten),(0:Int)) else(t,er))=res):
  ∀(x:Value) (W:World),Aa [] w W->F4 w W x l->Gt cb u seq c now res w (pJ (FY er)) (W.setCell (A_ cb 5) x):=fun x W hk hx=>by
 have hcl:cb<w.heap.size:=hB.lt;have hk2:Aa [cb] w (W.setCell (A_ cb 5) x):=(hk.mono bA).trans (Ae W cb 5 x);by_cases he:er=0
 ·obtain⟨a,c2,rfl,hs,hge⟩:=hx
  rw [he];refine XX (t:={ t with rules:=l }) (u:={ u with ra:=a,rl:=l.length,rc:=c2 }) (by rw [<- hres,if_pos he]) ((hB.keeps hk bA).set_ 5 _) { hT.far hk2 hF with rl:=rfl,rs:=?_ } hk2 ⟨.inr hge,.inl ⟨rfl,rfl⟩⟩;exact AR.keepsS hs (Ae W cb 5 _) (fun g o e hm=>by have:=hge g o e;simp only [Ac,Ab,or_false] at hm;omega)
 ·rw [FY,if_neg he]
  exact MM (by rw [<- hres,if_neg he]) he hk2
theorem XW(cb:Nat)(u:TV)(t:Ten)(seq:Int)(c:FW)(now:Int)(hat : -9223372036854775808<=c.at_/\c.at_<=9223372036854775807)(w:World)(E:Nat->Addr)(hE:Fp w E)(h:Blk w cb 143 (K7 u seq c now))(F:Cj w u t)(hc:t.rules.length<=999)(hf:FX cb u):Calls prog 172 #[pG (some (A_ cb 0))] w (Gt cb u seq c now (Vv t c) w):=by
 have T:=h.cell 12;have c5:=h.cell 5;have U:=h.cell 13;have X:=h.cell 14;have Y:=h.cell 15;have aa:=h.cell 16;have ab:=h.cell 17;simp only [K7,An,Aj,Ao] at T c5 U X Y aa ab;have HB:=lH h;by_cases hp:0<=c.at_
 ·obtain⟨⟨l,er⟩,hr⟩:∃r,BU t.rules c.at_ c.rule=r:=⟨_,rfl⟩
  have HI:=lH (fun W (hk:Aa [] w W)=>SR u.ra u.rc t.rules u.rl F.rl (by have:=F.rl;omega) c.at_ c.rule W E (hE.keep hk) (F.rs.keeps hk));rw [hr] at HI;dsimp only at HI;obtain⟨res,B⟩:=eX (Vv t c);have HFIN:=lH (U6 (res:=res) (l:=l) (er:=er) h F hf (by rw [<- B];unfold Vv;rw [if_pos hp,hr]));rw [B];clear h F hf hE hc hr B;go_enter func172,ntmps172;go_wp2_with fail;refine wp_region_held_drew (S:=(fun _:World=>True)) bC trivial (fun hHeld=>?_)
  repeat' (first | exact rZ | refine rX ?_ | ((first | (refine rA 6 (fun K hK=>?_) ?_;go_simp) | (refine rA 12 (fun K hK=>?_) ?_;go_simp) | (refine rA 13 (fun K hK=>?_) ?_;go_simp;(refine(HI.o _ ((Aa.refl [] w).drew)).mono ?_;rintro e wr ⟨x,rfl,hx,ad⟩;obtain⟨M,N,rfl,J,G⟩:=hx;have D:Aa [] w wr:=((Aa.refl [] w).drew).trans ad;have e5:=D.cellsV _ _ c5;have f5:=(HB.o.keeps D bA).frozen 5)) | (refine rA 21 (fun K hK=>?_) ?_;go_simp));refine rO hK trivial fun hHeld=>?_;clear hK K) | (refine rQ 0 ?_;refine rQ 1 ?_;refine rQ 2 ?_;refine rQ 3 ?_;refine rQ 4 ?_;refine rQ 5 ?_;refine rQ 7 ?_;refine rQ 8 ?_;refine rQ 9 ?_;refine rQ 10 ?_;refine rQ 11 ?_) | (refine rQ 14 ?_;refine rQ 15 ?_;refine rQ 16 ?_;refine rQ 17 ?_;refine rQ 18 ?_;refine rQ 19 ?_;refine rQ 20 ?_) | (refine rQ 22 ?_) | refine rB [6,12,13,21] ?_ | (refine wpAnyH_done bC ?_ _;(go_wp2_with fail;refine(Kk er _).mono ?_;rintro e wu ⟨rfl,rfl⟩;go_wp2_with fail;exact bodyPost_ret (v:=FY er) (by simp [results,results172,go_sem]) rfl (HFIN.o _ _ D ⟨M,N,rfl,J,G⟩))))
 ·obtain⟨⟨l,er⟩,hr⟩:∃r,Cl t.rules (-(c.at_+1))=r:=⟨_,rfl⟩
  have HI:=lH (fun W (hk:Aa [] w W)=>SS u.ra u.rc t.rules u.rl F.rl (by have:=F.rl;omega) (-(c.at_+1)) W E (hE.keep hk) (F.rs.keeps hk));rw [hr] at HI;dsimp only at HI;obtain⟨res,B⟩:=eX (Vv t c);have HFIN:=lH (U6 (res:=res) (l:=l) (er:=er) h F hf (by rw [<- B];unfold Vv;rw [if_neg hp,hr]));rw [B];have w1:IntKind.i64.wrap (c.at_+1)=c.at_+1:=IntWalk.i64_in _ bB;have w2:IntKind.i64.wrap (-(c.at_+1)) = -(c.at_+1):=IntWalk.i64_in _ bB;have ai:decide (c.at_≥0)=false:=decide_eq_false bB;clear h F hf hE hc hr B;go_enter func172,ntmps172;go_wp2_with fail;refine(HI.o _ (Aa.refl [] w)).mono ?_;rintro e wr ⟨x,rfl,hx,D⟩;obtain⟨M,N,rfl,J,G⟩:=hx;have e5:=D.cellsV _ _ c5;have f5:=(HB.o.keeps D bA).frozen 5;have O:=lH D;have HX:Hi (F4 w wr (pF M l.length N) l):=lH ⟨M,N,rfl,J,G⟩;clear D J G;go_wp2_with fail;refine(Kk er _).mono ?_;rintro e wu ⟨rfl,rfl⟩;go_wp2_with fail;exact bodyPost_ret (v:=FY er) (by simp [results,results172,go_sem]) rfl (HFIN.o _ _ O.o HX.o)
theorem Y3(n:Nat)(h0:0<n)(hn:n<=10000)(w:World):Calls prog 136 #[pF none 0 0,I_ (n:Int)] w fun e w'=>∃g G,e = pJ (pF (some (A_ g 0)) 0 G)/\w'.ownsRow w 112 8 (pF (some (A_ g 0)) 0 G) 0 []/\Aa [] w w':=by
 obtain⟨i0,zz,U,X,Y,M,T⟩:=Ck DB.hi;have hb:n*i0.bytes<=281474976710656:=A8 (Nat.mul_le_mul hn T) bE;have F:=Lib.run_append_nil_zeros (P:=prog) w 27 3 27 112 i0 zz .i64 .i64 DB.ht underlying3 U X n h0 bB bB hb;obtain⟨G,hG⟩:=eX (grownCap w n 0 112);have N:n<=G:=by rw [<- hG];exact grownCap_ge _ _ _ _
 have J:G<=maxLen:=by rw [<- hG];exact grownCap_le_maxLen _ _ _ _ bZ
 rw [hG] at F;obtain⟨D,B⟩:=eX (AN zz.cells n++AN zz.cells (G - n));rw [B] at F;have O:D.size=G*8:=by
  rw [<- B];simp [AN,M];omega
 obtain⟨W1,E⟩:=eX (w.drew.alloc (.cells D 112));rw [E] at F;have HROW:Hi (W1.ownsRow w 112 8 (pF (some (A_ w 0)) 0 G) 0 []):=lH (by
  rw [<- E];exact⟨by simp,.inr ⟨w,G,D,rfl,Aw _,Blk.new w.drew 112 D,Ba _,J,O,by simp⟩⟩)
 have HK:Hi (Aa [] w W1):=lH (by rw [<- E];exact((Aa.refl [] w).drew).alloc _);have ad:∀W,(AV 27 (pF none 0 0) none (some (I_ 0)) none).run prog W = .ok (pF none 0 0) W:=fun W=>by kernel_rfl
 have hs1:∀W,(AV 27 (pF (some (A_ w 0)) n G) none (some (I_ 0)) none).run prog W = .ok (pF (some (A_ w 0)) 0 G) W:=fun W=>DB.s_h W w 0 n G 0 (Ba _);have i1:¬(n:Int)<0:=bB;have i2:(0:Int)<(n:Int):=bB;have hw:IntKind.i64.wrap (n:Int)=(n:Int):=IntWalk.i64_in _ bB;have ae:wrap64 (n:Int)=(n:Int):=IntWalk.wrap64_in _ ⟨by omega,by omega⟩;clear U X Y M T hb hG N J B O E h0 hn;go_enter func136,ntmps136;go_wp2_with (at_builtin;refine Lib.wpList_append_run _ rfl _ _ _ _ rfl _ _ rfl rfl _ _ F ?_);go_ret;exact⟨_,_,rfl,HROW.o,HK.o⟩
theorem JW(sb:Nat)(ty:TypeId)(a1 a2 a3:Option Addr)(c1 c2 c3 B D U:Nat)(V1 V2 V3:List TV)(h1:V1.length=B)(h2:V2.length=D)(h3:V3.length=U)(h0:0<B+D+U)(hn:B+D+U<=10000)(w:World)
 (hs:Blk w sb ty #[pF a1 B c1,pF a2 D c2,pF a3 U c3])(af:AR BE 8 w a1 c1 V1)(hv2:AR BE 8 w a2 c2 V2)(ag:AR BE 8 w a3 c3 V3):
  Calls prog 97 #[pF (some (A_ sb 0)) 3 3] w fun e w'=>∃a c,e = pJ (pF a (B+D+U) c)/\AR BE 8 w' a c (V1++V2++V3)/\Aa [] w w'/\∀g o,a=some (A_ g o)->w.heap.size<=g:=by
 obtain⟨N,hN⟩:=eX (B+D+U);have HG:=lH (Y3 N bB bB w);have k1:IntKind.i64.wrap (B:Int)=(B:Int):=IntWalk.i64_in _ bB;have be:wrap64 (B:Int)=(B:Int):=IntWalk.wrap64_in _ ⟨by omega,by omega⟩;have k2:IntKind.i64.wrap ((B:Int)+(D:Int))=(B:Int)+(D:Int):=IntWalk.i64_in _ bB;have k3:IntKind.i64.wrap ((B:Int)+(D:Int)+(U:Int))=(N:Int):=by rw [show(B:Int)+(D:Int)+(U:Int)=(N:Int) by omega];exact IntWalk.i64_in _ bB
 have j1:¬(B:Int)<0:=bB;have j2:¬(B:Int)+(D:Int)<0:=bB;have j3:¬(N:Int)<0:=bB;have HSB:=lH hs;have H1:=lH af;have H2:=lH hv2;have H3:=lH ag;have L1:=lH h1;have L2:=lH h2;have L3:=lH h3;have E:=lH hN;have HLE:=lH hn;have s0:=hs.ce 0;have s1:=hs.ce 1;have s2:=hs.ce 2;clear hs af hv2 ag h1 h2 h3 hN hn h0;go_enter func97,ntmps97;go_wp2;refine wp_loop_rounds 4 ?_;rw [rounds_succ];go_wp2_with fail;rw [rounds_succ];go_wp2_with fail;rw [rounds_succ];go_wp2_with fail;rw [rounds_succ];go_wp2_with fail;refine HG.o.mono ?_;rintro e w1 ⟨g,G,rfl,hrow,hk⟩;obtain⟨i0,zz,F,J,M,O,T⟩:=Ck DB.hi;obtain⟨x1,u1,r1,o1,g1⟩:=AR.app (c:=c1) prog (ys:=([]:List TV)) DB.ht F J M rfl O bE CF FB hrow hk.size (H1.o.keeps hk) (by have:=E.o;have:=HLE.o;rw [L1.out];simp;omega) T 27;have q1:Aa [] w u1:=hk.own ((Aa.refl (EZ (pF (some (A_ g 0)) 0 G)).toList w1).grown g1 (fun k hk=>.inl iX)) (fun y hy=>AZ hrow y hy);rw [BH] at o1;obtain⟨x2,u2,r2,o2,g2⟩:=AR.app (c:=c2) prog DB.ht F J M rfl O bE CF FB o1 q1.size (H2.o.keeps q1) (by have:=E.o;have:=HLE.o;rw [L1.out,L2.out];omega) T 27;have q2:Aa [] w u2:=q1.own ((Aa.refl x1.ownBlock.toList u1).grown g2 (fun k hk=>.inl iX)) (fun y hy=>AZ o1 y hy);obtain⟨x3,u3,r3,o3,g3⟩:=AR.app (c:=c3) prog DB.ht F J M rfl O bE CF FB o2 q2.size (H3.o.keeps q2) (by have:=E.o;have:=HLE.o;rw [Al,L1.out,L2.out,L3.out];omega) T 27;have q3:Aa [] w u3:=q2.own ((Aa.refl x2.ownBlock.toList u2).grown g3 (fun k hk=>.inl iX)) (fun y hy=>AZ o2 y hy);obtain⟨a',c',rfl,ae,X⟩:=AR.of_row CF o3;have Y:(V1++V2++V3).length=N:=by rw [Al,Al,L1.out,L2.out,L3.out];exact E.o
 rw [Y] at r3;rw [L1.out] at r1;rw [L2.out] at r2;rw [L3.out] at r3;have t0:=hk.cellsV _ _ s0;have t1:=q1.cellsV _ _ s1;have t2:=q2.cellsV _ _ s2;have HFIN:Hi (∃a c,pJ (.slice a' N c') = pJ (pF a (B+D+U) c)/\AR BE 8 u3 a c (V1++V2++V3)/\Aa [] w u3/\∀g o,a=some (A_ g o)->w.heap.size<=g):=lH ⟨a',c',by rw [E.o],ae,q3,X⟩;clear hrow hk F J M O T o1 g1 q1 o2 g2 q2 o3 g3 q3 ae X Y s0 s1 s2;go_wp2_with fail;refine wp_loop_rounds 4 ?_;rw [rounds_succ];go_wp2_with (at_builtin;refine Au _ rfl _ _ 27 rfl rfl rfl r1 ?_);rw [rounds_succ];go_wp2_with (at_builtin;refine Au _ rfl _ _ 27 rfl rfl rfl r2 ?_);rw [rounds_succ];go_wp2_with (at_builtin;refine Au _ rfl _ _ 27 rfl rfl rfl r3 ?_);rw [rounds_succ];go_wp2_with fail;go_ret;exact HFIN.o
def DC(l:List TV)(u:TV):List TV:=l.take (l.takeWhile fun x=>decide (x.slot<u.slot)).length++[u]++(match l.drop (l.takeWhile fun x=>decide (x.slot<u.slot)).length with
 | x::m=>if x.slot=u.slot then m else x::m
 | []=>[])
theorem kU{V:List TV}{s:Int}{k:Nat}(hk:k<=V.length)(h:∀j<k,∀x,V[j]? = some x->x.slot<s)(he:∀x,V[k]? = some x->¬x.slot<s):(V.takeWhile fun x=>decide (x.slot<s)).length=k:=by
 induction V generalizing k with
 | nil=>
  have hk:k<=0:=hk;simp;omega
 | cons y V ih=>
  cases k with
  | zero=>
   have:=he y rfl;simp [this]
  | succ k=>
   have h1:=h 0 bB y rfl;rw [List.takeWhile_cons,if_pos bR,Av,ih (by simpa using hk) (fun j hj x hx=>h (j+1) bB x iY) (fun x hx=>he x iY)]
theorem Vh{w:World}(s:Int):∀ {V:List TV} {L:List Ten},AX w V L->(V.takeWhile fun x=>decide (x.slot<s)).length=(L.takeWhile fun x=>decide (x.slot<s)).length
 | [],[],_=>rfl
 | v::V,t::L,h=>by
  rw [List.takeWhile_cons,List.takeWhile_cons,h.1.slot];split
  ·rw [Av,Av,Vh s h.2]
  ·rfl
 | [],_::_,h=>h.elim
 | _::_,[],h=>h.elim
theorem Zt{w:World}{V:List TV}{L:List Ten}{u:TV}{t:Ten}(h:AX w V L)(hu:Cj w u t):AX w (DC V u) (GI L t):=by
 unfold DC GI;dsimp only;rw [<- hu.slot,Vh u.slot h,CC];refine AX.app (AX.take _ h) ?_;have D:=AX.drop (L.takeWhile fun x=>decide (x.slot<u.slot)).length h;refine⟨hu,?_⟩;generalize V.drop (L.takeWhile fun x=>decide (x.slot<u.slot)).length=A at D;generalize L.drop (L.takeWhile fun x=>decide (x.slot<u.slot)).length=B at D;cases A with
 | nil=>
  cases B with
  | nil=>trivial
  | cons b B=>exact D.elim
 | cons a A=>
  cases B with
  | nil=>exact D.elim
  | cons b B=>
   dsimp only;rw [D.1.slot];split
   ·exact D.2
   ·exact D
theorem AR.drop_run{α:Type}{enc:α->List Value}{n:Nat}{t e:TypeId}{z:Value}(hE:Lu prog t e n z)(B:∀W,(AV t (pF none 0 0) (some (I_ 0)) none none).run prog W = .ok (pF none 0 0) W){w:World}{a:Option Addr}{c:Nat}{xs:List α}(h:AR enc n w a c xs)(k:Nat)(hk:k<=xs.length):
  ∃ra rc,(∀W,(AV t (pF a xs.length c) (some (I_ (k:Int))) none none).run prog W = .ok (pF ra (xs.length - k) rc) W)/\AR enc n w ra rc (xs.drop k):=by
 cases a with
 | none=>
  obtain⟨rfl,rfl⟩:=h.isNil;obtain rfl:k=0:=by simpa using hk
  exact⟨none,0,B,AR.none_⟩
 | some p=>
  rcases Nat.eq_zero_or_pos xs.length with h0 | h0
  ·obtain rfl:=Ds h0
   obtain rfl:k=0:=by simpa using hk
   have D:=fun W=>run_slice_l (P:=prog) W t (some p) 0 c hE.ht' .i64 0 bB bB;simp only [hE.el,hE.sz] at D;refine⟨_,c - 0,fun W=>(D W).trans rfl,⟨by simp,?_,fun h=>by simp at h⟩⟩;intro e;split at e<;>cases e
  ·obtain⟨g,off,e,hg,hat⟩:=h.at_ h0
   injection e with e
   subst e;refine⟨_,c - k,fun W=>hE.s_l W g off xs.length c k hk h.le,⟨by have:=h.le;simp;omega,(fun e=>by cases e),fun hp=>?_⟩⟩;have E:k<xs.length:=by simp at hp;omega
   have hck:c≠k:=by have:=h.le;omega
   refine⟨g,off+k*n,by rw [if_neg hck],hg,fun i hi j u hj=>?_⟩;rw [List.getElem_drop] at hj;have:=hat (k+i) (by simp at hi;omega) j u hj
   rwa [show off+(k+i)*n+j=off+k*n+i*n+j by rw [qL];omega] at this
theorem AR.take_run{α:Type}{enc:α->List Value}{n:Nat}{t e:TypeId}{z:Value}(hE:Lu prog t e n z){w:World}{a:Option Addr}{c:Nat}{xs:List α}(h:AR enc n w a c xs)(k:Nat)(hk:k<=xs.length):
  ∃ta tc,(∀W,(AV t (pF a xs.length c) none (some (I_ (k:Int))) (some (I_ (k:Int)))).run prog W = .ok (pF ta k tc) W)/\AR enc n w ta tc (xs.take k):=by
 have B:=fun W=>run_slice_hm (P:=prog) W t a xs.length c hE.ht' .i64 .i64 k k bB bB (by have:=h.le;omega);simp only [hE.el,hE.sz,Result.andThen_ok,pW] at B;cases a with
 | none=>
  obtain⟨rfl,rfl⟩:=h.isNil;obtain rfl:k=0:=by simpa using hk
  exact⟨none,0,fun W=>(B W).trans rfl,AR.none_⟩
 | some q=>
  rcases Nat.eq_zero_or_pos xs.length with h0 | h0
  ·obtain rfl:=Ds h0
   obtain rfl:k=0:=by simpa using hk
   exact⟨some q,0,fun W=>(B W).trans (by simp [sliced]),⟨by simp,(fun e=>by cases e),fun h=>by simp at h⟩⟩
  ·obtain⟨g,off,e,hg,hat⟩:=h.at_ h0
   injection e with e
   subst e;refine⟨some (A_ g off),k,fun W=>(B W).trans (by simp [sliced,BR]),⟨by simp;omega,(fun e=>by cases e),fun hp=>⟨g,off,rfl,hg,fun i hi j u hj=>?_⟩⟩⟩;rw [List.getElem_take] at hj;exact hat i (by simp at hi;omega) j u hj
theorem LK(w w9:World)(b0 b2:Nat)(x y0 y1 y2 y3 y4:Value):Aa [b0,b2] w9 ((((((w9.setCell (A_ b0 3) x).setCell (A_ b2 0) y0).setCell (A_ b2 1) y1).setCell (A_ b2 2) y2).setCell (A_ b2 3) y3).setCell (A_ b2 4) y4):=
 ((Ae w9 b0 3 x).mono bA).trans ((((((Ae _ b2 0 y0).trans (Ae _ b2 1 y1)).trans (Ae _ b2 2 y2)).trans (Ae _ b2 3 y3)).trans (Ae _ b2 4 y4)).mono bA)
theorem Q7{w wz w9 F:World}{v:B6}{u:TV}{gn un fn m T:Nat}{seq:Int}{E:Option Addr}{M:List TV}(N:DC v.lv u=M)(J:(DC v.lv u).length=m)(O:AR BE 8 w9 E T M)(G:Aa [] wz w9)(hz:Aa [] w wz){B:Nat}(D:∀g o,E=some (A_ g o)->B<=g)(U:w.heap.size+1+1<B)(hk:Aa [w.heap.size,w.heap.size+1+1] w9 F):
  ∃a c,pJ (pH #[pF v.s.ga gn v.s.gc,pF v.s.ua un v.s.uc,pF v.s.fa fn v.s.fc,pF E (m) T,I_ seq]) = pJ (pH #[pF v.s.ga gn v.s.gc,pF v.s.ua un v.s.uc,pF v.s.fa fn v.s.fc,pF a (DC v.lv u).length c,I_ seq])/\AR BE 8 F a c (DC v.lv u)/\Dj w a/\Aa [] w F:=by
 rw [J,N];refine⟨E,T,rfl,AR.keepsS O hk (fun g o e hm=>?_),fun g o e=>by have:=D g o e;omega,(hz.trans G).own hk (fun y hy=>?_)⟩
 ·have:=D g o e
  simp only [Ac,Ab,or_false] at hm;omega
 ·simp only [Ac,Ab,or_false] at hy
  omega
theorem Q6(v:B6)(gn un fn ln:Nat)(hln:v.lv.length=ln)(bm:ln<=1000)(seq:Int)(u:TV)(w:World)(hl:AR BE 8 w v.la v.lc v.lv):
  Calls prog 52 #[pH (R_ v gn un fn ln seq),pH (T_ u)] w fun e w'=>∃a c,e = pJ (pH #[pF v.s.ga gn v.s.gc,pF v.s.ua un v.s.uc,pF v.s.fa fn v.s.fc,pF a (DC v.lv u).length c,I_ seq])/\AR BE 8 w' a c (DC v.lv u)/\Dj w a/\Aa [] w w':=by
 obtain⟨wz,hwz⟩:=eX (((w.alloc (.cells (R_ v gn un fn ln seq) 29)).alloc (.cells (T_ u) 112)).alloc (.cells LU.k 29));have hz:Aa [] w wz:=by rw [<- hwz];exact(((Aa.refl [] w).alloc _).alloc _).alloc _
 have HB0:Hi (Blk wz w 29 (R_ v gn un fn ln seq)):=lH (by rw [<- hwz];exact((Blk.new w _ _).alloc _).alloc _);have HB1:Hi (Blk wz (w+1) 112 (T_ u)):=lH jU;have HB2:Hi (Blk wz (w+1+1) 29 LU.k):=lH aF;have HL:=lH (hl.keeps hz);have HZ:=lH hz;have HLN:=lH hln;clear hl hz hln;go_enter func52,ntmps52;go_wp2;clear hwz;go_loopw [5] (fun i wr=>∃k:Nat,i = I_ k/\k<=ln/\Hi (∀j<k,∀x,v.lv[j]? = some x->x.slot<u.slot)/\Hi (Aa [] wz wr)) (fun i _=>ln - (intOf i).toNat)
 case atStart=>exact⟨0,rfl,Ba _,lH (fun j hj=>by omega),lH (Aa.refl _ _)⟩
 case round=>
  obtain⟨k,rfl,hk,HP,HK⟩:=hrel;have d3:=(HB0.o.keeps HK.o bA).ce 3;have e0:=(HB1.o.keeps HK.o bA).ce 0;have bq:(∃x,v.lv[k]? = some x/\x.slot<u.slot)\/(∀x,v.lv[k]? = some x->¬x.slot<u.slot):=by
   cases hx:v.lv[k]? with
   | none=>exact .inr (fun x hx=>by cases hx)
   | some y=>
    by_cases hy:y.slot<u.slot
    ·exact .inl ⟨y,rfl,hy⟩
    ·exact .inr (fun x hx=>by injection hx with hx;rw [<- hx];exact hy)
  rcases bq with⟨x,hx,hlt⟩ | hno
  ·have ad:k<ln:=by rw [<- HLN.o];exact(Ad.1 hx).1
   obtain⟨g,off,x',ha,hg,af,hat⟩:=(HL.o.keeps HK.o).at_k (k:=k) (by rw [HLN.o];exact ad);rw [hx] at af;injection af with af
   subst af;have q0:=hat 0 _ rfl;rw [AT] at q0;rw [ha] at d3;have i1:(0:Int)<=(k:Int):=bB;have i2:(k:Int)<(ln:Int):=bB;have bj:Hi (∀j<k+1,∀x,v.lv[j]? = some x->x.slot<u.slot):=lH (fun j hj y hy=>by
    rcases pP j k with h | h
    ·exact HP.o j h y hy
    ·obtain rfl:j=k:=bB;rw [hx] at hy;injection hy with hy
     rw [<- hy];exact hlt)
   clear hat hg hx ha;go_wp2;go_quiet (fail);go_wp2;go_roundw;case rel=>exact⟨k+1,by go_num,by omega,bj,lH (HK.o.drewN _)⟩
   case measure=>simp [intOf];omega
  ·have ba:(v.lv.takeWhile fun x=>decide (x.slot<u.slot)).length=k:=kU (by rw [HLN.o];exact hk) HP.o hno
   have ar:=lH ba;clear ba;obtain⟨ra,rc,U,ae⟩:=AR.drop_run DB (fun W=>by kernel_rfl) (HL.o.keeps HK.o) k (by rw [HLN.o];exact hk);obtain⟨ta,tc,a9,av⟩:=AR.take_run DB (HL.o.keeps HK.o) k (by rw [HLN.o];exact hk);rw [HLN.o] at U a9;have ap:=lH ae;have aq:=lH av;by_cases ad:k<ln
   ·obtain⟨g,off,x,ha,hg,hx,hat⟩:=(HL.o.keeps HK.o).at_k (k:=k) (by rw [HLN.o];exact ad)
    have a7:=hno x hx;have q0:=hat 0 _ rfl;rw [AT] at q0;obtain⟨g2,ab,x2,bo,bp,hx2,ah⟩:=ae.at_k (k:=0) (by rw [B1,HLN.o];omega);have q2:=ah 0 _ rfl;simp only [AT,Nat.zero_mul] at q2;have br:x2=x:=by
     rw [List.getElem?_drop,AT,hx] at hx2;injection hx2 with hx2
     exact hx2.symm
    subst br;subst bo;rw [ha] at d3 U a9;have i1:(0:Int)<=(k:Int):=bB;have i2:(k:Int)<(ln:Int):=bB;have i3:(0:Int)<((ln - k:Nat):Int):=bB;have i4:decide (x2.slot<u.slot)=false:=decide_eq_false a7;have HX:=lH hx;clear hat ah hg bp hx hx2 ae av a7;have a0:Hi (v.lv.drop k=x2::v.lv.drop (k+1)):=lH (by
     have hl:=(Ad.1 HX.o);obtain⟨h1,h2⟩:=hl;rw [List.drop_eq_getElem_cons h1,h2])
    have i5:(0:Int)<((ln:Int) - (k:Int)):=bB;by_cases hq:x2.slot=u.slot
    ·have f7:(x2.slot==u.slot)=true:=Tb;obtain⟨rb,rd,X,Y⟩:=AR.drop_run DB (fun W=>by kernel_rfl) ap.o 1 (by rw [B1,HLN.o];omega);rw [B1,HLN.o] at X;obtain⟨nr,au⟩:=eX (ln - k - 1);obtain⟨nk,M⟩:=eX (ln - k);rw [au] at X;rw [M] at X U i3;have bl:Hi (AR BE 8 wr rb rd (v.lv.drop (k+1))):=lH (by rw [List.drop_drop] at Y;exact Y);have a1:=lH au;have ao:=lH M;have ag:0<nk:=bB;have co:decide (0<nk)=true:=decide_eq_true ag;have cp:decide ((0:Int)<(nk:Int))=true:=decide_eq_true i3;have cq:((1:Int)<=(nk:Int)):=bB;have bt:1<=nk:=ag;clear Y au M;have cf:∀W,(AV 27 (pF (some (A_ g2 ab)) nk rc) (some (I_ 1)) none none).run prog W = .ok (pF rb nr rd) W:=fun W=>X W;clear X;go_wp2;go_quiet (fail);go_wp2_with fail;go_quiet (fail);go_upto_region 7 with fail
     have D:=lH ((HB1.o.keeps HK.o bA));have b0:=D.out.ce 0;have b1:=D.out.ce 1;have b2:=D.out.ce 2;have b3:=D.out.ce 3;have b4:=D.out.ce 4;have b5:=D.out.ce 5;have b6:=D.out.ce 6;have b7:=D.out.ce 7;have a3:∀n,((wr.drewN n).alloc (.cells (T_ u) 112)).cell? (A_ w 3)=some (pF (some (A_ g off)) ln v.lc):=fun n=>Ct (w:=wr.drewN n) d3 _;have T:∀n,Aa [] wr (((wr.drewN n).alloc (.cells (T_ u) 112)).alloc (.cells #[pF ta k tc,pF (some (A_ wr 0)) 1 1,pF rb nr rd] 27)):=fun n=>(((Aa.refl [] wr).drewN n).alloc _).alloc _;have J:Hi ((v.lv.take k).length=k):=lH (by rw [Ax,HLN.o,DE bB]);have G:Hi ((v.lv.drop (k+1)).length=nr):=lH (by rw [B1,HLN.o];have:=a1.o;omega);have N:Hi (nr<=1000):=lH (by have h1:=a1.o;omega);have F:w.heap.size+1+1<wr.heap.size:=BS HB2.o.lt HK.o.size;have HPV:Hi (DC v.lv u=v.lv.take k++[u]++v.lv.drop (k+1)):=lH (by
      unfold DC;rw [ar.o,a0.o];dsimp only;rw [if_pos hq])
     have O:Hi ((DC v.lv u).length=k+1+nr):=lH (by
      rw [HPV.o,Al,Al,J.o,G.o];rfl)
     refine wp_region_held_drew (S:=(fun _:World=>True)) bC trivial (fun hHeld=>?_)
     repeat' (first | exact rZ | refine rX ?_ | ((first | (refine rA 1 (fun K hK=>?_) ?_;go_simp) | (refine rA 5 (fun K hK=>?_) ?_;go_simp) | (refine rA 6 (fun K hK=>?_) ?_;go_simp) | (refine rA 8 (fun K hK=>?_) ?_;go_simp) | (refine rA 9 (fun K hK=>?_) ?_;go_simp;(refine(JW (wr+1) 27 ta (some (A_ wr 0)) rb tc 1 rd k 1 nr (v.lv.take k) [u] (v.lv.drop (k+1)) J.o rfl G.o bB (by have:=N.o;omega) _ (Ar _ _ _ _ bA) (aq.o.keeps (T _)) (AR.of_cells CF (Blk.alloc (Ar _ 112 (T_ u) wr bA) _) bA (by simp [BE])) (bl.o.keeps (T _))).mono ?_;rintro e w9 ⟨xa,xc,rfl,aa,hk9,E⟩;have B:Aa [] wz w9:=(HK.o.trans (T _)).trans hk9;have E:∀g o,xa=some (A_ g o)->wr.heap.size<=g:=(fun g o e=>by(have:=E g o e;simp at this;omega));have e3:=(HB0.o.keeps B bA).cell 3;have f3:=(HB0.o.keeps B bA).frozen 3;simp only [An,Aj,Ao] at e3)) | (refine rA 11 (fun K hK=>?_) ?_;go_simp));refine rO hK trivial fun hHeld=>?_;clear hK K) | (refine rQ 0 ?_;refine rQ 2 ?_;refine rQ 3 ?_;refine rQ 7 ?_) | (refine rQ 4 ?_) | (refine rQ 10 ?_) | refine rB [1,5,6,8,9,11] ?_ | (refine wpAnyH_done bC ?_ _;(have g0:=(HB0.o.keeps B bA).cell 0;have g1:=(HB0.o.keeps B bA).cell 1;have g2:=(HB0.o.keeps B bA).cell 2;have g4:=(HB0.o.keeps B bA).cell 4;have z0:=(HB2.o.keeps B bA).cell 0;have z1:=(HB2.o.keeps B bA).cell 1;have z2:=(HB2.o.keeps B bA).cell 2;have z3:=(HB2.o.keeps B bA).cell 3;have z4:=(HB2.o.keeps B bA).cell 4;have y0:=(HB2.o.keeps B bA).frozen 0;have y1:=(HB2.o.keeps B bA).frozen 1;have y2:=(HB2.o.keeps B bA).frozen 2;have y3:=(HB2.o.keeps B bA).frozen 3;have y4:=(HB2.o.keeps B bA).frozen 4;simp only [An,Aj,Ao] at g0 g1 g2 g4 z0 z1 z2 z3 z4;go_wp2_with fail;exact bodyPost_ret (v:=pH #[pF v.s.ga gn v.s.gc,pF v.s.ua un v.s.uc,pF v.s.fa fn v.s.fc,pF xa (k+1+nr) xc,I_ seq]) (by simp [results,results52,go_sem,z0,z1,z2,z3,z4]) rfl (Q7 HPV.o O.o aa B HZ.o E F (LK w w9 _ _ _ _ _ _ _ _)))))
    ·have f7:(x2.slot==u.slot)=false:=Tb;obtain⟨nk,M⟩:=eX (ln - k);rw [M] at U i3;have ao:=lH M;have ag:0<nk:=bB;have bt:1<=nk:=ag;clear M;go_wp2;go_quiet (fail);go_wp2_with fail;go_quiet (fail);go_upto_region 7 with fail
     have D:=lH ((HB1.o.keeps HK.o bA));have b0:=D.out.ce 0;have b1:=D.out.ce 1;have b2:=D.out.ce 2;have b3:=D.out.ce 3;have b4:=D.out.ce 4;have b5:=D.out.ce 5;have b6:=D.out.ce 6;have b7:=D.out.ce 7;have a3:∀n,((wr.drewN n).alloc (.cells (T_ u) 112)).cell? (A_ w 3)=some (pF (some (A_ g off)) ln v.lc):=fun n=>Ct (w:=wr.drewN n) d3 _;have T:∀n,Aa [] wr (((wr.drewN n).alloc (.cells (T_ u) 112)).alloc (.cells #[pF ta k tc,pF (some (A_ wr 0)) 1 1,pF (some (A_ g2 ab)) nk rc] 27)):=fun n=>(((Aa.refl [] wr).drewN n).alloc _).alloc _;have J:Hi ((v.lv.take k).length=k):=lH (by rw [Ax,HLN.o,DE bB]);have G:Hi ((v.lv.drop k).length=nk):=lH (by rw [B1,HLN.o];have:=ao.o;omega);have N:Hi (nk<=1000):=lH (by have h1:=ao.o;omega);have F:w.heap.size+1+1<wr.heap.size:=BS HB2.o.lt HK.o.size;have HPV:Hi (DC v.lv u=v.lv.take k++[u]++v.lv.drop k):=lH (by
      unfold DC;rw [ar.o,a0.o];dsimp only;rw [if_neg hq])
     have O:Hi ((DC v.lv u).length=k+1+nk):=lH (by
      rw [HPV.o,Al,Al,J.o,G.o];rfl)
     refine wp_region_held_drew (S:=(fun _:World=>True)) bC trivial (fun hHeld=>?_)
     repeat' (first | exact rZ | refine rX ?_ | ((first | (refine rA 1 (fun K hK=>?_) ?_;go_simp) | (refine rA 5 (fun K hK=>?_) ?_;go_simp) | (refine rA 6 (fun K hK=>?_) ?_;go_simp) | (refine rA 8 (fun K hK=>?_) ?_;go_simp) | (refine rA 9 (fun K hK=>?_) ?_;go_simp;(refine(JW (wr+1) 27 ta (some (A_ wr 0)) (some (A_ g2 ab)) tc 1 rc k 1 nk (v.lv.take k) [u] (v.lv.drop k) J.o rfl G.o bB (by have:=N.o;omega) _ (Ar _ _ _ _ bA) (aq.o.keeps (T _)) (AR.of_cells CF (Blk.alloc (Ar _ 112 (T_ u) wr bA) _) bA (by simp [BE])) (ap.o.keeps (T _))).mono ?_;rintro e w9 ⟨xa,xc,rfl,aa,hk9,E⟩;have B:Aa [] wz w9:=(HK.o.trans (T _)).trans hk9;have E:∀g o,xa=some (A_ g o)->wr.heap.size<=g:=(fun g o e=>by(have:=E g o e;simp at this;omega));have e3:=(HB0.o.keeps B bA).cell 3;have f3:=(HB0.o.keeps B bA).frozen 3;simp only [An,Aj,Ao] at e3)) | (refine rA 11 (fun K hK=>?_) ?_;go_simp));refine rO hK trivial fun hHeld=>?_;clear hK K) | (refine rQ 0 ?_;refine rQ 2 ?_;refine rQ 3 ?_;refine rQ 7 ?_) | (refine rQ 4 ?_) | (refine rQ 10 ?_) | refine rB [1,5,6,8,9,11] ?_ | (refine wpAnyH_done bC ?_ _;(have g0:=(HB0.o.keeps B bA).cell 0;have g1:=(HB0.o.keeps B bA).cell 1;have g2:=(HB0.o.keeps B bA).cell 2;have g4:=(HB0.o.keeps B bA).cell 4;have z0:=(HB2.o.keeps B bA).cell 0;have z1:=(HB2.o.keeps B bA).cell 1;have z2:=(HB2.o.keeps B bA).cell 2;have z3:=(HB2.o.keeps B bA).cell 3;have z4:=(HB2.o.keeps B bA).cell 4;have y0:=(HB2.o.keeps B bA).frozen 0;have y1:=(HB2.o.keeps B bA).frozen 1;have y2:=(HB2.o.keeps B bA).frozen 2;have y3:=(HB2.o.keeps B bA).frozen 3;have y4:=(HB2.o.keeps B bA).frozen 4;simp only [An,Aj,Ao] at g0 g1 g2 g4 z0 z1 z2 z3 z4;go_wp2_with fail;exact bodyPost_ret (v:=pH #[pF v.s.ga gn v.s.gc,pF v.s.ua un v.s.uc,pF v.s.fa fn v.s.fc,pF xa (k+1+nk) xc,I_ seq]) (by simp [results,results52,go_sem,z0,z1,z2,z3,z4]) rfl (Q7 HPV.o O.o aa B HZ.o E F (LK w w9 _ _ _ _ _ _ _ _)))))
   ·obtain rfl:k=ln:=bB;have bb:k - k=0:=bB;rw [bb] at U;have i2:¬(k:Int)<(k:Int):=bB;clear ae av hno ad bb;go_wp2;go_quiet (fail);go_wp2_with fail;go_quiet (fail);go_upto_region 7 with fail
    have D:=lH ((HB1.o.keeps HK.o bA));have b0:=D.out.ce 0;have b1:=D.out.ce 1;have b2:=D.out.ce 2;have b3:=D.out.ce 3;have b4:=D.out.ce 4;have b5:=D.out.ce 5;have b6:=D.out.ce 6;have b7:=D.out.ce 7;have a3:∀n,((wr.drewN n).alloc (.cells (T_ u) 112)).cell? (A_ w 3)=some (pF v.la k v.lc):=fun n=>Ct (w:=wr.drewN n) d3 _;have T:∀n,Aa [] wr (((wr.drewN n).alloc (.cells (T_ u) 112)).alloc (.cells #[pF ta k tc,pF (some (A_ wr 0)) 1 1,pF ra 0 rc] 27)):=fun n=>(((Aa.refl [] wr).drewN n).alloc _).alloc _;have J:Hi ((v.lv.take k).length=k):=lH (by rw [Ax,HLN.o,Nat.min_self]);have F:w.heap.size+1+1<wr.heap.size:=BS HB2.o.lt HK.o.size;have HPV:Hi (DC v.lv u=v.lv.take k++[u]++v.lv.drop k):=lH (by
     unfold DC;rw [ar.o,List.drop_of_length_le lM])
    have O:Hi ((DC v.lv u).length=k+1):=lH (by
     rw [HPV.o,Al,Al,Ax,B1,HLN.o];simp)
    have G:Hi ((v.lv.drop k).length=0):=lH (by rw [B1,HLN.o,Nat.sub_self]);refine wp_region_held_drew (S:=(fun _:World=>True)) bC trivial (fun hHeld=>?_)
    repeat' (first | exact rZ | refine rX ?_ | ((first | (refine rA 1 (fun K hK=>?_) ?_;go_simp) | (refine rA 5 (fun K hK=>?_) ?_;go_simp) | (refine rA 6 (fun K hK=>?_) ?_;go_simp) | (refine rA 8 (fun K hK=>?_) ?_;go_simp) | (refine rA 9 (fun K hK=>?_) ?_;go_simp;(refine(JW (wr+1) 27 ta (some (A_ wr 0)) ra tc 1 rc k 1 0 (v.lv.take k) [u] (v.lv.drop k) J.o rfl G.o bB bB _ (Ar _ _ _ _ bA) (aq.o.keeps (T _)) (AR.of_cells CF (Blk.alloc (Ar _ 112 (T_ u) wr bA) _) bA (by simp [BE])) (ap.o.keeps (T _))).mono ?_;rintro e w9 ⟨xa,xc,rfl,aa,hk9,E⟩;have B:Aa [] wz w9:=(HK.o.trans (T _)).trans hk9;have E:∀g o,xa=some (A_ g o)->wr.heap.size<=g:=(fun g o e=>by(have:=E g o e;simp at this;omega));have e3:=(HB0.o.keeps B bA).cell 3;have f3:=(HB0.o.keeps B bA).frozen 3;simp only [An,Aj,Ao] at e3)) | (refine rA 11 (fun K hK=>?_) ?_;go_simp));refine rO hK trivial fun hHeld=>?_;clear hK K) | (refine rQ 0 ?_;refine rQ 2 ?_;refine rQ 3 ?_;refine rQ 7 ?_) | (refine rQ 4 ?_) | (refine rQ 10 ?_) | refine rB [1,5,6,8,9,11] ?_ | (refine wpAnyH_done bC ?_ _;(have g0:=(HB0.o.keeps B bA).cell 0;have g1:=(HB0.o.keeps B bA).cell 1;have g2:=(HB0.o.keeps B bA).cell 2;have g4:=(HB0.o.keeps B bA).cell 4;have z0:=(HB2.o.keeps B bA).cell 0;have z1:=(HB2.o.keeps B bA).cell 1;have z2:=(HB2.o.keeps B bA).cell 2;have z3:=(HB2.o.keeps B bA).cell 3;have z4:=(HB2.o.keeps B bA).cell 4;have y0:=(HB2.o.keeps B bA).frozen 0;have y1:=(HB2.o.keeps B bA).frozen 1;have y2:=(HB2.o.keeps B bA).frozen 2;have y3:=(HB2.o.keeps B bA).frozen 3;have y4:=(HB2.o.keeps B bA).frozen 4;simp only [An,Aj,Ao] at g0 g1 g2 g4 z0 z1 z2 z3 z4;go_wp2_with fail;exact bodyPost_ret (v:=pH #[pF v.s.ga gn v.s.gc,pF v.s.ua un v.s.uc,pF v.s.fa fn v.s.fc,pF xa (k+1) xc,I_ seq]) (by simp [results,results52,go_sem,z0,z1,z2,z3,z4]) rfl (Q7 HPV.o O.o aa B HZ.o E F (LK w w9 _ _ _ _ _ _ _ _)))))
theorem Blk.put5{w:World}{g:Nat}{t:TypeId}{x0 x1 x2 x3 x4:Value}(h:Blk w g t #[x0,x1,x2,x3,x4])(a b c d e:Value):Blk (((((w.setCell (A_ g 0) a).setCell (A_ g 1) b).setCell (A_ g 2) c).setCell (A_ g 3) d).setCell (A_ g 4) e) g t #[a,b,c,d,e]:=((((h.set_ 0 a).set_ 1 b).set_ 2 c).set_ 3 d).set_ 4 e
theorem G6(w:World)(g:Nat)(a b c d e:Value):Aa [g] w (((((w.setCell (A_ g 0) a).setCell (A_ g 1) b).setCell (A_ g 2) c).setCell (A_ g 3) d).setCell (A_ g 4) e):=((((Ae w g 0 a).trans (Ae _ g 1 b)).trans (Ae _ g 2 c)).trans (Ae _ g 3 d)).trans (Ae _ g 4 e)
structure IF(B:Nat)(v:B6):Prop where
 s:Ja B v.s
 l:Dj B v.la
 t:∀u∈v.lv,Kx B u
theorem Ja.mono{B B':Nat}{v:DF}(h:Ja B v)(hb:B'<=B):Ja B' v:=⟨Dj.mono h.1 hb,Dj.mono h.2.1 hb,Dj.mono h.2.2 hb⟩
theorem IF.mono{B B':Nat}{v:B6}(h:IF B v)(hb:B'<=B):IF B' v:=⟨h.s.mono hb,h.l.mono hb,fun u hu=>(h.t u hu).mono hb⟩
theorem Cj.ge{w w':World}{u:TV}{t:Ten}{B:Nat}{S:List Nat}(h:Cj w u t)(hg:Kx B u)(hk:Aa S w w')(hS:∀y∈S,y<B):Cj w' u t:=h.keepsS hk (Dj.out hg.1 hS) (Dj.out hg.2 hS)
theorem AX.ge{w w':World}{B:Nat}{S:List Nat}(hk:Aa S w w')(hS:∀y∈S,y<B):∀ {V:List TV} {L:List Ten},AX w V L->(∀u∈V,Kx B u)->AX w' V L
 | [],[],_,_=>trivial
 | _::_,_::_,h,hg=>⟨h.1.ge (hg _ bA) hk hS,AX.ge hk hS h.2 (fun u hu=>hg u (by simp [hu]))⟩
 | [],_::_,h,_=>h.elim
 | _::_,[],h,_=>h.elim
theorem Dy.ge{w w':World}{v:DF}{s:Fz}{B:Nat}{S:List Nat}(h:Dy w v s)(hg:Ja B v)(hk:Aa S w w')(hS:∀y∈S,y<B):Dy w' v s:=h.keepsS hk (Dj.out hg.1 hS) (Dj.out hg.2.1 hS) (Dj.out hg.2.2 hS)
theorem CH.ge{w w':World}{v:B6}{r:CJ}{B:Nat}{S:List Nat}(h:CH w v r)(hg:IF B v)(hk:Aa S w w')(hS:∀y∈S,y<B):CH w' v r:=
 { h with s:=h.s.ge hg.s hk hS,l:=h.l.keepsS hk (Dj.out hg.l hS),t:=AX.ge hk hS h.t hg.t }
theorem Y1(n:Int)(w:World):Calls prog 38 #[pE pK n] w fun e w'=>∃v gn un fn,e = pJ (.tuple #[pH #[pF v.ga gn v.gc,pF v.ua un v.uc,pF v.fa fn v.fc,pF none 0 0,I_ 0],I_ (IU n).2])/\(IU n).1.gens.length=gn/\(IU n).1.used.length=un/\(IU n).1.free.length=fn/\Dy w' v (IU n).1/\Ja w v/\Aa [] w w':=by
 obtain⟨wz,hwz⟩:=eX (w.alloc (.cells LU.k 29));have HZ:Hi (Aa [] w wz):=lH jV;have HSZ:Hi (wz.heap.size=w.heap.size+1):=lH gA;have HB:Hi (Blk wz w 29 LU.k):=lH nN;go_enter func38,ntmps38;go_wp2_with fail;clear hwz;refine(aM n wz).mono ?_;rintro e w1 ⟨x,rfl,⟨v,gn,un,fn,rfl,h1,h2,h3,hm,D⟩,hk⟩;obtain⟨wa,E⟩:=eX (w1.alloc (.cells (S_ v gn un fn) 26));have B:Aa [] w1 wa:=by rw [<- E];exact(Aa.refl [] w1).alloc _
 have hb:=HB.o.keeps (hk.trans B) bA;have hs:Blk wa w1 26 (S_ v gn un fn):=by rw [<- E];exact Blk.new w1 _ _
 have z:=hb.cell;have y:=hb.frozen;have s:=hs.cell;have HFIN:Hi (∀F,Aa [w.heap.size] wa F->Dy F v (IU n).1/\Ja w v/\Aa [] w F):=lH fun F hkf=>by
  have hx:=(HZ.o.trans hk).trans B;have hsz:=HSZ.o;exact⟨(hm.keeps B).ge D hkf bF,D.mono bB,hx.own hkf bF⟩
 clear hm hk D B hb hs;go_wp2_with fail;refine bodyPost_ret (v:=.tuple #[pH #[pF v.ga gn v.gc,pF v.ua un v.uc,pF v.fa fn v.fc,pF none 0 0,I_ 0],I_ (IU n).2]) (by simp [results,results38,go_sem,z]) rfl ⟨v,gn,un,fn,rfl,h1,h2,h3,HFIN.o _ bJ⟩
theorem DQ{w:World}{B k n c sz:Nat}{e:TypeId}{a:Option Addr}{xs:List Value}(h:w.ownsRow B e sz (pF a n c) k xs):Dj B a:=fun g o e=>(h.lt g (by rw [e];rfl)).1
theorem ZR(u:TV)(t:Ten)(seq:Int)(w:World)(B:Cj w u t)(hr:u.rl<=1000)(T:u.cl<=1000):
  Calls prog 90 #[pH (U_ u seq)] w fun e w'=>∃ra rc ca cc,e = pJ (pH #[pE pK u.slot,I_ u.gen,Dz u.name,I_ u.state,I_ u.version,pF ra u.rl rc,pF ca u.cl cc,I_ u.deadline])/\w'.ownsRow w 59 5 (pF ra u.rl rc) u.rl (t.rules.flatMap B8)/\w'.ownsRow w 194 4 (pF ca u.cl cc) u.cl (t.creds.flatMap BT)/\Aa [] w w':=by
 obtain⟨wz,hwz⟩:=eX ((w.alloc (.cells (U_ u seq) 114)).alloc (.cells OC.k 112));have hz:Aa [] w wz:=by rw [<- hwz];exact((Aa.refl [] w).alloc _).alloc _
 have HB0:Hi (Blk wz w 114 (U_ u seq)):=lH kI;have HB1:Hi (Blk wz (w+1) 112 OC.k):=lH aF;have HSZ:Hi (wz.heap.size=w.heap.size+1+1):=lH gA;have HR:=lH (fun W (hk:Aa [] wz W)=>KB u.ra u.rc t.rules u.rl B.rl bB W (B.rs.keeps (hz.trans hk)));have HC:=lH (fun W (hk:Aa [] wz W)=>XY u.ca u.cc t.creds u.cl B.cl bB W (B.cs.keeps (hz.trans hk)));have HZ:=lH hz;have N:=lH B.rl;have M:=lH B.cl;have b:=HB0.o.cell;have HFIN:Hi (∀(w2 D:World) (ra ca:Option Addr) (rc cc:Nat),w2.ownsRow wz 59 5 (pF ra u.rl rc) u.rl (t.rules.flatMap B8)->w2.ownsRow wz 194 4 (pF ca u.cl cc) u.cl (t.creds.flatMap BT)->Aa [] wz w2->Aa [w.heap.size,w.heap.size+1] w2 D->
   ∃a c b d,pJ (pH #[pE pK u.slot,I_ u.gen,Dz u.name,I_ u.state,I_ u.version,pF ra u.rl rc,pF ca u.cl cc,I_ u.deadline]) = pJ (pH #[pE pK u.slot,I_ u.gen,Dz u.name,I_ u.state,I_ u.version,pF a u.rl c,pF b u.cl d,I_ u.deadline])/\D.ownsRow w 59 5 (pF a u.rl c) u.rl (t.rules.flatMap B8)/\D.ownsRow w 194 4 (pF b u.cl d) u.cl (t.creds.flatMap BT)/\Aa [] w D):=lH fun w2 D ra ca rc cc h1 h2 O E=>by
  have hs:=HSZ.o;have hS:∀y∈[w.heap.size,w.heap.size+1],y<wz.heap.size:=fun y hy=>by simp only [Ac,Ab,or_false] at hy;omega
  have hn:∀y,wz.heap.size<=y->y∉[w.heap.size,w.heap.size+1]:=fun y hy hm=>by have:=hS y hm;omega
  exact⟨ra,rc,ca,cc,rfl,Bw (Ah h1 E (fun g hg=>hn g (h1.lt g hg).1)) bB,Bw (Ah h2 E (fun g hg=>hn g (h2.lt g hg).1)) bB,(hz.trans O).own E bF⟩
 clear hz B hr T;go_enter func90,ntmps90;go_wp2;clear hwz;refine wp_region_held_drew (S:=(fun W:World=>True)) bC trivial (fun hHeld=>?_)
 repeat' (first | exact rZ | refine rX ?_ | ((first | (refine rA 2 (fun K hK=>?_) ?_;go_simp) | (refine rA 3 (fun K hK=>?_) ?_;go_simp;(refine(HR.o _ ((Aa.refl [] wz).drew)).mono ?_;rintro e w1 ⟨ra,rc,rfl,X,J,G⟩;have hk1:Aa [] wz w1:=((Aa.refl [] wz).drew).trans G;have c:=(HB0.o.keeps hk1 bA).cell)) | (refine rA 6 (fun K hK=>?_) ?_;go_simp) | (refine rA 7 (fun K hK=>?_) ?_;go_simp;(refine(HC.o _ hk1).mono ?_;rintro e w2 ⟨ca,cc,rfl,U,F,hck⟩;have hk2:Aa [] wz w2:=hk1.trans hck;have f:=(HB0.o.keeps hk2 bA).frozen;have d:=(HB0.o.keeps hk2 bA).cell)) | (refine rA 10 (fun K hK=>?_) ?_;go_simp) | (refine rA 13 (fun K hK=>?_) ?_;go_simp));refine rO hK trivial fun hHeld=>?_;clear hK K) | (refine rQ 0 ?_;refine rQ 1 ?_;refine rQ 4 ?_;refine rQ 5 ?_) | (refine rQ 8 ?_;refine rQ 9 ?_) | (refine rQ 11 ?_;refine rQ 12 ?_) | refine rB [2,3,6,7,10,13] ?_ | (refine wpAnyH_done bC ?_ _;(have x:=(HB1.o.keeps hk2 bA).cell;have y:=(HB1.o.keeps hk2 bA).frozen;go_wp2_with fail;exact bodyPost_ret (v:=pH #[pE pK u.slot,I_ u.gen,Dz u.name,I_ u.state,I_ u.version,pF ra u.rl rc,pF ca u.cl cc,I_ u.deadline]) (by simp [results,results90,go_sem,x]) rfl (HFIN.o w2 _ ra ca rc cc (Ah J hck (fun g hg=>by simp)) (Bw F hk1.size) hk2 bJ))))
end
end Go.Proofs.YtncebikgoleolaaGreatDoor
