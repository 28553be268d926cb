/- Steps of the proof: RoleE, CreA, AdrA, PrtA, SloA, SloB. -/
import Derived.Test.YtcjdkbgdahgjbaaGreatDoorK0
import Derived.Test.YtcjdkbgdahgjbaaGreatDoorKaa
import Derived.Test.YtcjdkbgdahgjbaaGreatDoorKab
import Derived.Test.YtcjdkbgdahgjbaaGreatDoorKac
import Derived.Test.YtcjdkbgdahgjbaaGreatDoorKak
import Derived.Test.YtcjdkbgdahgjbaaGreatDoorKbc
import Derived.Laws.Bits64b
set_option maxRecDepth 100000
set_option maxHeartbeats 8000000
set_option linter.all false
namespace Go.Proofs.YtcjdkbgdahgjbaaGreatDoor
open _root_.Array renaming replicate_succ→Bc,replicate_zero→Bd
open _root_.Bool renaming and_assoc→DW,and_eq_true→Af,false_and→D4,true_and→De
open _root_.ByteArray renaming toList_eq→DS
open Ending renaming returned→dM
open Exit renaming noGoto_normal→AH
open Fence renaming wide→Ba
open Instr renaming lookup→Dx
open IntKind renaming i64→dN
open _root_.List renaming append_toArray→B0,cons_append→A6,getElem?_cons_succ→Al,getElem?_cons_zero→Ah,getElem?_eq_some_iff→Ad,getElem?_toArray→Ai,length_cons→Ao,length_nil→Eh,length_take→A7,nil_append→AX,push_toArray→By,size_toArray→Cx,take_append_drop→Bj,take_of_length_le→Ax
open _root_.Nat renaming add_zero→CG,le_refl→Ap,min_eq_left→DP,zero_add→BI,zero_le→Cy
open Value renaming agg→dK,bool→dL,int→dH,pointer→dJ,slice→dI,string→CZ
section
open Go.RowKit Go.Shelf
attribute [local go_sem] Oper.semAt_some
attribute [local go_sem ↓] Go.wp_at_zero Go.wp_at_succ
def Jc(met:List ByteArray)(o:Kp):Bool:=decide (o≠⟨⟨#[]⟩,0⟩)&&!decide (o.name∈met)
theorem Mu(A B:List Kp):∀(met:List ByteArray),BT met (A++B)=(BT met A&&BT (met++A.map (·.name)) B):=by
 induction A with
 | nil=>intro met;simp [BT]
 | cons o A ih=>intro met;simp [BT,ih,DW]
theorem JZ{L:List Kp}{k:Nat}{o:Kp}(h:L[k]? = some o):BT [] (L.take (k+1))=(BT [] (L.take k)&&Jc ((L.take k).map (·.name)) o):=by
 rw [AB h,Mu];simp [BT,Jc]
theorem Lk{L:List Kp}{k:Nat}{o:Kp}(h:L[k]? = some o)(hb:Jc ((L.take k).map (·.name)) o=false):BT [] L=false:=by
 have e:L=L.take (k+1)++L.drop (k+1):=(Bj _ _).symm;rw [e,Mu,JZ h,hb];simp
theorem XM(a b:ByteArray)(x y:Int)(w:World):(binOp .eql 40 (dK #[CZ a,dH dN x]) (dK #[CZ b,dH dN y])).run Tryz.prog w = .ok (dL (decide (a=b)&&decide (x=y))) w:=by
 have hS:Tryz.prog.underlying 40=some (.struct (Tryz.prog.fieldsOf 40)):=by kernel_rfl
 have hp:Tryz.prog.stoodInHeld 40=false:=by kernel_rfl
 rw [run_eql_struct,show(10000:Nat)=9999+1 from rfl,run_equalIn_agg w 9999 40 _ _ hS hp];simp only [Program.fieldsOf,Tryz.underlying40];go_simp;by_cases h1:a=b
 ·subst h1
  by_cases h2:x=y<;>simp [h2]
 ·have:¬a.toList=b.toList:=fun e=>h1 (by
   rw [DS,DS] at e;obtain⟨⟨l⟩⟩:=a;obtain⟨⟨m⟩⟩:=b;have e2:l=m:=e;rw [e2])
  simp [h1,this]
theorem QP{w:World}{b:Nat}{met:List ByteArray}(h:Do CZ w b met)(k:ByteArray):(Dx 178 (.map (some b)) (CZ k) false).run Tryz.prog w = .ok (dL (decide (k∈met))) w:=
 by
 have h1:=h.look OJ Tryz.underlying178 Tryz.underlying9 bC k;rw [h1];have h2:∀(p:Prop) (i j:Decidable p),@decide p i = @decide p j:=fun p i j=>decide_eq_decide.2 Iff.rfl;rw [h2]
theorem R6{w:World}{b:Nat}{met:List ByteArray}(h:Do CZ w b met)(k:ByteArray)(hn:k∉met):∃o,(Instr.mapUpdate 178 (.map (some b)) (CZ k) (dL true)).run Tryz.prog w = .ok () (w.putObj b o)∧Do CZ (w.putObj b o) b (met++[k]):=
 h.update OJ Tryz.underlying178 Tryz.underlying9 k hn
theorem I6(a:Option Addr)(c:Nat)(L:List Kp)(n:Nat)(hn:L.length=n)(hL:n≤1000000)(hs:∀o∈L,o.name.size≤maxLen)(b:Bool)(hb:He L=b)(w:World)(h:Mo w a c L):
  Calls Tryz.prog 44 #[dI a n c] w fun e w'=>e = dM (dL b)∧Aa [] w w':=by
 have HH:=lH h;have HN:=lH hn;have HB:=lH hb;have HS:=lH hs;clear h hn hb hs;have hmk:=fun W=>run_makeMap (P:=Tryz.prog) 178 W;have hgd:Tryz.prog.eqGuardType Tryz.prog.depth 40=false:=by kernel_rfl
 have hI0:Do CZ ((w.alloc (.map #[] 0)).alloc (.cells #[CZ ⟨#[]⟩,dH dN 0] 40)) w.heap.size ([]:List ByteArray):=(Do.new w).keeps ((Aa.refl [] _).alloc _) bA;have hN0:=Aq (w.alloc (.map #[] 0)) 40 #[CZ ⟨#[]⟩,dH dN 0] (w.heap.size+1) bA;have HI0:=lH hI0;have HN0:=lH hN0;clear hI0 hN0;go_enter Tryz.func44,Tryz.ntmps44;go_wp2;go_loopw [11] (fun i wr=>∃k:Nat,i = dH dN k∧k≤n∧Hid (BT [] (L.take k)=true)∧Hid (Do CZ wr w.heap.size ((L.take k).map (·.name)))∧Hid (Blk wr (w.heap.size+1) 40 #[CZ ⟨#[]⟩,dH dN 0])∧Hid (Aa [] w wr)) (fun i _=>n - (intOf i).toNat)
 case atStart=>exact⟨0,rfl,Cy _,lH rfl,HI0,HN0,lH (((Aa.refl [] w).alloc _).alloc _)⟩
 case round=>
  obtain⟨k,rfl,hk,HP,HST,HNB,HK⟩:=hrel;by_cases hlt:k<n
  ·obtain⟨g,off,⟨nm,ro⟩,rfl,hg,hx,hat⟩:=HH.out.at_k (k:=k) bO
   have q0:=hat 0 (CZ nm) rfl;have q1:=hat 1 (dH dN ro) rfl;rw [CG] at q0;rw [← HK.out.cell (p:=⟨g,off+k*2,none⟩) hg bA] at q0;rw [← HK.out.cell (p:=⟨g,off+k*2+1,none⟩) hg bA] at q1;have i1:(0:Int)≤(k:Int):=by omega
   have i2:(k:Int)<(n:Int):=by omega
   have HX:=lH hx;have hk0:=(Aa.refl [] wr).alloc (.cells #[CZ nm,dH dN ro] 40);have hset:=HST.out.keeps hk0 bA;have hbx:=Blk.new wr 40 #[CZ nm,dH dN ro];have d0:=hbx.ce 0;have d1:=hbx.ce 1;have hnb:=HNB.out.keeps hk0 bA;have n0:=hnb.ce 0;have n1:=hnb.ce 1;have hlk:=QP hset nm;have heq:=fun W=>XM nm ⟨#[]⟩ ro 0 W;obtain⟨y1,hy1⟩:=eX ((decide (nm=⟨#[]⟩)&&decide (ro=0)));obtain⟨y2,hy2⟩:=eX (decide (nm∈(L.take k).map (·.name)));rw [hy2] at hlk;rw [hy1] at heq;have hst:Jc ((L.take k).map (·.name)) ⟨nm,ro⟩=(!y1&&!y2):=by
    unfold Jc;rw [hy2]
    congr 1
    rw [← hy1];by_cases h1:nm=⟨#[]⟩<;>by_cases h2:ro=0<;>simp [h1,h2]
   have HOS:=lH hst;have HY2:=lH hy2;have HK0:=lH (HK.out.alloc (.cells #[CZ nm,dH dN ro] 40));have HSET:=lH hset;have HNB1:=lH hnb;have HBX:=lH hbx;clear hat hg hx hk0 hset hbx hnb hy1 hy2 hst;cases y1 with
   | true=>
    obtain rfl:b=false:=by rw [← HB.out];unfold He;rw [Lk HX.out Z4];rfl
    go_wp2;go_ret;exact⟨rfl,HK0.out⟩
   | false=>
    cases y2 with
    | true=>
     obtain rfl:b=false:=by rw [← HB.out];unfold He;rw [Lk HX.out Z4];rfl
     go_wp2;go_ret;exact⟨rfl,HK0.out⟩
    | false=>
     obtain⟨o,hup,hset2⟩:=R6 HSET.out nm (of_decide_eq_false HY2.out);have HP2:Hid (BT [] (L.take (k+1))=true):=lH (by rw [JZ HX.out,HP.out,HOS.out];rfl);have HSET2:Hid (Do CZ ((wr.alloc (.cells #[CZ nm,dH dN ro] 40)).putObj w.heap.size o) w.heap.size ((L.take (k+1)).map (·.name))):=lH (by rw [AB HX.out,List.map_append];exact hset2);have HNB2:=lH (HNB1.out.keeps (Dw _ w.heap.size o) bA);have HK2:=lH (HK0.out.own (Dw _ w.heap.size o) bF);clear hset2;go_wp2;go_roundw;case rel=>exact⟨k+1,by go_num,by omega,HP2,HSET2,HNB2,HK2⟩
     case measure=>simp [intOf];omega
  ·obtain rfl:k=n:=by omega
   have hap:BT [] L=true:=by
    have:=HP.out
    rwa [Ax bL] at this
   obtain⟨y,hy⟩:=eX (L.all SJ);have hbb:b=(decide (k≤10)&&y):=by rw [← HB.out];unfold He;rw [hap,hy,HN.out];rfl
   have HBB:=lH hbb;have HY:=lH hy;clear hap hy hbb;by_cases h10:k≤10
   ·have i3:(k:Int)≤10:=by omega
    obtain rfl:b=y:=by rw [HBB.out,decide_eq_true h10];rfl
    have HF:=lH (Blk.new wr 180 TM);have HKF:=lH (HK.out.alloc (.cells TM 180));clear h10;go_wp2_with (fail);refine(UO a c L k HN.out hL HS.out _ _ b HY.out _ (HH.out.keeps HKF.out) HF.out).mono ?_;rintro e w1 ⟨rfl,hk1⟩;have HK1:=lH (HKF.out.trans hk1);clear hk1;go_wp2;go_ret;exact⟨rfl,HK1.out⟩
   ·have i3:¬(k:Int)≤10:=by omega
    obtain rfl:b=false:=by rw [HBB.out,decide_eq_false h10];rfl
    clear h10;go_wp2;go_ret;exact⟨rfl,HK.out⟩
theorem Fz(n l m:Int)(b:Bool)(hb:D1 n l m=b)(w:World):Calls Tryz.prog 256 #[dH dN n,dH dN l,dH dN m] w fun e w'=>e = dM (dL b)∧w=w':=by
 obtain⟨b1,h1⟩:=eX (decide (l≤n));unfold D1 at hb;rw [h1] at hb;cases b1 with
 | false=>
  obtain rfl:b=false:=by rw [← hb];rfl
  have f1:decide (n≥l)=false:=h1;clear hb h1;go_enter Tryz.func256,Tryz.ntmps256;go_wp2;go_ret;exact⟨rfl,rfl⟩
 | true=>
  obtain rfl:decide (n≤m)=b:=by rw [← hb];rfl
  have f1:decide (n≥l)=true:=h1;clear hb h1;go_enter Tryz.func256,Tryz.ntmps256;go_wp2;go_ret;exact⟨rfl,rfl⟩
theorem I5(k:ByteArray)(b:Bool)(hb:Lg k=b)(w:World):Calls Tryz.prog 257 #[CZ k] w fun e w'=>e = dM (dL b)∧w=w':=by
 obtain⟨b1,h1⟩:=eX (decide (1≤k.size));unfold Lg at hb;rw [h1] at hb;cases b1 with
 | false=>
  obtain rfl:b=false:=by rw [← hb];rfl
  have f1:decide ((k.size:Int)≥1)=false:=decide_eq_false (by have:=of_decide_eq_false h1;omega);clear hb h1;go_enter Tryz.func257,Tryz.ntmps257;go_wp2;go_ret;exact⟨rfl,rfl⟩
 | true=>
  obtain rfl:decide (k.size≤64)=b:=by rw [← hb];rfl
  have f1:decide ((k.size:Int)≥1)=true:=decide_eq_true (by have:=of_decide_eq_true h1;omega);have f2:decide ((k.size:Int)≤64)=decide (k.size≤64):=decide_eq_decide.2 bB;clear hb h1;go_enter Tryz.func257,Tryz.ntmps257;go_wp2;go_ret;exact⟨rfl,rfl⟩
def Py(c:Ey):Bool:=decide (0≤c.from_)&&(decide (c.from_<c.to_)&&decide (c.to_≤1000000000000))
theorem Wm(c:Ey):GO c=(D1 c.id 1 1000000000&&Lg c.key&&Py c):=by unfold GO D1 Py;simp only [DW]
theorem UC(c:Ey)(b:Bool)(hb:D1 c.id 1 1000000000=b)(w:World):Calls Tryz.prog 210 #[dK #[dH dN c.id,CZ c.key,dH dN c.from_,dH dN c.to_]] w fun e w'=>e = dM (dL b)∧Aa [] w w':=by
 have HB:=lH hb;have HK:=lH ((Aa.refl [] w).alloc (.cells #[dH dN c.id,CZ c.key,dH dN c.from_,dH dN c.to_] 320));clear hb;go_enter Tryz.func210,Tryz.ntmps210;go_wp2_with (fail);refine(Fz _ _ _ b HB.out _).mono ?_;rintro e w1 ⟨rfl,rfl⟩;go_wp2;go_ret;exact⟨rfl,HK.out⟩
theorem S2(c:Ey)(b:Bool)(hb:Lg c.key=b)(w:World):Calls Tryz.prog 211 #[dK #[dH dN c.id,CZ c.key,dH dN c.from_,dH dN c.to_]] w fun e w'=>e = dM (dL b)∧Aa [] w w':=by
 have HB:=lH hb;have HK:=lH ((Aa.refl [] w).alloc (.cells #[dH dN c.id,CZ c.key,dH dN c.from_,dH dN c.to_] 320));clear hb;go_enter Tryz.func211,Tryz.ntmps211;go_wp2_with (fail);refine(I5 _ b HB.out _).mono ?_;rintro e w1 ⟨rfl,rfl⟩;go_wp2;go_ret;exact⟨rfl,HK.out⟩
theorem Qx(c:Ey)(b:Bool)(hb:Py c=b)(w:World):Calls Tryz.prog 212 #[dK #[dH dN c.id,CZ c.key,dH dN c.from_,dH dN c.to_]] w fun e w'=>e = dM (dL b)∧Aa [] w w':=by
 have HK:=lH ((Aa.refl [] w).alloc (.cells #[dH dN c.id,CZ c.key,dH dN c.from_,dH dN c.to_] 320));obtain⟨i,k,x,y⟩:=c;dsimp only at hb HK ⊢;unfold Py at hb;dsimp only at hb;obtain⟨b1,h1⟩:=eX (decide (0≤x));obtain⟨b2,h2⟩:=eX (decide (x<y));rw [h1,h2] at hb;have f1:decide (x≥0)=b1:=h1;clear h1;cases b1<;>cases b2<;>simp only [D4,De] at hb<;>
 ·subst hb
  go_enter Tryz.func212,Tryz.ntmps212;go_wp2;go_ret;exact⟨rfl,HK.out⟩
def RN:Array Value:=#[.func (.func 210) #[] #[],.func (.func 211) #[] #[],.func (.func 212) #[] #[]]
theorem Oq(a:Option Addr)(c:Nat)(L:List Ey)(n:Nat)(hn:L.length=n)(hL:n≤1000000)(fb:Nat)(ty:TypeId)(b:Bool)(hb:L.all GO=b)(w:World)(h:AJ CH 4 w a c L)(hf:Blk w fb ty RN):
  Calls Tryz.prog 209 #[dI a n c,dI (some ⟨fb,0,none⟩) 3 3] w fun e w'=>e = dM (dL b)∧Aa [] w w':=by
 have HH:=lH h;have HN:=lH hn;have HB:=lH hb;have HF:=lH hf;clear h hn hb hf;go_enter Tryz.func209,Tryz.ntmps209;go_wp2;go_loopw [11] (fun i wr=>∃k:Nat,i = dH dN k∧k≤n∧Hid ((L.take k).all GO=true)∧Hid (Aa [] w wr)) (fun i _=>n - (intOf i).toNat)
 case atStart=>exact⟨0,rfl,Cy _,lH rfl,lH (Aa.refl _ _)⟩
 case round=>
  obtain⟨k,rfl,hk,HP,HK⟩:=hrel;by_cases hlt:k<n
  ·obtain⟨g,off,⟨a0,a1,a2,a3⟩,rfl,hg,hx,hat⟩:=HH.out.at_k (k:=k) bO
   have q0:=hat 0 (dH dN a0) rfl;have q1:=hat 1 (CZ a1) rfl;have q2:=hat 2 (dH dN a2) rfl;have q3:=hat 3 (dH dN a3) rfl;rw [CG] at q0;rw [← HK.out.cell (p:=⟨g,off+k*4,none⟩) hg bA] at q0;rw [← HK.out.cell (p:=⟨g,off+k*4+1,none⟩) hg bA] at q1;rw [← HK.out.cell (p:=⟨g,off+k*4+2,none⟩) hg bA] at q2;rw [← HK.out.cell (p:=⟨g,off+k*4+3,none⟩) hg bA] at q3;have i1:(0:Int)≤(k:Int):=by omega
   have i2:(k:Int)<(n:Int):=by omega
   obtain⟨b1,hb1⟩:=eX (D1 (Ey.mk a0 a1 a2 a3).id 1 1000000000);obtain⟨b2,hb2⟩:=eX (Lg (Ey.mk a0 a1 a2 a3).key);obtain⟨b3,hb3⟩:=eX (Py ⟨a0,a1,a2,a3⟩);have hp:GO ⟨a0,a1,a2,a3⟩=(b1&&b2&&b3):=by rw [← hb1,← hb2,← hb3];exact Wm _
   have HX:=lH hx;have HPX:=lH hp;have H1:=lH hb1;have H2:=lH hb2;have H3:=lH hb3;have hk0:=HK.out.alloc (.cells #[dH dN a0,CZ a1,dH dN a2,dH dN a3] 233);have hbx:=Blk.new wr 233 #[dH dN a0,CZ a1,dH dN a2,dH dN a3];have hfk:=HF.out.keeps hk0 bA;have HK0:=lH hk0;have HBX:=lH hbx;have HFK:=lH hfk;clear hat hg hx hp hb1 hb2 hb3 hk0 hbx hfk;go_wp2;refine wp_loop_rounds 4 ?_;rw [rounds_succ];have s0:=HFK.out.cell 0;have s1:=HFK.out.cell 1;have s2:=HFK.out.cell 2;have d0:=HBX.out.cell 0;have d1:=HBX.out.cell 1;have d2:=HBX.out.cell 2;have d3:=HBX.out.cell 3;simp only [RN,Ai,Ah,Al] at s0 s1 s2 d0 d1 d2 d3;go_wp2_with (fail);refine(UC ⟨a0,a1,a2,a3⟩ b1 H1.out _).mono ?_;rintro e w1 ⟨rfl,hk1⟩;clear s0 s1 s2 d0 d1 d2 d3 q0 q1 q2 q3;have HFK:=lH (HFK.out.keeps hk1 bA);have HBX:=lH (HBX.out.keeps hk1 bA);have HK1:=lH (HK0.out.trans hk1);clear hk1;cases b1 with
   | false=>
    obtain rfl:b=false:=by rw [← HB.out];exact Gr HX.out YD
    go_wp2;go_ret;exact⟨rfl,HK1.out⟩
   | true=>
    go_wp2_with (fail);rw [rounds_succ];have s0:=HFK.out.cell 0;have s1:=HFK.out.cell 1;have s2:=HFK.out.cell 2;have d0:=HBX.out.cell 0;have d1:=HBX.out.cell 1;have d2:=HBX.out.cell 2;have d3:=HBX.out.cell 3;simp only [RN,Ai,Ah,Al] at s0 s1 s2 d0 d1 d2 d3;go_wp2_with (fail);refine(S2 ⟨a0,a1,a2,a3⟩ b2 H2.out _).mono ?_;rintro e w2 ⟨rfl,hk2⟩;clear s0 s1 s2 d0 d1 d2 d3;have HFK:=lH (HFK.out.keeps hk2 bA);have HBX:=lH (HBX.out.keeps hk2 bA);have HK2:=lH (HK1.out.trans hk2);clear hk2;cases b2 with
    | false=>
     obtain rfl:b=false:=by rw [← HB.out];exact Gr HX.out YD
     go_wp2;go_ret;exact⟨rfl,HK2.out⟩
    | true=>
     go_wp2_with (fail);rw [rounds_succ];have s0:=HFK.out.cell 0;have s1:=HFK.out.cell 1;have s2:=HFK.out.cell 2;have d0:=HBX.out.cell 0;have d1:=HBX.out.cell 1;have d2:=HBX.out.cell 2;have d3:=HBX.out.cell 3;simp only [RN,Ai,Ah,Al] at s0 s1 s2 d0 d1 d2 d3;go_wp2_with (fail);refine(Qx ⟨a0,a1,a2,a3⟩ b3 H3.out _).mono ?_;rintro e w3 ⟨rfl,hk3⟩;clear s0 s1 s2 d0 d1 d2 d3;have HK3:=lH (HK2.out.trans hk3);clear hk3;cases b3 with
     | false=>
      obtain rfl:b=false:=by rw [← HB.out];exact Gr HX.out YD
      go_wp2;go_ret;exact⟨rfl,HK3.out⟩
     | true=>
      have HP2:Hid ((L.take (k+1)).all GO=true):=lH (by rw [II HX.out,HP.out,HPX.out];rfl);go_wp2_with (fail);rw [rounds_succ];go_wp2;go_roundw;case rel=>exact⟨k+1,by go_num,by omega,HP2,HK3⟩
      case measure=>simp [intOf];omega
  ·obtain rfl:k=n:=by omega
   obtain rfl:b=true:=by rw [← HB.out,← HP.out,Ax bL]
   go_wp2;go_ret;exact⟨rfl,HK.out⟩
def GW(a:Int):Bool:=decide (0≤a)&&decide (a≤4294967295)
theorem La(a:Int)(b:Bool)(hb:GW a=b)(w:World):Calls Tryz.prog 338 #[dH dN a] w fun e w'=>e = dM (dL b)∧w=w':=by
 obtain⟨b1,h1⟩:=eX (decide (0≤a));unfold GW at hb;rw [h1] at hb;have f1:decide (a≥0)=b1:=h1;clear h1;cases b1<;>simp only [D4,De] at hb<;>
 ·subst hb
  go_enter Tryz.func338,Tryz.ntmps338;go_wp2;go_ret;exact⟨rfl,rfl⟩
theorem Vo(n:Nat):wrap64 (wrap64 ((2:Int) ^ (32 - n)) - 1)=((2 ^ (32 - n) - 1:Nat):Int):=by
 have h1:(2:Int) ^ (32 - n)=((2 ^ (32 - n):Nat):Int):=by simp
 have h2:2 ^ (32 - n)≤2 ^ 32:=Nat.pow_le_pow_right bE bB;have h3:1≤2 ^ (32 - n):=Nat.one_le_two_pow;rw [h1];generalize 2 ^ (32 - n)=x at h2 h3 ⊢;have h4:(2:Nat) ^ 32=4294967296:=by decide
 have e1:wrap64 (x:Int)=(x:Int):=IntWalk.wrap64_in _ ⟨by omega,by omega⟩;rw [e1,IntWalk.wrap64_in _ ⟨by omega,by omega⟩];omega
theorem Vn(a:Int)(n:Nat)(hn:n≤32)(w:World):Calls Tryz.prog 339 #[dK #[dH dN a,dH dN (n:Int)]] w fun e w'=>e = dM (dH dN ((2 ^ (32 - n) - 1:Nat):Int))∧Aa [] w w':=by
 have HK:=lH ((Aa.refl [] w).alloc (.cells #[dH dN a,dH dN (n:Int)] 440));have hw:IntKind.i64.wrap (32 - (n:Int))=((32 - n:Nat):Int):=by rw [show 32 - (n:Int)=((32 - n:Nat):Int) by omega];exact IntWalk.i64_in _ bB
 go_enter Tryz.func339,Tryz.ntmps339;go_wp2;go_ret;exact⟨by rw [Vo];rfl,HK.out⟩
theorem KA(a b:Nat)(ha:a<9223372036854775808)(hb:b<9223372036854775808):bits .and .i64 (a:Int) (b:Int)=((a &&& b:Nat):Int):=by
 have hx:a &&& b<2 ^ 63:=Nat.and_lt_two_pow _ bB;have h1:(BitVec.ofInt 64 (a:Int)).toNat=a:=by
  rw [BitVec.ofInt_natCast,BitVec.toNat_ofNat];exact Nat.mod_eq_of_lt bB
 have h2:(BitVec.ofInt 64 (b:Int)).toNat=b:=by
  rw [BitVec.ofInt_natCast,BitVec.toNat_ofNat];exact Nat.mod_eq_of_lt bB
 show IntKind.i64.wrap ((BitVec.ofInt 64 (a:Int) &&& BitVec.ofInt 64 (b:Int)).toNat:Int)=_;rw [BitVec.toNat_and,h1,h2];exact IntWalk.i64_in _ bB
theorem RQ(a b:Nat)(ha:a<9223372036854775808)(hb:b<9223372036854775808):bits .or .i64 (a:Int) (b:Int)=((a ||| b:Nat):Int):=by
 have hx:a ||| b<2 ^ 63:=Nat.or_lt_two_pow bB bB
 have h1:(BitVec.ofInt 64 (a:Int)).toNat=a:=by
  rw [BitVec.ofInt_natCast,BitVec.toNat_ofNat];exact Nat.mod_eq_of_lt bB
 have h2:(BitVec.ofInt 64 (b:Int)).toNat=b:=by
  rw [BitVec.ofInt_natCast,BitVec.toNat_ofNat];exact Nat.mod_eq_of_lt bB
 show IntKind.i64.wrap ((BitVec.ofInt 64 (a:Int) ||| BitVec.ofInt 64 (b:Int)).toNat:Int)=_;rw [BitVec.toNat_or,h1,h2];exact IntWalk.i64_in _ bB
theorem Uy(a:Int)(n:Nat)(h0:0≤a)(h1:a≤4294967295):(bits BinOp.and dN a ((2 ^ (32 - n) - 1:Nat):Int)==0)=decide (a.toNat % 2 ^ (32 - n)=0):=by
 obtain⟨x,rfl⟩:∃x:Nat,a=x:=⟨a.toNat,by omega⟩;have h2:2 ^ (32 - n)≤2 ^ 32:=Nat.pow_le_pow_right bE bB;rw [KA _ _ bB bB,Nat.and_two_pow_sub_one_eq_mod,Int.toNat_natCast,Bool.eq_iff_iff,beq_iff_eq,decide_eq_true_iff];generalize x % 2 ^ (32 - n)=y;omega
theorem Qv(a:Int)(n:Nat)(hn:n≤32)(h0:0≤a)(h1:a≤4294967295)(b:Bool)(hb:decide (a.toNat % 2 ^ (32 - n)=0)=b)(w:World):Calls Tryz.prog 300 #[dK #[dH dN a,dH dN (n:Int)]] w fun e w'=>e = dM (dL b)∧Aa [] w w':=by
 have HK:=lH ((Aa.refl [] w).alloc (.cells #[dH dN a,dH dN (n:Int)] 440));have hB:=Blk.new w 440 #[dH dN a,dH dN (n:Int)];obtain⟨wz,hwz⟩:=eX (w.alloc (.cells #[dH dN a,dH dN (n:Int)] 440));rw [hwz] at hB HK;have HS:Hid (∀W,Aa [] wz W→Aa [] wz W∧W.cell? ⟨w,0,none⟩=some (dH dN a)∧W.cell? ⟨w,1,none⟩=some (dH dN (n:Int))):=lH fun W hk=>⟨hk,(hB.keeps hk bA).cell 0,(hB.keeps hk bA).cell 1⟩;clear hB;go_enter Tryz.func300,Tryz.ntmps300;go_wp2;clear hwz;refine wp_region_held_drew (S:=(fun w':World=>Aa [] wz w'∧w'.cell? ⟨w,0,none⟩=some (dH dN a)∧w'.cell? ⟨w,1,none⟩=some (dH dN (n:Int)))) bC (by((try dsimp only);(first | exact HS.out _ ((Aa.refl [] wz).drew) | exact HS.out _ (hHeld.1.trans hkr)))) (fun hHeld=>?_);refine rQ 0 ?_;refine rQ 1 ?_;refine rQ 2 ?_;refine rQ 3 ?_;refine rC 4 fun K hK=>?_;go_simp;refine(Vn a n hn _).mono ?_;rintro r wb ⟨rfl,hkr⟩;refine rO hK (by((try dsimp only);(first | exact HS.out _ ((Aa.refl [] wz).drew) | exact HS.out _ (hHeld.1.trans hkr)))) fun hHeld=>?_;clear hK K;refine rQ 5 ?_;refine rQ 6 ?_;refine rQ 7 ?_;refine wpAnyH_done bC ?_ _
 (go_wp2;go_ret;exact⟨Hl (by rw [Uy a n h0 h1];exact hb),HK.out.trans (by first | exact(((Aa.refl [] wz).drew).trans hkr) | exact((Aa.refl [] wz).trans hkr))⟩)
theorem OA(a n:Int)(b:Bool)(hb:(decide (0≤n)&&(decide (n≤32)&&GW a))=b)(w:World):Calls Tryz.prog 299 #[dK #[dH dN a,dH dN n]] w fun e w'=>e = dM (dL b)∧Aa [] w w':=by
 have HK:=lH ((Aa.refl [] w).alloc (.cells #[dH dN a,dH dN n] 440));obtain⟨b1,h1⟩:=eX (decide (0≤n));obtain⟨b2,h2⟩:=eX (decide (n≤32));obtain⟨b3,h3⟩:=eX (GW a);rw [h1,h2,h3] at hb;have f1:decide (n≥0)=b1:=h1;have H3:=lH h3;clear h1 h3;cases b1<;>cases b2<;>simp only [D4,De] at hb
 ·subst hb
  go_enter Tryz.func299,Tryz.ntmps299;go_wp2;go_ret;exact⟨rfl,HK.out⟩
 ·subst hb
  go_enter Tryz.func299,Tryz.ntmps299;go_wp2;go_ret;exact⟨rfl,HK.out⟩
 ·subst hb
  go_enter Tryz.func299,Tryz.ntmps299;go_wp2;go_ret;exact⟨rfl,HK.out⟩
 ·subst hb
  go_enter Tryz.func299,Tryz.ntmps299;go_wp2_with (fail);refine(La a b3 H3.out _).mono ?_;rintro e w1 ⟨rfl,rfl⟩;go_wp2;go_ret;exact⟨rfl,HK.out⟩
def TL:Array Value:=#[.func (.func 299) #[] #[],.func (.func 300) #[] #[]]
theorem I4(a n:Int)(b:Bool)(hb:EL a n=b)(w:World):Calls Tryz.prog 254 #[dK #[dH dN a,dH dN n]] w fun e w'=>e = dM (dL b)∧Aa [] w w':=by
 obtain⟨wz,hwz⟩:=eX ((w.alloc (.cells #[dH dN a,dH dN n] 55)).alloc (.cells TL 438));have HK0:Hid (Aa [] w wz):=lH (by rw [← hwz];exact((Aa.refl [] w).alloc _).alloc _);have HB0:Hid (Blk wz w.heap.size 55 #[dH dN a,dH dN n]):=lH ZW;have HB1:Hid (Blk wz (w.heap.size+1) 438 TL):=lH Xe;obtain⟨b1,h1⟩:=eX ((decide (0≤n)&&(decide (n≤32)&&GW a)));have hpb:EL a n=(b1&&decide (a.toNat % 2 ^ (32 - n.toNat)=0)):=by rw [← h1];unfold EL GW;simp only [DW]
 rw [hpb] at hb;have H1:=lH h1;have HB:=lH hb;have s0:=HB1.out.cell 0;have s1:=HB1.out.cell 1;have d0:=HB0.out.cell 0;have d1:=HB0.out.cell 1;simp only [TL,Ai,Ah,Al] at s0 s1 d0 d1;simp only [TL] at hwz;clear h1 hpb hb;go_enter Tryz.func254,Tryz.ntmps254;go_wp2;refine wp_loop_rounds 3 ?_;rw [rounds_succ];go_wp2_with (fail);refine(OA a n b1 H1.out _).mono ?_;rintro e w1 ⟨rfl,hk1⟩;have HK1:=lH (HK0.out.trans hk1);have hb0:=HB0.out.keeps hk1 bA;have hb1:=HB1.out.keeps hk1 bA;clear s0 s1 d0 d1 hk1 hwz;cases b1 with
 | false=>
  obtain rfl:b=false:=by rw [← HB.out];rfl
  go_wp2;go_ret;exact⟨rfl,HK1.out⟩
 | true=>
  have hr:=H1.out;unfold GW at hr;simp only [Af,decide_eq_true_eq] at hr;obtain⟨m,rfl⟩:∃m:Nat,n=m:=⟨n.toNat,by omega⟩;have HBB:Hid (decide (a.toNat % 2 ^ (32 - m)=0)=b):=lH (by rw [← HB.out,De,Int.toNat_natCast]);have HRR:=lH hr;have s0:=hb1.cell 0;have s1:=hb1.cell 1;have d0:=hb0.cell 0;have d1:=hb0.cell 1;simp only [TL,Ai,Ah,Al] at s0 s1 d0 d1;clear hb0 hb1 hr;go_wp2_with (fail);rw [rounds_succ];go_wp2_with (fail);refine(Qv a m (by have:=HRR.out;omega) (by have:=HRR.out;omega) (by have:=HRR.out;omega) b HBB.out _).mono ?_;rintro e w2 ⟨rfl,hk2⟩;have HK2:=lH (HK1.out.trans hk2);clear hk2 s0 s1 d0 d1;cases b with
  | false=>
   go_wp2;go_ret;exact⟨rfl,HK2.out⟩
  | true=>
   go_wp2_with (fail);rw [rounds_succ];go_wp2;go_ret;exact⟨rfl,HK2.out⟩
theorem SN(x y:Int)(b:Bool)(hb:decide (x≤y)=b)(w:World):Calls Tryz.prog 302 #[dK #[dH dN x,dH dN y]] w fun e w'=>e = dM (dL b)∧Aa [] w w':=by
 have HK:=lH ((Aa.refl [] w).alloc (.cells #[dH dN x,dH dN y] 445));subst hb;go_enter Tryz.func302,Tryz.ntmps302;go_wp2;go_ret;exact⟨rfl,HK.out⟩
theorem QE(x y:Int)(b:Bool)(hb:decide (0≤x)=b)(w:World):Calls Tryz.prog 303 #[dK #[dH dN x,dH dN y]] w fun e w'=>e = dM (dL b)∧Aa [] w w':=by
 have HK:=lH ((Aa.refl [] w).alloc (.cells #[dH dN x,dH dN y] 445));subst hb;go_enter Tryz.func303,Tryz.ntmps303;go_wp2;go_ret;exact⟨rfl,HK.out⟩
theorem OW(x y:Int)(b:Bool)(hb:decide (y≤65535)=b)(w:World):Calls Tryz.prog 304 #[dK #[dH dN x,dH dN y]] w fun e w'=>e = dM (dL b)∧Aa [] w w':=by
 have HK:=lH ((Aa.refl [] w).alloc (.cells #[dH dN x,dH dN y] 445));subst hb;go_enter Tryz.func304,Tryz.ntmps304;go_wp2;go_ret;exact⟨rfl,HK.out⟩
def PN:Array Value:=#[.func (.func 302) #[] #[],.func (.func 303) #[] #[],.func (.func 304) #[] #[]]
theorem UX(x y:Int)(fb:Nat)(ty:TypeId)(b:Bool)(hb:FR x y=b)(w:World)(hf:Blk w fb ty PN):Calls Tryz.prog 301 #[dK #[dH dN x,dH dN y],dI (some ⟨fb,0,none⟩) 3 3] w fun e w'=>e = dM (dL b)∧Aa [] w w':=by
 obtain⟨wz,hwz⟩:=eX ((w.alloc (.cells #[dH dN x,dH dN y] 57)));have HK0:Hid (Aa [] w wz):=lH Y7;have hb0:Blk wz w.heap.size 57 #[dH dN x,dH dN y]:=by rw [← hwz];exact Blk.new w _ _
 have hb1:Blk wz fb ty PN:=hf.keeps HK0.out bA;obtain⟨b1,h1⟩:=eX (decide (x≤y));obtain⟨b2,h2⟩:=eX (decide (0≤x));obtain⟨b3,h3⟩:=eX (decide (y≤65535));have hpb:FR x y=(b1&&(b2&&b3)):=by rw [← h1,← h2,← h3];unfold FR;simp only [DW]
 rw [hpb] at hb;have H1:=lH h1;have H2:=lH h2;have H3:=lH h3;have HB:=lH hb;clear h1 h2 h3 hpb hb hf;have HB0:=lH hb0;have HB1:=lH hb1;clear hb0 hb1;go_enter Tryz.func301,Tryz.ntmps301;go_wp2;refine wp_loop_rounds 4 ?_;rw [rounds_succ];have hb0:=HB0.out;have hb1:=HB1.out;clear hwz;have s0:=hb1.cell 0;have s1:=hb1.cell 1;have s2:=hb1.cell 2;have d0:=hb0.cell 0;have d1:=hb0.cell 1;simp only [PN,Ai,Ah,Al] at s0 s1 s2 d0 d1;have HB0_0:=lH hb0;have HB1_0:=lH hb1;clear hb0 hb1;go_wp2_with (fail);refine(SN x y b1 H1.out _).mono ?_;rintro e w1 ⟨rfl,hk1⟩;have HK1:=lH (HK0.out.trans hk1);have hb0:=HB0_0.out.keeps hk1 bA;have hb1:=HB1_0.out.keeps hk1 bA;clear s0 s1 s2 d0 d1 hk1;cases b1 with
 | false=>
  obtain rfl:b=false:=by rw [← HB.out];simp
  go_wp2;go_ret;exact⟨rfl,HK1.out⟩
 | true=>
  go_wp2_with (fail);rw [rounds_succ];have s0:=hb1.cell 0;have s1:=hb1.cell 1;have s2:=hb1.cell 2;have d0:=hb0.cell 0;have d1:=hb0.cell 1;simp only [PN,Ai,Ah,Al] at s0 s1 s2 d0 d1;have HB0_1:=lH hb0;have HB1_1:=lH hb1;clear hb0 hb1;go_wp2_with (fail);refine(QE x y b2 H2.out _).mono ?_;rintro e w2 ⟨rfl,hk2⟩;have HK2:=lH (HK1.out.trans hk2);have hb0:=HB0_1.out.keeps hk2 bA;have hb1:=HB1_1.out.keeps hk2 bA;clear s0 s1 s2 d0 d1 hk2;cases b2 with
  | false=>
   obtain rfl:b=false:=by rw [← HB.out];simp
   go_wp2;go_ret;exact⟨rfl,HK2.out⟩
  | true=>
   go_wp2_with (fail);rw [rounds_succ];have s0:=hb1.cell 0;have s1:=hb1.cell 1;have s2:=hb1.cell 2;have d0:=hb0.cell 0;have d1:=hb0.cell 1;simp only [PN,Ai,Ah,Al] at s0 s1 s2 d0 d1;have HB0_2:=lH hb0;have HB1_2:=lH hb1;clear hb0 hb1;go_wp2_with (fail);refine(OW x y b3 H3.out _).mono ?_;rintro e w3 ⟨rfl,hk3⟩;have HK3:=lH (HK2.out.trans hk3);have hb0:=HB0_2.out.keeps hk3 bA;have hb1:=HB1_2.out.keeps hk3 bA;clear s0 s1 s2 d0 d1 hk3;cases b3 with
   | false=>
    obtain rfl:b=false:=by rw [← HB.out];simp
    go_wp2;go_ret;exact⟨rfl,HK3.out⟩
   | true=>
    go_wp2_with (fail);rw [rounds_succ];obtain rfl:b=true:=by rw [← HB.out];rfl
    go_wp2;go_ret;exact⟨rfl,HK3.out⟩
theorem Ls(x y:Int)(b:Bool)(hb:FR x y=b)(w:World):Calls Tryz.prog 255 #[dK #[dH dN x,dH dN y]] w fun e w'=>e = dM (dL b)∧Aa [] w w':=by
 have HK0:=lH (((Aa.refl [] w).alloc (.cells #[dH dN x,dH dN y] 57)).alloc (.cells PN 443));have HB1:=lH (Aq (w.alloc (.cells #[dH dN x,dH dN y] 57)) 443 PN (w.heap.size+1) bA);have HB:=lH hb;clear hb;go_enter Tryz.func255,Tryz.ntmps255;go_wp2_with (fail);refine(UX x y _ 443 b HB.out _ HB1.out).mono ?_;rintro e w1 ⟨rfl,hk1⟩;have HK1:=lH (HK0.out.trans hk1);clear hk1;go_wp2;go_ret;exact⟨rfl,HK1.out⟩
theorem G2(r:EW)(b:Bool)(hb:Jj r=b)(w:World):Calls Tryz.prog 208 #[dK (L_ r)] w fun e w'=>e = dM (dL b)∧Aa [] w w':=by
 obtain⟨al,a,n,x,y⟩:=r;dsimp only at hb ⊢;obtain⟨b1,h1⟩:=eX (EL a n);obtain⟨b2,h2⟩:=eX (FR x y);have hp:Jj ⟨al,a,n,x,y⟩=(b1&&b2):=by rw [← h1,← h2];rfl
 rw [hp] at hb;have HK0:=lH ((Aa.refl [] w).alloc (.cells #[dL al,dH dN a,dH dN n,dH dN x,dH dN y] 316));have HB0:=lH (Blk.new w 316 #[dL al,dH dN a,dH dN n,dH dN x,dH dN y]);have H1:=lH h1;have H2:=lH h2;have HB:=lH hb;clear h1 h2 hp hb;go_enter Tryz.func208,Tryz.ntmps208;go_wp2_with (fail);refine(I4 a n b1 H1.out _).mono ?_;rintro e w1 ⟨rfl,hk1⟩;have HK1:=lH (HK0.out.trans hk1);have hb0:=HB0.out.keeps hk1 bA;have d3:=hb0.ce 3;have d4:=hb0.ce 4;clear hk1 hb0;cases b1 with
 | false=>
  obtain rfl:b=false:=by rw [← HB.out];rfl
  go_wp2;go_ret;exact⟨rfl,HK1.out⟩
 | true=>
  obtain rfl:b=b2:=by rw [← HB.out];rfl
  go_wp2_with (fail);refine(Ls x y b H2.out _).mono ?_;rintro e w2 ⟨rfl,hk2⟩;have HK2:=lH (HK1.out.trans hk2);clear hk2;go_wp2;go_ret;exact⟨rfl,HK2.out⟩
def Wd:Array Value:=#[.func (.func 208) #[] #[]]
theorem NR(a:Option Addr)(c:Nat)(L:List EW)(n:Nat)(hn:L.length=n)(hL:n≤1000000)(fb:Nat)(ty:TypeId)(b:Bool)(hb:L.all Jj=b)(w:World)(h:AJ B7 5 w a c L)(hf:Blk w fb ty Wd):
  Calls Tryz.prog 207 #[dI a n c,dI (some ⟨fb,0,none⟩) 1 1] w fun e w'=>e = dM (dL b)∧Aa [] w w':=by
 have HH:=lH h;have HN:=lH hn;have HB:=lH hb;have HF:=lH hf;clear h hn hb hf;go_enter Tryz.func207,Tryz.ntmps207;go_wp2;go_loopw [11] (fun i wr=>∃k:Nat,i = dH dN k∧k≤n∧Hid ((L.take k).all Jj=true)∧Hid (Aa [] w wr)) (fun i _=>n - (intOf i).toNat)
 case atStart=>exact⟨0,rfl,Cy _,lH rfl,lH (Aa.refl _ _)⟩
 case round=>
  obtain⟨k,rfl,hk,HP,HK⟩:=hrel;by_cases hlt:k<n
  ·obtain⟨g,off,⟨a0,a1,a2,a3,a4⟩,rfl,hg,hx,hat⟩:=HH.out.at_k (k:=k) bO
   have q0:=hat 0 (dL a0) rfl;have q1:=hat 1 (dH dN a1) rfl;have q2:=hat 2 (dH dN a2) rfl;have q3:=hat 3 (dH dN a3) rfl;have q4:=hat 4 (dH dN a4) rfl;rw [CG] at q0;rw [← HK.out.cell (p:=⟨g,off+k*5,none⟩) hg bA] at q0;rw [← HK.out.cell (p:=⟨g,off+k*5+1,none⟩) hg bA] at q1;rw [← HK.out.cell (p:=⟨g,off+k*5+2,none⟩) hg bA] at q2;rw [← HK.out.cell (p:=⟨g,off+k*5+3,none⟩) hg bA] at q3;rw [← HK.out.cell (p:=⟨g,off+k*5+4,none⟩) hg bA] at q4;have i1:(0:Int)≤(k:Int):=by omega
   have i2:(k:Int)<(n:Int):=by omega
   obtain⟨b1,hb1⟩:=eX (Jj ⟨a0,a1,a2,a3,a4⟩);have hp:Jj ⟨a0,a1,a2,a3,a4⟩=(b1):=by rw [← hb1];try(rfl)
   have HX:=lH hx;have HPX:=lH hp;have H1:=lH hb1;have hk0:=HK.out.alloc (.cells #[dL a0,dH dN a1,dH dN a2,dH dN a3,dH dN a4] 59);have hbx:=Blk.new wr 59 #[dL a0,dH dN a1,dH dN a2,dH dN a3,dH dN a4];have hfk:=HF.out.keeps hk0 bA;have HK0:=lH hk0;have HBX:=lH hbx;have HFK:=lH hfk;clear hat hg hx hp hb1 hk0 hbx hfk;go_wp2;refine wp_loop_rounds 2 ?_;rw [rounds_succ];have s0:=HFK.out.cell 0;have d0:=HBX.out.cell 0;have d1:=HBX.out.cell 1;have d2:=HBX.out.cell 2;have d3:=HBX.out.cell 3;have d4:=HBX.out.cell 4;simp only [Wd,Ai,Ah,Al] at s0 d0 d1 d2 d3 d4;go_wp2_with (fail);refine(G2 ⟨a0,a1,a2,a3,a4⟩ b1 H1.out _).mono ?_;rintro e w1 ⟨rfl,hk1⟩;clear s0 d0 d1 d2 d3 d4 q0 q1 q2 q3 q4;have HK1:=lH (HK0.out.trans hk1);clear hk1;cases b1 with
   | false=>
    obtain rfl:b=false:=by rw [← HB.out];exact Gr HX.out (by rw [HPX.out];try rfl)
    go_wp2;go_ret;exact⟨rfl,HK1.out⟩
   | true=>
    have HP2:Hid ((L.take (k+1)).all Jj=true):=lH (by rw [II HX.out,HP.out,HPX.out];try rfl);go_wp2_with (fail);rw [rounds_succ];go_wp2;go_roundw;case rel=>exact⟨k+1,by go_num,by omega,HP2,HK1⟩
    case measure=>simp [intOf];omega
  ·obtain rfl:k=n:=by omega
   obtain rfl:b=true:=by rw [← HB.out,← HP.out,Ax bL]
   go_wp2;go_ret;exact⟨rfl,HK.out⟩
theorem It(a:Option Addr)(c:Nat)(L:List EW)(n:Nat)(hn:L.length=n)(hL:n≤1000000)(b:Bool)(hb:DD L=b)(w:World)(h:Mq w a c L):Calls Tryz.prog 156 #[dI a n c] w fun e w'=>e = dM (dL b)∧Aa [] w w':=by
 obtain⟨y,hy⟩:=eX (L.all Jj);have hbb:b=(decide (n≤16)&&y):=by rw [← hb];unfold DD;rw [hy,hn]
 have HBB:=lH hbb;have HY:=lH hy;have HN:=lH hn;have HH:=lH h;clear hb hy hbb hn h;by_cases h10:n≤16
 ·have i3:(n:Int)≤16:=by omega
  obtain rfl:b=y:=by rw [HBB.out,decide_eq_true h10];rfl
  have HF:=lH (Blk.new w 314 Wd);have HKF:=lH ((Aa.refl [] w).alloc (.cells Wd 314));clear h10;go_enter Tryz.func156,Tryz.ntmps156;go_wp2_with (fail);refine(NR a c L n HN.out hL _ _ b HY.out _ (HH.out.keeps HKF.out) HF.out).mono ?_;rintro e w1 ⟨rfl,hk1⟩;have HK1:=lH (HKF.out.trans hk1);clear hk1;go_wp2;go_ret;exact⟨rfl,HK1.out⟩
 ·have i3:¬(n:Int)≤16:=by omega
  obtain rfl:b=false:=by rw [HBB.out,decide_eq_false h10];rfl
  clear h10;go_enter Tryz.func156,Tryz.ntmps156;go_wp2;go_ret;exact⟨rfl,Aa.refl [] w⟩
structure IG(w:World)(tb:Nat)(v:D3)(s:Ff)(gn un fn:Nat):Prop where
 blk:Blk w tb 252 (S_ v gn un fn)
 m:Dp w v s
 lg:s.gens.length=gn
 lu:s.used.length=un
 lf:s.free.length=fn
theorem IG.keeps{w w':World}{tb:Nat}{v:D3}{s:Ff}{gn un fn:Nat}(h:IG w tb v s gn un fn)(hk:Aa [] w w'):IG w' tb v s gn un fn:={ h with blk:=h.blk.keeps hk bA,m:=h.m.keeps hk }
theorem IG.cells{w:World}{tb:Nat}{v:D3}{s:Ff}{gn un fn:Nat}(h:IG w tb v s gn un fn):w.cell? ⟨tb,0,none⟩=some (dI v.ga gn v.gc)∧w.cell? ⟨tb,1,none⟩=some (dI v.ua un v.uc)∧w.cell? ⟨tb,2,none⟩=some (dI v.fa fn v.fc):=⟨h.blk.cell 0,h.blk.cell 1,h.blk.cell 2⟩
def JY(gn un:Nat):Bool:=decide (1≤gn)&&decide (gn≤64)&&decide (un=gn)
theorem Qw(tb:Nat)(v:D3)(s:Ff)(gn un fn:Nat)(b:Bool)(hb:JY gn un=b)(w:World)(h:IG w tb v s gn un fn):
  Calls Tryz.prog 152 #[dJ (some ⟨tb,0,none⟩)] w fun e w'=>e = dM (dL b)∧Aa [] w w':=by
 obtain⟨q0,q1,q2⟩:=h.cells;clear h;by_cases h1:1≤gn
 ·have i1:(1:Int)≤(gn:Int):=by omega
  by_cases h2:gn≤64
  ·have i2:(gn:Int)≤64:=by omega
   by_cases h3:un=gn
   ·subst h3
    obtain rfl:b=true:=by rw [← hb];simp [JY,h1,h2]
    clear hb h1 h2;go_enter Tryz.func152,Tryz.ntmps152;go_wp2;go_quiet (fail);go_wp2;go_ret;exact⟨rfl,(Aa.refl [] w).drewN _⟩
   ·have i3:((un:Int)==(gn:Int))=false:=by simp;omega
    obtain rfl:b=false:=by rw [← hb];simp [JY,h3]
    clear hb h1 h2 h3;go_enter Tryz.func152,Tryz.ntmps152;go_wp2;go_quiet (fail);go_wp2;go_ret;exact⟨rfl,(Aa.refl [] w).drewN _⟩
  ·have i2:decide ((gn:Int)≤64)=false:=decide_eq_false bB
   obtain rfl:b=false:=by rw [← hb];simp [JY,h2]
   clear hb h1 h2;go_enter Tryz.func152,Tryz.ntmps152;go_wp2;go_quiet (fail);go_wp2;go_ret;exact⟨rfl,(Aa.refl [] w).drewN _⟩
 ·have i1:decide ((1:Int)≤(gn:Int))=false:=decide_eq_false bB
  obtain rfl:b=false:=by rw [← hb];simp [JY,h1]
  clear hb h1;go_enter Tryz.func152,Tryz.ntmps152;go_wp2;go_quiet (fail);go_wp2;go_ret;exact⟨rfl,(Aa.refl [] w).drewN _⟩
def Ny(n:Int):Bool:=decide (0≤n)&&decide (n≤1000000000)
theorem Nl(n:Int)(b:Bool)(hb:Ny n=b)(w:World):Calls Tryz.prog 205 #[dH dN n] w fun e w'=>e = dM (dL (!b))∧w=w':=by
 by_cases h1:n<0
 ·obtain rfl:b=false:=by rw [← hb];simp [Ny];omega
  clear hb;go_enter Tryz.func205,Tryz.ntmps205;go_wp2;go_ret;exact⟨rfl,rfl⟩
 ·have h1':0≤n:=by omega
  by_cases h2:1000000000<n
  ·obtain rfl:b=false:=by rw [← hb];simp [Ny];omega
   clear hb;go_enter Tryz.func205,Tryz.ntmps205;go_wp2;go_ret;exact⟨rfl,rfl⟩
  ·have h2':n≤1000000000:=by omega
   obtain rfl:b=true:=by rw [← hb];simp [Ny];omega
   clear hb h1 h2;go_enter Tryz.func205,Tryz.ntmps205;go_wp2;go_ret;exact⟨Hl bG,rfl⟩
theorem Nz(a:Option Addr)(c:Nat)(L:List Int)(n:Nat)(hn:L.length=n)(hL:n≤1000000)(b:Bool)(hb:L.all Ny=b)(w:World)(h:Ik w a c L):
  Calls Tryz.prog 253 #[dI a n c,.func (.func 205) #[] #[]] w fun r w'=>(∃i:Int,r = dM (dH dN i)∧(decide (0≤i) = !b))∧w=w':=by
 have HH:=lH h;have HN:=lH hn;have HB:=lH hb;clear h hn hb;go_enter Tryz.func253,Tryz.ntmps253;go_wp2;go_loopw [5,8] (fun _ i wr=>∃k:Nat,k≤n∧i = dH dN k∧Hid ((L.take k).all Ny=true)∧w=wr) (fun _ i _=>n - (intOf i).toNat)
 case atStart=>exact⟨0,Cy _,rfl,lH rfl,rfl⟩
 case round=>
  obtain⟨k,hk,rfl,HO,rfl⟩:=hrel;by_cases hlt:k<n
  ·obtain⟨g,off,x,rfl,hg,hx,hat⟩:=HH.out.at_k (k:=k) bO
   have q0:=hat 0 (dH dN x) rfl;rw [CG,Nat.mul_one] at q0;have i1:(0:Int)≤(k:Int):=by omega
   have i2:(k:Int)<(n:Int):=by omega
   obtain⟨y,hy⟩:=eX (Ny x);have HX:=lH hx;have HY:=lH hy;clear hat hg hx hy;go_wp2_with (fail);refine(Nl x y HY.out _).mono ?_;rintro r w2 ⟨rfl,rfl⟩;cases y with
   | true=>
    have HO2:Hid ((L.take (k+1)).all Ny=true):=lH (by rw [II HX.out,HO.out,HY.out];rfl);go_wp2;go_roundw;case rel=>exact⟨k+1,by omega,by go_num,HO2,trivial⟩
    case measure=>simp [intOf];omega
   | false=>
    obtain rfl:b=false:=by rw [← HB.out];exact Gr HX.out HY.out
    go_wp2;go_ret;exact⟨⟨_,rfl,by simp⟩,rfl⟩
  ·obtain rfl:k=n:=by omega
   obtain rfl:b=true:=by
    rw [← HB.out];have:=HO.out
    rwa [Ax bL] at this
   go_wp2;go_ret;exact⟨⟨_,rfl,by simp⟩,rfl⟩
theorem Ki(a:Option Addr)(c:Nat)(L:List Int)(n:Nat)(hn:L.length=n)(hL:n≤1000000)(b:Bool)(hb:L.all Ny=b)(w:World)(h:Ik w a c L):
  Calls Tryz.prog 206 #[dI a n c,.func (.func 205) #[] #[]] w fun r w'=>r = dM (dL (!b))∧w=w':=by
 have HH:=lH h;have HN:=lH hn;have HB:=lH hb;clear h hn hb;go_enter Tryz.func206,Tryz.ntmps206;go_wp2_with (fail);refine(Nz a c L n HN.out hL b HB.out w HH.out).mono ?_;rintro r w' ⟨⟨i,rfl,hi⟩,rfl⟩;go_wp2;go_ret;exact⟨rfl,rfl⟩
theorem NW(tb:Nat)(v:D3)(s:Ff)(gn un fn:Nat)(b:Bool)(hb:Rt s.gens=b)(w:World)(h:IG w tb v s gn un fn):
  Calls Tryz.prog 153 #[dJ (some ⟨tb,0,none⟩)] w fun e w'=>e = dM (dL b)∧w=w':=by
 obtain⟨q0,q1,q2⟩:=h.cells;have hl:=h.m.sg;rw [h.lg] at hl;have HC:=lH (Ki v.ga v.gc s.gens gn h.lg bB b hb w h.m.g);clear h hb;go_enter Tryz.func153,Tryz.ntmps153;go_wp2_with (fail);refine HC.out.mono ?_;rintro r w' ⟨rfl,rfl⟩;go_wp2;go_ret;exact⟨Hl bA,rfl⟩
theorem Ih:∀(u u':List Bool) (g g':List Int) (i:Nat),u.length=g.length→usedL i (u++u') (g++g')=usedL i u g++usedL (i+u.length) u' g'
 | [],u',[],g',i,_=>by simp [usedL]
 | true::u,u',z::g,g',i,h=>by
  simp only [Ao,Nat.add_right_cancel_iff] at h;simp only [A6,usedL,Ih u u' g g' (i+1) h,Ao];rw [show i+1+u.length=i+(u.length+1) by omega]
 | false::u,u',z::g,g',i,h=>by
  simp only [Ao,Nat.add_right_cancel_iff] at h;simp only [A6,usedL,Ih u u' g g' (i+1) h,Ao];rw [show i+1+u.length=i+(u.length+1) by omega]
 | [],_,_::_,_,_,h=>by simp at h
 | _::_,_,[],_,_,h=>by simp at h
def Gk(s:Ff)(k:Nat):List (Int×Int):=usedL 0 (s.used.take k) (s.gens.take k)
theorem QW{s:Ff}{k:Nat}{b:Bool}{z:Int}(h1:s.used[k]? = some b)(h2:s.gens[k]? = some z):Gk s (k+1)=Gk s k++(if b then [((k:Int),z)] else []):=by
 unfold Gk;have l1:=(Ad.1 h1).1;have l2:=(Ad.1 h2).1;rw [AB h1,AB h2,Ih _ _ _ _ _ ZU];rw [A7,BI,DP bB];cases b<;>simp [usedL]
theorem Tr(s:Ff)(h:s.used.length=s.gens.length)(k:Nat):Gk s k <+: usedL 0 s.used s.gens:=by
 unfold Gk;have:=Ih (s.used.take k) (s.used.drop k) (s.gens.take k) (s.gens.drop k) 0 (by rw [A7,A7,h]);rw [Bj,Bj] at this;rw [this];exact List.prefix_append _ _
def OD(h:Int×Int):Array Value:=#[dK #[dH dN h.1,dH dN h.2]]
theorem P6(p:Addr)(w:World):Calls Tryz.prog 150 #[dJ (some p)] w fun r w'=>r = dM (.func (.func 204) #[] #[dJ (some ⟨w,0,none⟩)])∧w.alloc (.cells #[dJ (some p)] 250)=w':=by
 go_enter Tryz.func150,Tryz.ntmps150;go_wp2;go_ret;exact⟨rfl,rfl⟩
theorem VL(n l pb tb:Nat)(v:D3)(s:Ff)(gn fn:Nat)(hg1000:gn≤1000)(J Jx:List (Int×Int)→World→Prop)(W:World)(hV:∀z A,J z A→A.cell? ⟨pb,0,none⟩=some (dJ (some ⟨tb,0,none⟩))∧IG A tb v s gn gn fn)
 (hY:∀pre x W1,J pre W1→pre++[x] <+: usedL 0 s.used s.gens→YieldAt Ba (n - 1) Tryz.prog l (OD x) W1 fun e W'=>
   (e = dM (dL true)∧J (pre++[x]) W')∨(e = dM (dL false)∧Jx (pre++[x]) W'))
 (h0:J [] W):
  CallsIn Ba n Tryz.prog 204 #[.func (.yield l) #[] #[],dJ (some ⟨pb,0,none⟩)] W fun e W'=>(∃v,e = dM v)∧
   (J (usedL 0 s.used s.gens) W'∨(∃pre,pre <+: usedL 0 s.used s.gens∧Jx pre W')):=by
 have HV:=lH hV;have HY:=lH hY;have HJ0:Hid (J (Gk s 0) W):=lH (by simpa [Gk,usedL] using h0);obtain⟨p0,hT0⟩:=hV _ _ h0;obtain⟨c0,c1,c2⟩:=hT0.cells;have hlu:=hT0.lu;have hlg:=hT0.lg;have HLU:=lH hlu;have HLG:=lH hlg;clear hV hY h0 hT0 hlu hlg;have hn1:Fence.wide.depth.isSome=true→1≤n:=by intro h;cases h
 refine callsIn_of_wp Tryz.func204 rfl trivial ?_ rfl;simp only [Tryz.ntmps204,Cx,Ao,Eh,Nat.reduceAdd,Nat.reduceSub,Bc,Bd,By,B0,AX,A6];gi_wp2;refine Br (wpIn_seq (wpIn_label ?_));gi_wp2
 gi_loopw [11] (fun i wr=>∃k:Nat,i = dH dN k∧k≤gn∧Hid (J (Gk s k) wr)) (fun i _=>gn - (intOf i).toNat)
 case atStart=>exact⟨0,rfl,Cy _,HJ0⟩
 case round=>
  obtain⟨k,rfl,hk,HJs⟩:=hrel;clear p0 c0 c1 c2;obtain⟨p0,hT⟩:=HV.out _ _ HJs.out;obtain⟨c0,c1,c2⟩:=hT.cells;by_cases hlt:k<gn
  ·have i1:(0:Int)≤(k:Int):=by omega
   have i2:(k:Int)<(gn:Int):=by omega
   obtain⟨g1,o1,b,ha1,_,hx1,hat1⟩:=hT.m.u.at_k (k:=k) (by rw [HLU.out];exact hlt);obtain⟨g2,o2,z,ha2,_,hx2,hat2⟩:=hT.m.g.at_k (k:=k) (by rw [HLG.out];exact hlt);have q1:=hat1 0 (dL b) rfl;have q2:=hat2 0 (dH dN z) rfl;rw [CG,Nat.mul_one] at q1 q2;rw [ha2] at c0;rw [ha1] at c1;have hsn:=QW hx1 hx2;rw [ha1];clear hT hat1 hat2 hx1 hx2 ha1 ha2;cases b with
   | false=>
    have HJ3:Hid (J (Gk s (k+1)) wr):=lH (by rw [hsn];simpa using HJs.out);clear hsn;gi_wp2;refine⟨(fun f hf=>by cases hf),?_⟩;gi_wp2;go_roundw;case rel=>exact⟨k+1,by go_num,by omega,HJ3⟩
    case measure=>simp [intOf];omega
   | true=>
    have hpre:Gk s k++[((k:Int),z)] <+: usedL 0 s.used s.gens:=by
     have:=Tr s (by rw [HLU.out,HLG.out]) (k+1);rw [hsn] at this;exact this
    have hy0:=Cv (HY.out _ _ _ HJs.out hpre);rw [show Gk s k++[((k:Int),z)]=Gk s (k+1) by rw [hsn];rfl] at hy0 hpre;obtain⟨fnn,tmps,assign,body,hy,hR⟩:=hy0;simp only [OD] at hy;have HPRE:=lH hpre;clear hsn hpre;gi_wp2;refine⟨hn1,?_⟩;refine hR.mono ?_;rintro e W3 ⟨g,rfl,hT,hF⟩;clear hR hy p0 c0 c1 c2 q1 q2;cases g with
    | false=>
     have hJx:=lH (hF.out rfl);clear hT hF;gi_wp2;try rw [AH]
     go_end0
     exact⟨⟨_,rfl⟩,.inr ⟨_,HPRE.out,hJx.out⟩⟩
    | true=>
     have HJ3:=lH (hT.out rfl);clear hT hF;gi_wp2;go_roundw;case rel=>exact⟨k+1,by go_num,by omega,HJ3⟩
     case measure=>simp [intOf];omega
  ·obtain rfl:k=gn:=by omega
   clear hT;gi_wp2;try rw [AH]
   go_end0
   refine⟨⟨_,rfl⟩,.inl ?_⟩;have:=HJs.out;unfold Gk at this
   rwa [Ax (by rw [HLU.out];exact Ap _),Ax (by rw [HLG.out];exact Ap _)] at this
theorem P7(n pb tb:Nat)(v:D3)(s:Ff)(gn fn:Nat)(hg:gn≤1000):
  NQ Ba n Tryz.prog 204 #[dJ (some ⟨pb,0,none⟩)] OD (usedL 0 s.used s.gens) (fun A=>A.cell? ⟨pb,0,none⟩=some (dJ (some ⟨tb,0,none⟩))∧IG A tb v s gn gn fn):=fun l J Jx W _ _ hV hY h0=>
 VL n l pb tb v s gn fn hg J Jx W hV hY h0
end
end Go.Proofs.YtcjdkbgdahgjbaaGreatDoor
