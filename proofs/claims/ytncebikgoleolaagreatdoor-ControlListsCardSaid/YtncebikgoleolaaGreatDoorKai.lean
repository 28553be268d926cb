/- Steps. -/
import Derived.Test.YtncebikgoleolaaGreatDoorKad
import Derived.Test.YtncebikgoleolaaGreatDoorKar
import Derived.Test.YtncebikgoleolaaGreatDoorKax
import Derived.Lib.SmallJoins
import Derived.Lib.AppendIntMem
import Derived.Deep.DeepCutAuto
set_option maxRecDepth 100000
set_option maxHeartbeats 8000000
set_option linter.all false
namespace Go.Proofs.YtncebikgoleolaaGreatDoor
open Tryz
open _root_.Go renaming undef→UD
open _root_.Array renaming getElem?_eq_some_iff→Ai,replicate_succ→Bt,replicate_zero→Bu
open _root_.Bool renaming and_eq_true→Af,eq_iff_iff→DI,false_and→Ep,true_and→DJ
open Builtin renaming append_→BI
open _root_.ByteArray renaming size_append→pX
open Ending renaming returned→pJ
open Exit renaming noGoto_normal→AY
open Fence renaming wide→Bx
open IntKind renaming i64→pK
open Lib renaming index→E4,toList_data→C9
open _root_.List renaming all_eq_true→Bm,append_toArray→BD,cons_append→AL,getElem?_cons_zero→Aj,getElem?_eq_some_iff→Ad,getElem_mem→pS,length_append→Al,length_cons→Av,length_map→Bd,length_nil→D4,length_range→AP,length_singleton→Bp,map_append→pO,mem_append→AQ,mem_cons→Ac,mem_map→BO,mem_of_getElem?→CD,mem_singleton→Ag,nil_append→BH,not_mem_nil→Ab,push_toArray→Cd,range_succ→B3,range→AC,size_toArray→Cz,take_append_drop→Dn,take_of_length_le→Ak
open _root_.Nat renaming add_mul→qL,add_zero→AT,le_refl→Aw,le_trans→A8,mul_one→pR,reduceAdd→pL,reduceSub→pM,zero_le→Ba
open Oper renaming semAt_some→pN
open _root_.Option renaming isSome_iff_exists→C6
open Program renaming fieldsOf→CK
open Value renaming agg→pH,bool→pI,int→pE,pointer→pG,slice→pF,string→Dz
open World renaming block_lt_of_cell?→Be,ownsRow_nil→BQ,size_alloc→Eo
section
open Go.RowKit Go.Shelf
theorem iA(w:World)(b:Nat):(method 657 488 (p_ b 0) "Replace").run prog w = .ok (383,p_ b 0) w:=bC
attribute [local go_sem] pN Lr Ls Lp Lq iA
attribute [local go_sem ↓] wp_at_zero wp_at_succ
theorem VM(s:ByteArray)(c:UInt8)(w:World):Calls prog 385 #[Dz s,Dz ⟨#[c]⟩] w fun e w'=>e = pJ (I_ (s.data.toList.count c:Nat))/\w'=w:=strings_Count_one s c w
theorem Mn(D E oc:Nat)(s:ByteArray)(hs:s.size<=1000)(w:World)(hb:Blk w D 434 (NI 0 0 (.int .u32 0) .nilIface (pF (some (A_ E 0)) 4 oc)))(hS:AR Gf 1 w (some (A_ E 0)) oc dF)(hne:E≠D):
  Calls prog 242 #[pG (some (A_ D 0)),Dz s] w fun e w'=>e = pJ (Dz ⟨(CM s.data.toList).toArray⟩)/\Aa [D] w w':=by
 obtain⟨g,off,he,hlt,B⟩:=hS.at_ bE;injection he with he
 injection he with h1 h2 _
 subst h1 h2;have G:=Yj D E 0 oc .nilIface (.int .u32 0) w hb (B 0 bE 0 _ rfl) (B 1 bE 0 _ rfl) (B 2 bE 0 _ rfl) (B 3 bE 0 _ rfl) hlt hne;clear hb hS hne hlt B;go_enter func242,ntmps242;go_wp2_with fail
 with_reducible refine G.mono ?_
 rintro e w1 ⟨rfl,J,F,hb1,hk1⟩;have M:=hb1.rl;simp only [NI] at M;have HB:=On VM J s hs w1 F;clear F hb1;go_wp2_with fail
 with_reducible refine HB.mono ?_
 rintro e w2 ⟨rfl,hk2⟩;go_wp2_with fail;go_ret;exact⟨rfl,hk1.trans (hk2.mono bA)⟩
theorem PL:∀l:List UInt8,Lib.containsAny l [32,34,92]=l.any (fun b=>b==32||b==34||b==92):=by
 intro l;have D:∀l:List UInt8,(0<=Lib.indexAny l [32,34,92])=(l.any (fun b=>b==32||b==34||b==92)=true):=by
  intro l;induction l with
  | nil=>simp [Lib.indexAny]
  | cons b l ih=>
   have E:=Lib.indexAny_ge [32,34,92] l;rw [List.any_cons];by_cases h:(b==32||b==34||b==92)=true
   ·have B:([32,34,92]:List UInt8).contains b=true:=by simpa [or_assoc] using h
    simp only [Lib.indexAny,B,if_true,h,Bool.true_or];simp
   ·have B:([32,34,92]:List UInt8).contains b=false:=by simpa [or_assoc] using h
    simp only [Bool.not_eq_true] at h;simp only [Lib.indexAny,B,h,Bool.false_or];rw [<- ih];simp;split<;>omega
 unfold Lib.containsAny;rw [DI,decide_eq_true_iff,D]
theorem Sx(l:List UInt8):((⟨#[34]⟩++⟨l.toArray⟩:ByteArray)++⟨#[34]⟩:ByteArray)=⟨(34::(l++[34])).toArray⟩:=by
 apply ByteArray.ext;simp
theorem UW(W:World):AR Gf 1 (W.alloc (.cells #[Dz ⟨#[34]⟩,Dz ⟨#[92,34]⟩,Dz ⟨#[92]⟩,Dz ⟨#[92,92]⟩] 9)) (some (A_ W 0)) 4 dF:=
 ⟨by decide,(fun h=>by cases h),fun _=>⟨W,0,rfl,by simp,fun i hi j u hj=>by
  rw [(Blk.new W 9 _).cell];have hj0:j=0:=by
   have:=(Ad.1 hj).1;simpa [Gf] using this
  subst hj0;simp only [Gf,Aj] at hj;have B:i<4:=hi
  match i,B with
  | 0,_=>exact hj
  | 1,_=>exact hj
  | 2,_=>exact hj
  | 3,_=>exact hj⟩⟩
def Mr(s:ByteArray):Value:=match Gj s.data.toList with
 | .error k=>.tuple #[Dz ⟨#[]⟩,.iface 182 (pH #[pE pK k])]
 | .ok t=>.tuple #[Dz ⟨t.toArray⟩,.nilIface]
theorem WD(s:ByteArray)(w:World):Calls prog 220 #[Dz s] w fun e w'=>e = pJ (Mr s)/\Aa [] w w':=by
 obtain⟨b1,hb1⟩:=eX (decide ((64:Int)<(s.size:Int)));obtain⟨b2,hb2⟩:=eX (Hc s);have HB1:=lH hb1;have HB2:=lH hb2;clear hb2;obtain⟨Y,U⟩:=eX (CU [(b1,14),(!b2,11)]);have G:=lH U;clear U;go_enter func220,ntmps220;go_wp2_with fail;refine(Jl s b2 HB2.o w).mono ?_;rintro e w1 ⟨rfl,hk1⟩;have HK1:=lH hk1;clear hk1;go_wp2_with fail;refine(CY (some (A_ w1 0)) 2 [(b1,14),(!b2,11)] 2 rfl bB Y G.o _ (NM w1 b1 (!b2) 14 11)).mono ?_;rintro e w2 ⟨rfl,hk2⟩;have HK2:=lH ((HK1.o.alloc _).trans hk2);clear hk2 hb1;have hL:s.data.toList.length=s.size:=bA
 cases b1 with
 | true=>
  obtain rfl:Y=some 14:=G.o.symm;have D:Mr s = .tuple #[Dz ⟨#[]⟩,.iface 182 (pH #[pE pK 14])]:=by
   have h:=of_decide_eq_true HB1.o;unfold Mr Gj;rw [if_pos bB]
  replace D:=lH D;simp only [FZ];go_wp2_with fail;go_ret2;exact⟨by rw [D.o];rfl,HK2.o⟩
 | false=>
  have ai:s.size<=64:=by have:=of_decide_eq_false HB1.o;omega
  cases b2 with
  | false=>
   obtain rfl:Y=some 11:=G.o.symm;have D:Mr s = .tuple #[Dz ⟨#[]⟩,.iface 182 (pH #[pE pK 11])]:=by
    have h:=HB2.o;unfold Hc at h;unfold Mr Gj;rw [if_neg bB,if_pos (show s.data.toList.all Cw=false from h)]
   replace D:=lH D;simp only [FZ];go_wp2_with fail;go_ret2;exact⟨by rw [D.o];rfl,HK2.o⟩
  | true=>
   obtain rfl:Y=none:=G.o.symm;have D:Mr s = .tuple #[Dz ⟨(textW s.data.toList).toArray⟩,.nilIface]:=by
    have h:=HB2.o;unfold Hc at h;unfold Mr Gj;rw [if_neg bB,if_neg (by rw [show s.data.toList.all Cw=true from h];decide)]
   replace D:=lH D;simp only [FZ];have E:∀(j:Nat) b,s.data.toList[j]? = some b->b.toNat<128:=fun j b hj=>by
    have h:=HB2.o;unfold Hc at h;have:=(Bm.1 h) b (CD hj);unfold GM at this;simp only [Af,decide_eq_true_eq] at this;omega
   have HCA:=fun W=>strings_ContainsAny_laid s ⟨#[32,34,92]⟩ W bB bE E (fun j b hj=>by
    have:=CD hj;simp only [Ac,Ab,or_false] at this;rcases this with rfl | rfl | rfl<;>decide)
   obtain⟨q,hq⟩:=eX ((Lib.containsAny s.data.toList [32,34,92]));simp only [show(⟨#[32,34,92]⟩:ByteArray).data.toList = [32,34,92] from rfl,hq] at HCA;rw [PL] at hq;have HQ:=lH hq;have J:(CM s.data.toList).length<=128:=by
    rw [Hp];have:=List.countP_le_length (p:=qB) (l:=s.data.toList);omega
   have HCA:=lH HCA;have ag:=lH E;clear hq E;cases hne:(s != ⟨#[]⟩) with
   | false=>
    have T:s=⟨#[]⟩:=aV;have HS0:=lH T;have hE:s.toList.isEmpty=true:=by rw [T,C9];rfl
    clear T;go_wp2_with fail;refine(Nv (some (A_ w2 0)) 4 _ (UW w2)).mono ?_;rintro e w3 ⟨rb,og,oc,rfl,F,hb,hS,B,hk3⟩;have HR:=Mn rb og oc s bB w3 hb hS B;have N:=lH ((HK2.o).trans (((Aa.refl [] w2).alloc _).trans hk3));have M:=lH (A8 (((Aa.refl [] w2).alloc (.cells #[Dz ⟨#[34]⟩,Dz ⟨#[92,34]⟩,Dz ⟨#[92]⟩,Dz ⟨#[92,92]⟩] 9)).size) F);clear hb hS B hk3 F;go_wp2_with fail
    with_reducible refine HR.mono ?_
    rintro e w4 ⟨rfl,hk4⟩;obtain⟨x,hx⟩:∃x:ByteArray,(⟨(CM s.data.toList).toArray⟩:ByteArray)=x:=⟨_,rfl⟩;have ad:x.size<=128:=by rw [<- hx];show((CM s.data.toList).toArray).size<=128;simpa using J
    have hx1:(⟨#[34]⟩:ByteArray).size+x.size<=9223372036854775807:=by rw [show(⟨#[34]⟩:ByteArray).size=1 from rfl];omega
    have hx2:((⟨#[34]⟩:ByteArray)++x).size+(⟨#[34]⟩:ByteArray).size<=9223372036854775807:=by rw [show(⟨#[34]⟩:ByteArray).size=1 from rfl,pX,show(⟨#[34]⟩:ByteArray).size=1 from rfl];omega
    rw [hx];have HX:=lH hx;clear hx;have HK4:=lH (N.o.own hk4 (fun y hy=>by simp only [Ac,Ab,or_false] at hy;subst hy;have:=M.o;have:=HK2.o.size;omega));go_wp2_with fail;go_ret2;refine⟨?_,HK4.o⟩;have hn:G7 s.data.toList=true:=by rw [HS0.o];rfl
    rw [D.o,textW,if_pos hn,<- Sx,HX.o];rfl
   | true=>
    have ab:=lH hne;have hE:s.toList.isEmpty=false:=by
     rw [C9];cases hl:s.data.toList with
     | cons=>rfl
     | nil=>
      exfalso;have:s=⟨#[]⟩:=by
       apply ByteArray.ext;exact Array.toList_eq_nil_iff.1 hl
      rw [this] at hne;exact absurd hne bE
    go_wp2_with fail;refine(HCA.o _).mono ?_;rintro e w3' ⟨rfl,X⟩;have O:Aa [] w2 w3':=Aa.of_below X [];clear X;cases q with
    | false=>
     go_wp2_with fail;go_ret2;refine⟨?_,HK2.o.trans O⟩;have hn:G7 s.data.toList=false:=by
      unfold G7;rw [HQ.o,Bool.or_false];have h:=ab.o;cases hl:s.data.toList with
      | cons=>rfl
      | nil=>
       exfalso;have:s=⟨#[]⟩:=by
        apply ByteArray.ext;exact Array.toList_eq_nil_iff.1 hl
       rw [this] at h;exact absurd h bE
     rw [D.o,textW,if_neg (by rw [hn];decide)];rfl
    | true=>
     go_wp2_with fail;refine(Nv (some (A_ w3' 0)) 4 _ (UW w3')).mono ?_;rintro e w3 ⟨rb,og,oc,rfl,F,hb,hS,B,hk3⟩;have HR:=Mn rb og oc s bB w3 hb hS B;have N:=lH ((HK2.o.trans O).trans (((Aa.refl [] w3').alloc _).trans hk3));have M:=lH (A8 (((Aa.refl [] w3').alloc (.cells #[Dz ⟨#[34]⟩,Dz ⟨#[92,34]⟩,Dz ⟨#[92]⟩,Dz ⟨#[92,92]⟩] 9)).size) F);clear hb hS B hk3 F;go_wp2_with fail
     with_reducible refine HR.mono ?_
     rintro e w4 ⟨rfl,hk4⟩;obtain⟨x,hx⟩:∃x:ByteArray,(⟨(CM s.data.toList).toArray⟩:ByteArray)=x:=⟨_,rfl⟩;have ad:x.size<=128:=by rw [<- hx];show((CM s.data.toList).toArray).size<=128;simpa using J
     have hx1:(⟨#[34]⟩:ByteArray).size+x.size<=9223372036854775807:=by rw [show(⟨#[34]⟩:ByteArray).size=1 from rfl];omega
     have hx2:((⟨#[34]⟩:ByteArray)++x).size+(⟨#[34]⟩:ByteArray).size<=9223372036854775807:=by rw [show(⟨#[34]⟩:ByteArray).size=1 from rfl,pX,show(⟨#[34]⟩:ByteArray).size=1 from rfl];omega
     rw [hx];have HX:=lH hx;clear hx;have HK4:=lH (N.o.own hk4 (fun y hy=>by simp only [Ac,Ab,or_false] at hy;subst hy;have:=M.o;have:=(HK2.o.trans O).size;omega));go_wp2_with fail;go_ret2;refine⟨?_,HK4.o⟩;have hn:G7 s.data.toList=true:=by unfold G7;rw [HQ.o,Bool.or_true]
     rw [D.o,textW,if_pos hn,<- Sx,HX.o];rfl
end
section
open Go.RowKit Go.Shelf
attribute [local go_sem] pN Lr Ls Lp Lq
attribute [local go_sem ↓] wp_at_zero wp_at_succ
theorem Np:∀l:List (List UInt8),Lib.join l [32]=D5 l
 | []=>rfl
 | [x]=>by rw [Lib.join_one];rfl
 | x::y::l=>by
  have ih:=Np (y::l);rw [D5,<- ih]
  ·simp [Lib.join,List.intercalate]
  ·intro h;cases h
theorem J3:∀(l:List (List UInt8)) (s:List UInt8),Dl (l++[s])=(Dl l).bind fun m=>(Gj s).bind fun t=>.ok (m++[t])
 | [],s=>by
  show(Gj s).bind _=_;simp only [Dl,Except.bind,BH]
 | x::l,s=>by
  rw [AL,Dl,Dl,J3 l s];cases Gj x with
  | error e=>rfl
  | ok t=>
   cases Dl l with
   | error e=>rfl
   | ok m=>
    cases Gj s with
    | error e=>rfl
    | ok u=>rfl
theorem Oe{l:List (List UInt8)}{e:Int}(h:Dl l = .error e)(r:List (List UInt8)):Dl (l++r) = .error e:=by
 induction r generalizing l with
 | nil=>rw [List.append_nil];exact h
 | cons x r ih=>
  rw [show l++x::r=(l++[x])++r by simp];refine ih ?_;rw [J3,h];rfl
def Ov(s:ByteArray):List UInt8:=s.data.toList
def Jt(L:List ByteArray):Value:=match Gc (L.map Ov) with
 | .error k=>.tuple #[Dz ⟨#[]⟩,.iface 182 (pH #[pE pK k])]
 | .ok t=>.tuple #[Dz ⟨t.toArray⟩,.nilIface]
theorem Pg(B:Nat):∀l:List (List UInt8),(∀x∈l,x.length<=B)->(D5 l).length<=l.length*(B+1)
 | [],_=>by simp [D5]
 | [x],h=>by have:=h x bA;simp [D5];omega
 | x::y::l,h=>by
  have ih:=Pg B (y::l) (fun z hz=>h z (by simp at hz ⊢;exact .inr hz));have hx:=h x bA;rw [D5]
  ·simp only [Al,Av] at ih ⊢
   rw [qL (l.length+1) 1 (B+1)];omega
  ·intro hh;cases hh
theorem Xh(s:List UInt8)(h:s.length<=64):(textW s).length<=130:=by
 have h1:=Hp s;have h2:=List.countP_le_length (p:=qB) (l:=s);unfold textW;split
 ·simp;omega
 ·omega
theorem YD(a:Option Addr)(c:Nat)(xs:List ByteArray)(n:Nat)(hn:xs.length=n)(hN:n<=1000000)(w:World)(hS:Kv w a c xs)(hl:(D5 (xs.map Ov)).length<=1000000):
  Calls prog 221 #[pF a n c,Dz ⟨#[32]⟩] w fun e w'=>e = pJ (Dz ⟨(D5 (xs.map Ov)).toArray⟩)/\Aa [] w w':=by
 cases xs with
 | nil=>
  subst hn;refine(strings_Join_none a c ⟨#[32]⟩ w).mono ?_;rintro e w' ⟨rfl,rfl⟩;exact⟨rfl,Aa.refl _ _⟩
 | cons x l=>
  obtain⟨g,off,rfl,hg,B⟩:=hS.at_ bA;have hj:∀m:List (List UInt8),Lib.join m (⟨#[32]⟩:ByteArray).data.toList=D5 m:=fun m=>Np m;have:=strings_Join g off c (x::l) ⟨#[32]⟩ w (fun j y hy=>by
   obtain⟨h1,h2⟩:=Ad.1 hy;have:=B j h1 0 (Dz y) (by rw [h2];rfl);simpa using this) hg bB hS.le (by rw [hj];exact A8 hl bE)
  rw [hj,hn] at this;exact this.mono (fun e w' h=>⟨h.1,Aa.of_below h.2 []⟩)
theorem Pq:D1 (prog.info? 9) 1=true:=bC
theorem Ss(a:Option Addr)(c n:Nat)(L:List ByteArray)(hn:L.length=n)(aj:n<=1000)(w:World)(hS:Kv w a c L):Calls prog 200 #[pF a n c] w fun e w'=>e = pJ (Jt L)/\Aa [] w w':=by
 obtain⟨b1,hb1⟩:=eX (decide ((12:Int)<(n:Int)));have HB1:=lH hb1;obtain⟨RR,Y⟩:=eX (CU [(b1,15)]);have J:=lH Y;have HS:=lH hS;have HN:=lH hn;clear Y hS hn;go_enter func200,ntmps200;go_wp2_with fail;refine(CY (some (A_ w 0)) 1 [(b1,15)] 1 rfl bB RR J.o _ (Jy w b1 15)).mono ?_;rintro e w2 ⟨rfl,hk2⟩;have HK2:=lH (((Aa.refl [] w).alloc _).trans hk2);clear hk2 hb1;cases b1 with
 | true=>
  obtain rfl:RR=some 15:=J.o.symm;have N:Hi (Jt L = .tuple #[Dz ⟨#[]⟩,.iface 182 (pH #[pE pK 15])]):=lH (by
   have h:=of_decide_eq_true HB1.o;unfold Jt Gc;rw [if_pos nL])
  simp only [FZ];go_wp2_with fail;go_ret2;exact⟨by rw [N.o];rfl,HK2.o⟩
 | false=>
  obtain rfl:RR=none:=J.o.symm;have ar:n<=12:=by have:=of_decide_eq_false HB1.o;omega
  simp only [FZ];go_wp2_with fail;go_loopw [23,4] (fun i o wr=>∃(k:Nat) (m:List (List UInt8)),i = I_ k/\k<=n/\Hi (Dl ((L.take k).map Ov) = .ok m)/\Hi (m.length=k)/\Hi (wr.ownsRow w 9 1 o (m.map Dk).length ((m.map Dk).flatMap Fd))/\Hi (Aa [] w wr)) (fun i _ _=>n - (intOf i).toNat)
  case atStart=>exact⟨0,[],rfl,Ba _,lH rfl,lH rfl,lH (BQ _ _ _ _),HK2⟩
  case round=>
   clear HK2;obtain⟨k,m,rfl,hk,HW,HM,HR,HK⟩:=hrel;by_cases hlt:k<n
   ·obtain⟨g,off,s,rfl,hg,hx,hat⟩:=(HS.o.keeps HK.o).at_k (k:=k) bO
    have q0:=hat 0 (Dz s) rfl;rw [AT,pR] at q0;have i1:(0:Int)<=(k:Int):=bB;have i2:(k:Int)<(n:Int):=bB;have HX:=lH hx;have HT:Hi (Dl ((L.take (k+1)).map Ov)=(Gj (Ov s)).bind fun t=>.ok (m++[t])):=lH (by
     rw [List.take_add_one,hx,Option.toList_some,pO,List.map_singleton,J3,HW.o];rfl)
    clear hat hg hx;go_wp2_with fail;refine(WD s wr).mono ?_;rintro e w3 ⟨rfl,hk3⟩;have F:=lH (HK.o.trans hk3);have hrow:=Ah HR.o hk3 (fun _ _=>by simp);clear hk3;unfold Mr;cases hw:Gj s.data.toList with
    | error e=>
     have N:Hi (Jt L = .tuple #[Dz ⟨#[]⟩,.iface 182 (pH #[pE pK e])]):=lH (by
      unfold Jt Gc;rw [if_neg nL];have h1:Dl ((L.take (k+1)).map Ov) = .error e:=by rw [HT.o,show Gj (Ov s) = .error e from hw];rfl
      have h2:=Oe h1 ((L.drop (k+1)).map Ov);rw [<- pO,Dn] at h2;rw [h2];rfl)
     clear hw hrow;simp only [];go_wp2_with fail;go_ret2;exact⟨by rw [N.o];rfl,F.o⟩
    | ok t=>
     have ag:Hi (Dl ((L.take (k+1)).map Ov) = .ok (m++[t])):=lH (by rw [HT.o,show Gj (Ov s) = .ok t from hw];rfl);obtain⟨g4,c4,W4,D,B,hk4,ak⟩:=CO (enc:=Fd) prog (t:=41) underlying41 Pq bE DY Ho hrow F.o.size (Dk t) (by rw [Bd,HM.o];omega) 41;rw [Bd,HM.o] at D;have HROW:Hi (W4.ownsRow w 9 1 (pF (some (A_ g4 0)) (k+1) c4) ((m++[t]).map Dk).length (((m++[t]).map Dk).flatMap Fd)):=lH (by
      rw [Bd,HM.o] at B;rw [pO];exact B)
     have HK4:=lH (F.o.own hk4 (fun y hy=>(hrow.lt y bU).1));have af:Hi ((m++[t]).length=k+1):=lH (by rw [Al,HM.o];rfl);simp only [Fd,Dk] at D;clear hw hrow B hk4 ak;simp only [];go_wp2_with (at_builtin;refine Au _ rfl _ _ 41 rfl rfl rfl D ?_);go_roundw;case rel=>exact⟨k+1,m++[t],by go_num,by omega,ag,af,HROW,HK4⟩
     case measure=>simp [intOf];omega
   ·obtain rfl:k=n:=bB;rw [Ak (by rw [HN.o];omega)] at HW;have E:=Kp HW.o;have M:m.map (fun x=>Ov (Dk x))=m:=by
     have:(fun x:List UInt8=>Ov (Dk x))=id:=by funext x;simp [Ov,Dk]
     rw [this,List.map_id]
    obtain⟨oa,oc,rfl,ab,_⟩:=AR.of_row DY HR.o;have aa:(D5 m).length<=2000:=by
     have h1:=Pg 130 m (fun x hx=>by
      rw [E.1] at hx;obtain⟨y,hy,rfl⟩:=BO.1 hx;exact Xh y (E.2 y hy).1)
     have:=HM.o;omega
    have HJ:=YD oa oc (m.map Dk) k (by rw [Bd,HM.o]) bB wr ab (by rw [List.map_map];exact A8 (by rw [show Ov ∘ Dk=fun x=>Ov (Dk x) from rfl,M];exact aa) bE);rw [List.map_map,show Ov ∘ Dk=fun x=>Ov (Dk x) from rfl,M] at HJ;rw [Bd,HM.o];have an:=lH E;obtain⟨x,hx⟩:∃x:ByteArray,(⟨(D5 m).toArray⟩:ByteArray)=x:=⟨_,rfl⟩;have ac:x.size=(D5 m).length:=by rw [<- hx];show(D5 m).toArray.size=_;simp
    rw [hx] at HJ;have HX:=lH hx;obtain⟨U,hb2⟩:=eX (decide ((300:Int)<(x.size:Int)));have HB2:=lH hb2;obtain⟨R2,X⟩:=eX (CU [(U,10)]);have G:=lH X;have T:=lH ac;have au:x.size<=2000:=bB;clear E M ab aa hx X ac;go_wp2_with fail
    with_reducible refine HJ.mono ?_
    rintro e w5 ⟨rfl,hk5⟩;have HK5:=lH (HK.o.trans hk5);clear hk5;go_wp2_with fail;refine(CY (some (A_ w5 0)) 1 [(U,10)] 1 rfl bB R2 G.o _ (Jy w5 U 10)).mono ?_;rintro e w6 ⟨rfl,hk6⟩;have O:=lH ((HK5.o.alloc _).trans hk6);clear hk6 hb2;have N:Hi (Jt L=if U then .tuple #[Dz ⟨#[]⟩,.iface 182 (pH #[pE pK 10])] else .tuple #[Dz x,.nilIface]):=lH (by
     unfold Jt Gc;rw [if_neg nL,HW.o];simp only [Except.bind];rw [<- HB2.o];by_cases h:300<(D5 m).length
     ·rw [if_pos h,if_pos (by rw [decide_eq_true_iff,T.o];omega)]
     ·rw [if_neg h,if_neg (by rw [decide_eq_true_iff,T.o];omega),<- HX.o])
    cases U with
    | true=>
     obtain rfl:R2=some 10:=G.o.symm;simp only [FZ];go_wp2_with fail;go_ret2;exact⟨by rw [N.o];rfl,O.o⟩
    | false=>
     obtain rfl:R2=none:=G.o.symm;simp only [FZ];go_wp2_with fail;go_ret2;exact⟨by rw [N.o];rfl,O.o⟩
def NE(L:List ByteArray):ByteArray×Int:=match Gc (L.map Ov) with
 | .error k=>(⟨#[]⟩,k)
 | .ok t=>(⟨t.toArray⟩,0)
theorem Vs(a:Option Addr)(c n:Nat)(L:List ByteArray)(hn:L.length=n)(B:n<=1000)(w:World)(hE:Et w)(hS:Kv w a c L):Calls prog 164 #[pF a n c] w fun e w'=>e = pJ (.tuple #[Dz (NE L).1,I_ (NE L).2])/\Aa [] w w':=by
 have HE:=lH hE;have HP:=Ss a c n L hn B w hS;clear hE hn hS;obtain⟨R,hR⟩:=eX (Gc (L.map Ov));unfold Jt at HP;unfold NE;rw [hR] at HP ⊢;clear hR;cases R with
 | error k=>
  simp only [] at HP ⊢;go_enter func164,ntmps164;go_wp2_with fail
  with_reducible refine HP.mono ?_
  rintro e w1 ⟨rfl,hk⟩;have HK:=lH hk;clear hk;go_wp2_with fail;refine(ErO.told_why k _ (HE.o.keeps HK.o bA)).mono ?_;rintro e w2 ⟨rfl,hk⟩;have HK2:=lH (HK.o.trans hk);clear hk;go_wp2_with fail;go_ret2;exact⟨rfl,HK2.o⟩
 | ok t=>
  simp only [] at HP ⊢;go_enter func164,ntmps164;go_wp2_with fail
  with_reducible refine HP.mono ?_
  rintro e w1 ⟨rfl,hk⟩;have HK:=lH hk;clear hk;go_wp2_with fail;refine(ErO.told_nil _).mono ?_;rintro e w2 ⟨rfl,hk⟩;have HK2:=lH (HK.o.trans hk);clear hk;go_wp2_with fail;go_ret2;exact⟨rfl,HK2.o⟩
def F5(a:Int)(k:Nat):Int:=a / (2:Int) ^ (24 - 8*k) % 256
theorem PK(x:Int)(h0:0<=x)(h1:x<=4294967295):bits .and .i64 x 255=x % 256:=by
 obtain⟨n,rfl⟩:∃n:Nat,x=n:=⟨x.toNat,by omega⟩;have h:=MJ n 255 bB bB;have h2:n &&& 255=n % 256:=Nat.and_two_pow_sub_one_eq_mod n 8;rw [h2] at h;rw [show(255:Int)=((255:Nat):Int) from rfl,h];omega
theorem TZ(a:Int)(h0:0<=a)(h1:a<=4294967295):F5 a 0=bits .and .i64 (a / 16777216) 255/\F5 a 1=bits .and .i64 (a / 65536) 255/\F5 a 2=bits .and .i64 (a / 256) 255/\F5 a 3=bits .and .i64 a 255:=by
 rw [PK _ bB bB,PK _ bB bB,PK _ bB bB,PK _ bB bB];refine⟨rfl,rfl,rfl,?_⟩;show a / 1 % 256=_;rw [Int.ediv_one]
def Nm(a:Int)(k:Nat):Array Value:=#[pE pK (F5 a k)]
theorem TA(a:Int)(w:World):Calls prog 294 #[pE pK a] w fun e w'=>e = pJ (.func (.func 307) #[] #[pG (some (A_ w 0))])/\w.alloc (.cells #[pE pK a] 3)=w':=by
 go_enter func294,ntmps294;go_wp2;go_ret;exact⟨rfl,rfl⟩
theorem T9(n l pb:Nat)(a:Int)(h0:0<=a)(h1:a<=4294967295)(J X:List Nat->World->Prop)(W:World)(Y:PG [] J)(hV:∀z A,J z A->A.cell? (A_ pb 0)=some (I_ a))
 (hY:∀pre x W1,J pre W1->pre++[x] <+: AC 4->YieldAt Bx (n - 1) prog l (Nm a x) W1 fun e W'=>
   (e = pJ (pI true)/\J (pre++[x]) W')\/(e = pJ (pI false)/\X (pre++[x]) W'))
 (M:J [] W):
  CallsIn Bx n prog 307 #[.func (.yield l) #[] #[],p_ pb 0] W fun e W'=>(∃v,e = pJ v)/\
   (J (AC 4) W'\/(∃pre,pre <+: AC 4/\X pre W')):=by
 have HV:=lH hV;have HY:=lH hY;have HST:=lH Y;have T:Hi (J (AC 0) W):=lH (by simpa using M);clear hV hY M Y;have F:Fence.wide.depth.isSome=true->1<=n:=by intro h;cases h
 refine callsIn_of_wp func307 rfl trivial ?_ rfl;simp only [ntmps307,Cz,Av,D4,pL,pM,Bt,Bu,Cd,BD,BH,AL];gi_wp2;refine BW (wpIn_seq (wpIn_label ?_));gi_wp2
 gi_loopw [3] (fun i wr=>∃k:Nat,i = I_ (24 - 8*(k:Int))/\k<=4/\Hi (J (AC k) wr)) (fun i _=>(intOf i+8).toNat)
 case atStart=>exact⟨0,rfl,Ba _,T⟩
 case round=>
  obtain⟨k,rfl,hk,G⟩:=hrel;have O:=HV.o _ _ G.o;by_cases hlt:k<4
  ·have N:=Dq (HY.o _ _ _ G.o (BZ hlt))
   rw [<- B3] at N;obtain⟨ad,tmps,assign,body,hy,hR⟩:=N;have hP:=TZ a h0 h1;have:k=0\/k=1\/k=2\/k=3:=bB;rcases this with rfl | rfl | rfl | rfl
   ·simp only [Nm] at hy
    rw [hP.1] at hy;gi_wp2;refine⟨F,?_⟩;refine hR.mono ?_;rintro e U ⟨g,rfl,E,hF⟩;clear hR hy O;cases g with
    | false=>
     have D:=lH (hF.out rfl);clear E hF;gi_wp2;try rw [AY]
     go_end0
     exact⟨⟨_,rfl⟩,.inr ⟨_,by rw [B3];exact BZ hlt,D.out⟩⟩
    | true=>
     have B:=lH (E.out rfl);clear E hF;gi_wp2;go_roundw;case rel=>exact⟨0+1,by go_num,by omega,B⟩
     case measure=>simp [intOf]
   ·simp only [Nm] at hy
    rw [hP.2.1] at hy;gi_wp2;refine⟨F,?_⟩;refine hR.mono ?_;rintro e U ⟨g,rfl,E,hF⟩;clear hR hy O;cases g with
    | false=>
     have D:=lH (hF.out rfl);clear E hF;gi_wp2;try rw [AY]
     go_end0
     exact⟨⟨_,rfl⟩,.inr ⟨_,by rw [B3];exact BZ hlt,D.out⟩⟩
    | true=>
     have B:=lH (E.out rfl);clear E hF;gi_wp2;go_roundw;case rel=>exact⟨1+1,by go_num,by omega,B⟩
     case measure=>simp [intOf]
   ·simp only [Nm] at hy
    rw [hP.2.2.1] at hy;gi_wp2;refine⟨F,?_⟩;refine hR.mono ?_;rintro e U ⟨g,rfl,E,hF⟩;clear hR hy O;cases g with
    | false=>
     have D:=lH (hF.out rfl);clear E hF;gi_wp2;try rw [AY]
     go_end0
     exact⟨⟨_,rfl⟩,.inr ⟨_,by rw [B3];exact BZ hlt,D.out⟩⟩
    | true=>
     have B:=lH (E.out rfl);clear E hF;gi_wp2;go_roundw;case rel=>exact⟨2+1,by go_num,by omega,B⟩
     case measure=>simp [intOf]
   ·simp only [Nm] at hy
    rw [hP.2.2.2] at hy;gi_wp2;refine⟨F,?_⟩;refine hR.mono ?_;rintro e U ⟨g,rfl,E,hF⟩;clear hR hy O;cases g with
    | false=>
     have D:=lH (hF.out rfl);clear E hF;gi_wp2;try rw [AY]
     go_end0
     exact⟨⟨_,rfl⟩,.inr ⟨_,by rw [B3];exact BZ hlt,D.out⟩⟩
    | true=>
     have B:=lH (E.out rfl);clear E hF;gi_wp2;go_roundw;case rel=>exact⟨3+1,by go_num,by omega,B⟩
     case measure=>simp [intOf]
  ·obtain rfl:k=4:=bB;gi_wp2;try rw [AY]
   go_end0
   exact⟨⟨_,rfl⟩,.inl G.o⟩
theorem TC(n pb:Nat)(a:Int)(h0:0<=a)(h1:a<=4294967295):
  QL Bx n prog 307 #[pG (some (A_ pb 0))] (Nm a) (AC 4) (fun A=>A.cell? (A_ pb 0)=some (I_ a)):=fun l J Jx W hJ _ hV hY hJ0=>
 T9 n l pb a h0 h1 J Jx W hJ hV hY hJ0
end
section
open Go.RowKit Go.Shelf
def Ie(w:World):Prop:=Lib.TabIs prog w "internal/strconv.uint64pow10" .u64 Lib.pow10Tab
theorem SE:∃g,prog.globalNamed "internal/strconv.uint64pow10" = some g:=by
 have h:(prog.globalNamed "internal/strconv.uint64pow10").isSome=true:=bC
 exact C6.1 h
theorem Ie.keeps{w w':World}(h:Ie w)(hk:Aa [] w w'):Ie w':=by
 obtain⟨g,hg⟩:=SE;exact Joins.tab_stays hg h (hk.below (Aw _) (fun k hk=>by cases hk)) (Aw _)
theorem G4(n:Int)(h0 : -9223372036854775808<=n)(h1:n<=9223372036854775807)(w:World)(B:Ie w):
  Calls prog 163 #[pE pK n] w fun e w'=>e = pJ (Dz (E2 n))/\Aa [] w w':=by
 refine(strconv_Itoa n h0 h1 w B).mono ?_;rintro e w' ⟨rfl,k,D,rfl⟩;refine⟨by unfold E2 str;rw [YA h0 h1],?_⟩;exact Aa.of_below (Lib.below_grow w w (Aw _) k D) []
end
section
open Go.RowKit Go.Shelf
attribute [local go_sem] pN Lr Ls Lp Lq
attribute [local go_sem ↓] wp_at_zero wp_at_succ
def Jq(a:Int)(k:Nat):ByteArray:=E2 (F5 a k)
structure eZ(w:World)(a:Int)(ns:List ByteArray)(A:World):Prop where
 run:∃x,A.ownsRow (w.heap.size+4) 9 1 x ns.length (ns.flatMap Fd)∧Blk A w.heap.size 41 #[x]
 pb:Blk A (w.heap.size+1) 3 #[pE pK a]
 kw:Aa [] w A
theorem eZ.keeps{w:World}{a:Int}{E:List ByteArray}{A D:World}{S:List Nat}(h:eZ w a E A)(hk:Aa S A D)(hS:∀y∈S,w.heap.size+2<=y/\y<w.heap.size+4):eZ w a E D:=by
 obtain⟨x,h1,h2⟩:=h.run;have hn:∀y,y<w.heap.size+2->y∉S:=fun y hy hm=>by have:=hS y hm;omega
 exact⟨⟨x,Ah h1 hk (fun g B hm=>by have:=(h1.lt g B).1;have:=hS g hm;omega),h2.keeps hk (hn _ bB)⟩,h.pb.keeps hk (hn _ bB),h.kw.own hk bM⟩
theorem Zh(a:Int)(k:Nat):0<=F5 a k/\F5 a k<=255:=by
 unfold F5;omega
theorem MV:∀(k u:Nat),(IS k u).length<=k+1
 | 0,_=>by simp [IS]
 | k+1,u=>by
  rw [IS];split
  ·simp
  ·have:=MV k (u / 10)
   simp;omega
theorem Eb(n:Int):(itoaL n).length<=22:=by
 unfold itoaL;split
 ·have:=MV 20 n.natAbs;simp;omega
 ·have:=MV 20 n.toNat;omega
theorem E7(l:List UInt8):(str l).data.toList=l:=rfl
theorem OD(a:Int):(Lib.join (((AC 4).map (Jq a)).map (·.data.toList)) [46])=FK a:=by
 show Lib.join [itoaL (F5 a 0),itoaL (F5 a 1),itoaL (F5 a 2),itoaL (F5 a 3)] [46]=_;have h3:F5 a 3=a % 256:=by show a / 1 % 256=_;rw [Int.ediv_one]
 rw [h3];simp [Lib.join,List.intercalate,FK,F5]
theorem Ig(a:Int):(FK a).length<=100:=by
 have h1:=Eb (a / 16777216 % 256);have h2:=Eb (a / 65536 % 256);have h3:=Eb (a / 256 % 256);have h4:=Eb (a % 256);unfold FK;simp;omega
theorem T8(a:Int)(ha:Jb a=true)(w:World)(hT:Ie w):Calls prog 279 #[pE pK a] w fun e w'=>e = pJ (.tuple #[Dz (str (FK a)),I_ 0])/\Aa [] w w':=by
 refine(callsIn_wide (n:=9)).1 ?_;have ac:0<=a/\a<=4294967295:=by unfold Jb at ha;simpa using ha
 have HT:=lH hT;clear hT;refine callsIn_of_wp_marks func279 rfl trivial ?_ rfl;simp only [ntmps279,Cz,Av,D4,pL,pM,Bt,Bu,Cd,BD,BH,AL];gi_wp2_with fail;refine⟨trivial,(callsIn_wide.2 (Nk a true ha _)).mono ?_⟩;rintro e w0 ⟨rfl,rfl⟩;gi_wp2_with fail;refine⟨trivial,(callsIn_wide.2 (TA a _)).mono ?_⟩;rintro e w1 ⟨rfl,hw1⟩;gi_wp2_with fail;have hsz:w1.heap.size=w.heap.size+2:=by rw [<- hw1];simp
 have ad:eZ w a [] w1:=by
  have hk:Aa [] w w1:=by rw [<- hw1];exact((Aa.refl [] w).alloc _).alloc _
  refine⟨⟨pF none 0 0,BQ _ _ _ _,?_⟩,?_,hk⟩<;>rw [<- hw1]
  ·exact(Blk.new w _ _).alloc _
  ·exact Ar _ _ _ _ bA
 have af:=lH ad;clear ad hw1;refine Cc rfl bB (gf:=307) (lb:=#[pG (some (A1 w 0))]) rfl trivial (enters_of func307 bC rfl) (TC 8 (w+1) a ac.1 ac.2) (fun _=>rfl)
  (fun B A=>eZ w a ((AC B.length).map (Jq a)) A) (fun _ _=>False)
  (fun B A A' h hk=>h.keeps hk bF)
  (fun B A A' h hk=>h)
  (fun B A h=>h.pb.cell 0) af.o
  (fun k W=>(({ tmps:=#[pE pK a,UD,Dz ⟨#[]⟩,I_ 0,p_ w 0,I_ (F5 a k),I_ a,pI true,pI false,I_ a,
     .func (.func 307) #[] #[pG (some (A1 w 0))],I_ (F5 a k),UD,UD,UD,UD,UD,UD,UD],defers:=[] } : Act),W))
  (fun k W=>Aa.refl [] W) ?assign ?body ?done ?stop
 case assign=>
  intro l k W K hK;simp only [Nm];dsimp only at hK;gi_wp2;exact hK
 case body=>
  rintro l B k W W2 hI J T hk2;obtain⟨rfl,hkn⟩:=E8 J;dsimp only at hk2 ⊢;rw [AP] at hI;have ar:W.heap.size<=W2.heap.size:=hk2.size;have D:=hI.keeps hk2 bF;have ab:Hi ((AC (AC k++[k]).length).map (Jq a)=(AC k).map (Jq a)++[Jq a k]):=lH (by rw [Al,AP,Bp,B3,pO];rfl);obtain⟨U,X⟩:=eX ((AC k).map (Jq a));have aq:U.length<=4:=by rw [<- X,Bd,AP];omega
  rw [X] at D ab;obtain⟨x,hrow,F⟩:=D.run;have q0:=F.rl;obtain⟨t,ht⟩:=eX (Jq a k);have an:=Zh a k;have aj:Hi (∀V,Aa [] W2 V->Ie V):=lH fun V hV=>(HT.o.keeps D.kw).keeps hV;have ag:Hi (∀V,Aa [] W2 V->Calls prog 163 #[pE pK (F5 a k)] V fun e w'=>e = pJ (Dz t)/\Aa [] V w'):=lH fun V hV=>by rw [<- ht];exact G4 _ bB bB V (aj.o V hV)
  have ai:Hi (∀V,Aa [] W2 V->∃g c W4,(BI #[41,41] 41 #[x,pF (some (A_ V 0)) 1 1]).run prog (V.alloc (.cells #[Dz t] 9)) = .ok (pF (some (A_ g 0)) (U.length+1) c) W4/\
    (∀i,W4.cell? (A_ w i)=#[x][i]?)/\(∀i,W4.frozen? (A_ w i)=false)/\
    Jw w1 (fun B A=>eZ w a (List.map (Jq a) (AC B.length)) A) (fun _ _=>False) (AC k++[k]) W2 .normal { tmps:=#[],defers:=[] } (W4.setCell (A_ w 0) (pF (some (A_ g 0)) (U.length+1) c))):=lH fun V hV=>by
   have N:=Ah hrow hV (fun _ _=>by simp);obtain⟨g,c,W4,O,M,hk4,az⟩:=CO (enc:=Fd) prog (t:=41) underlying41 Pq bE DY Ho N (by have:=hV.size;omega) t bB 41;have hgeS:=AZ N;have E:Aa x.ownBlock.toList W2 W4:=(hV.mono bA).trans hk4;have aa:=F.keeps E (fun hm=>by have:=hgeS _ hm;omega);have hk5:Aa [w.heap.size] W4 (W4.setCell (A_ w 0) (pF (some (A_ g 0)) (U.length+1) c)):=(Aa.refl _ _).setCell (.inl bA) _;refine⟨g,c,W4,O,aa.cell,aa.frozen,A8 E.size hk5.size,fun y hy=>?_,?_⟩
   ·simp only [Ac,Ab,or_false] at hy
    exact(hk5.block y (by have:=E.size;omega) bG).trans (E.block y bB (fun hm=>by have:=hgeS y hm;omega))
   ·show eZ w a (List.map (Jq a) (AC (AC k++[k]).length)) _
    rw [ab.o,ht];have ae:Blk (W4.setCell (A_ w 0) (pF (some (A_ g 0)) (U.length+1) c)) w 41 #[pF (some (A_ g 0)) (U.length+1) c]:=aa.set_ 0 _;refine⟨⟨_,?_,ae⟩,(D.pb.keeps E (fun hm=>by have:=hgeS _ hm;omega)).keeps hk5 bA,(D.kw.own E jW).own hk5 bF⟩;have h9:=Ah M hk5 (fun g' am hm'=>by have:=(M.lt g' am).1;simp only [Ac,Ab,or_false] at hm';omega);rw [show(U++[t]).length=U.length+1 by simp] at h9 ⊢;exact h9
  clear hI J hk2 D F hrow X ht an;gi_wp2_with fail;refine BA (S:=(fun _:World=>True)) bC bC (fun _ _ h=>h) trivial (fun hHeld=>?_)
  repeat' (first | exact rZ | refine rX ?_ | ((first | (refine rA 0 (fun K hK=>?_) ?_;go_simp) | (refine rA 2 (fun K hK=>?_) ?_;go_simp;(refine(ag.o _ ((Aa.refl [] W2).drew)).mono ?_;rintro e w3 ⟨rfl,hk3⟩;have r3:=(((Aa.refl [] W2).drew).trans hk3).rl;have hk3:=lH (((Aa.refl [] W2).drew).trans hk3))) | (refine rA 3 (fun K hK=>?_) ?_;go_simp) | (refine rA 4 (fun K hK=>?_) ?_;(obtain⟨g,c,W4,O,r4,f4,G⟩:=ai.o _ hk3.out;have G:=lH G;refine BG _ _ 41 bD bD bD bD O ?_)) | (refine rA 5 (fun K hK=>?_) ?_;go_simp));refine rO hK trivial fun hHeld=>?_;clear hK K) | (refine rQ 1 ?_) | refine rB [0,2,3,4,5] ?_ | (refine wpAnyH_done bC ?_ _;exact G.out))
 case done=>
  rintro W hI T hK;rw [hsz] at hK;have hI:eZ w a ((AC 4).map (Jq a)) W:=hI;obtain⟨x,hrow,F⟩:=hI.run;have q0:=F.rl;obtain⟨oa,oc,rfl,Y,_⟩:=AR.of_row DY hrow;have HJ:Calls prog 221 #[pF oa 4 oc,Dz ⟨#[46]⟩] W fun e w'=>e = pJ (Dz (str (FK a)))/\Aa [] W w':=by
   obtain⟨g,off,rfl,hg,hc⟩:=Y.at_ bA;have:=strings_Join g off oc ((AC 4).map (Jq a)) ⟨#[46]⟩ W (fun j y hy=>by
    obtain⟨h1,h2⟩:=Ad.1 hy;have:=hc j h1 0 (Dz y) (by rw [h2];rfl);simpa using this) hg bA Y.le (by
     rw [show(⟨#[46]⟩:ByteArray).data.toList = [46] from rfl,OD];exact A8 (Ig a) bE)
   rw [show(⟨#[46]⟩:ByteArray).data.toList = [46] from rfl,OD] at this;exact this.mono (fun e w' h=>⟨h.1,Aa.of_below h.2 []⟩)
  have HKW:=lH hI.kw;have HLT:Hi (w.heap.size+2<W.heap.size):=lH (Ai.1 hK).1;clear hI hrow F Y;gi_wp2_with fail;refine⟨trivial,(callsIn_wide.2 HJ).mono ?_⟩;rintro e w3 ⟨rfl,hk3⟩;have ak:w3.heap[w.heap.size+2]? = some (.deferred (some [])):=(hk3.block _ HLT.o bA).trans hK;have ah:=lH (HKW.o.trans hk3);clear hk3 hK;gi_wp2_with fail;refine⟨by simp,.inl ⟨_,_,rfl,run_takeDeferred ak,?_⟩⟩;have hk4:=AG (S:=[w.heap.size+2]) w3 (.deferred none) (l:=w.heap.size+2) bA;refine⟨_,by simp [results,results279,go_sem],rfl,ah.o.own hk4 bF⟩
 case stop=>
  rintro B W J hX T hK;exact hX.elim
theorem GQ(a b:List UInt8):(str a++str b:ByteArray)=str (a++b):=by
 apply ByteArray.ext;simp [str]
theorem Dw(a:List UInt8):(str a).size=a.length:=by
 show a.toArray.size=_;simp
theorem LG(a n:Int)(hb:FI a n=true)(w:World)(O:Ie w):Calls prog 257 #[pH #[pE pK a,I_ n]] w fun e w'=>e = pJ (.tuple #[Dz (str (prefixText a n)),I_ 0])/\Aa [] w w':=by
 have hp:Jb a=true/\0<=n/\n<=32:=by
  unfold FI at hb;simp only [Af,decide_eq_true_eq] at hb;unfold Jb;simp only [Af,decide_eq_true_eq];omega
 obtain⟨w0,hw0⟩:=eX (w.alloc (.cells #[pE pK a,I_ n] 55));have hk0:Aa [] w w0:=by rw [<- hw0];exact(Aa.refl [] w).alloc _
 have hb0:Blk w0 w 55 #[pE pK a,I_ n]:=by rw [<- hw0];exact Blk.new w _ _
 have U:=hb0.rl;have N:=lH O;clear O;go_enter func257,ntmps257;go_wp2_with fail;refine(Ke a n true hb w0).mono ?_;rintro e w1 ⟨rfl,hk1⟩;have hb1:=hb0.keeps hk1 bA;have X:=hb1.rl;have D:=hk0.trans hk1;clear hw0 hb0 U hk1;go_wp2_with fail;refine(T8 a hp.1 w1 (N.o.keeps D)).mono ?_;rintro e w2 ⟨rfl,hk2⟩;have hb2:=hb1.keeps hk2 bA;have Y:=hb2.rl;have E:=D.trans hk2;have M:=Ig a;obtain⟨x,hx⟩:=eX (str (FK a));have T:x.size<=100:=by rw [<- hx,Dw];exact M
 have hx1:x.size+(⟨#[47]⟩:ByteArray).size<=9223372036854775807:=by rw [show(⟨#[47]⟩:ByteArray).size=1 from rfl];omega
 have B:=G4 n bB bB;obtain⟨y,hy⟩:=eX (E2 n);have hys:y.size<=22:=by rw [<- hy,E2,Dw];exact Eb n
 have hx2:(x++(⟨#[47]⟩:ByteArray)).size+y.size<=9223372036854775807:=by rw [pX,show(⟨#[47]⟩:ByteArray).size=1 from rfl];omega
 have G:Hi ((x++(⟨#[47]⟩:ByteArray))++y=str (prefixText a n)):=lH (by
  rw [<- hx,<- hy,E2,show(⟨#[47]⟩:ByteArray)=str [47] from rfl,GQ,GQ];unfold prefixText;simp)
 rw [hx];rw [hy] at B;have F:=lH B;clear hb1 X hk2 hk0 hx hy B hb;go_wp2_with fail;refine(F.o w2 (N.o.keeps E)).mono ?_;rintro e w3 ⟨rfl,hk3⟩;have J:=E.trans hk3;go_wp2_with fail;go_ret2;exact⟨by rw [<- G.o];rfl,J⟩
theorem Mc(s:ByteArray)(B:Int)(ah:0<=B)(hm:B<=1000)(hs:s.size<=1000)(O:∀b∈s.data.toList,b.toNat<128)(w:World)(hT:Ie w):
  Calls prog 252 #[pH #[Dz s],I_ B] w fun e w'=>e = pJ (.tuple #[pE pK (CG s.data.toList B).1,pI (CG s.data.toList B).2])/\Aa [] w w':=by
 obtain⟨w0,hw0⟩:=eX (w.alloc (.cells #[Dz s] 403));have hk0:Aa [] w w0:=by rw [<- hw0];exact(Aa.refl [] w).alloc _
 have hb0:Blk w0 w 403 #[Dz s]:=by rw [<- hw0];exact Blk.new w _ _
 have q0:=hb0.rl;have HT:=lH hT;clear hT;have hN:∀(r:Option Int),Ow B s.data.toList 0=r->CG s.data.toList B=(match r with | none=>(0,false) | some n=>(n,decide (n<=B)&&itoaL n==s.data.toList)):=fun r h=>by unfold CG;rw [h];cases r<;>rfl
 obtain⟨R,hR⟩:=eX (CG s.data.toList B);rw [hR] at hN ⊢;have HN:=lH hN;clear hN hR;go_enter func252,ntmps252;go_wp2_with fail;have HB0:=lH hb0;have HK0:=lH hk0;clear hw0 hb0 hk0 q0;go_loopw [6] (fun i w'=>∃(k:Nat) (n:Int),i = I_ n/\k<=s.size/\w'=w0.iter s k/\0<=n/\n<=10009/\Hi (Ow B (s.data.toList.drop k) n=Ow B s.data.toList 0)) (fun _ w'=>s.size - w'.iterPos w0)
 case atStart=>exact⟨0,0,rfl,Ba _,rfl,by omega,by omega,lH rfl⟩
 case round=>
  obtain⟨k,n,rfl,hk,rfl,ai,aj,M⟩:=hrel;by_cases hp:k<s.size
  ·obtain⟨c,J⟩:=eX ((s[k]'hp))
   have ha:c.toNat<128:=by
    refine O c ?_;rw [<- J];exact pS kD
   have T:∀G,(Instr.next (p_ w0 0) true G).run prog (w0.iter s k) = .ok (.tuple #[pI true,I_ k,.int .i32 c.toNat]) (w0.iter s (k+1)):=fun G=>by
    have:=run_next_ascii (P:=prog) w0 s k G hp (by rw [J];exact ha);rw [J] at this;exact this
   have E:s.data.toList.drop k=c::s.data.toList.drop (k+1):=by
    rw [List.drop_eq_getElem_cons kD];rw [<- J];rfl
   have hst:=M.o;rw [E,Ow] at hst;by_cases hbad:c.toNat<48\/57<c.toNat\/B<n
   ·rw [if_pos hbad] at hst
    have HR:=lH (HN.o none hst.symm);have Y:((c.toNat:Int)<48)\/(¬((c.toNat:Int)<48)/\(57:Int)<(c.toNat:Int))\/(¬((c.toNat:Int)<48)/\¬(57:Int)<(c.toNat:Int)/\B<n):=bB;clear hst E J hbad M;rcases Y with h1 | ⟨h1,h2⟩ | ⟨h1,h2,h3⟩
    all_goals
     go_wp2_with fail;go_ret2;exact⟨by rw [HR.o];rfl,HK0.o.trans (Ff w0 s _)⟩
   ·rw [if_neg hbad] at hst
    have h1:¬((c.toNat:Int)<48):=bB;have h2:¬((57:Int)<(c.toNat:Int)):=bB;have h3:¬B<n:=bB;obtain⟨d,hd⟩:∃d:Int,(c.toNat:Int) - 48=d:=⟨_,rfl⟩;have ag:0<=d/\d<=9:=bB;have e1:IntKind.i32.wrap ((c.toNat:Int) - 48)=d:=by rw [hd];exact IntWalk.i32_in _ bB
    have e2:IntKind.i64.wrap (n*10)=n*10:=IntWalk.i64_in _ bB;have e3:IntKind.i64.wrap (n*10+d)=n*10+d:=IntWalk.i64_in _ bB;rw [hd] at hst;have U:=lH hst;have ab:n*10+d<=10009:=bB;have hn3:0<=n*10+d:=bB;clear hst E J hbad M hd;go_wp2_with fail;go_roundw;case rel=>exact⟨k+1,n*10+d,rfl,by omega,rfl,hn3,ab,U⟩
    case measure=>simp;omega
  ·obtain rfl:k=s.size:=bB;have T:∀G,(Instr.next (p_ w0 0) true G).run prog (w0.iter s s.size)=_:=fun G=>run_next_end w0 s s.size G hp;have hst:=M.o;rw [List.drop_of_length_le bA,Ow] at hst;have HR:=lH (HN.o _ hst.symm);clear hst M;go_wp2_with fail;obtain⟨wz,hwz⟩:=eX (w0.iter s s.size);have F:Aa [] w0 wz:=by rw [<- hwz];exact Ff w0 s _
   have qz:=(HB0.o.keeps F bA).rl;have D:=lH (HK0.o.trans F);rw [hwz] at T ⊢;have N:=lH (fun V (hV:Aa [] wz V)=>G4 n bB bB V (HT.o.keeps (D.o.trans hV)));obtain⟨y,hy⟩:=eX (E2 n);rw [hy] at N;have HY:Hi ((itoaL n==s.data.toList)=(y.toList==s.toList)):=lH (by rw [<- hy,C9,C9];rfl);clear hwz F hy;by_cases hmo:n<=B
   ·have f1:decide (n<=B)=true:=by simpa using hmo
    have X:=lH f1;refine wp_region_held_drew (S:=(Aa [] wz)) bC mX (fun hHeld=>?_);refine rK 0 ?_;refine rK 1 ?_;refine rK 2 ?_;refine rK 3 ?_;refine rK 4 ?_;refine rK 5 ?_;refine rK 7 ?_;refine rK 8 ?_;refine rC 6 fun K hK=>?_;go_simp;refine(N.o _ hHeld).mono ?_;rintro e wt ⟨rfl,hkt⟩;have hkt:Aa [] wz wt:=hHeld.trans hkt
    (try clear rH);refine rP hK mX fun rH hHeld=>?_;clear hK K
    refine rK 9 ?_;refine rK 10 ?_;refine rK 11 ?_;refine rK 12 ?_;refine wpAnyH_done bC ?_ _
    (go_wp2_with fail;go_ret2;exact⟨by rw [HR.o];simp only [X.o,HY.o,DJ];rfl,D.o.trans hkt⟩)
   ·have f1:decide (n<=B)=false:=by simpa using hmo
    have X:=lH f1;refine wp_region_held_drew (S:=(Aa [] wz)) bC mX (fun hHeld=>?_);refine rK 0 ?_;refine rK 1 ?_;refine rK 2 ?_;refine rK 3 ?_;refine rK 4 ?_;refine rN 5 ?_;refine rN 6 ?_;refine rN 7 ?_;refine rN 8 ?_;refine rN 9 ?_;refine rK 10 ?_;refine rK 11 ?_;refine rK 12 ?_;refine wpAnyH_done bC ?_ _
    (go_wp2_with fail;go_ret2;exact⟨by rw [HR.o];simp only [X.o,Ep];rfl,D.o.drew⟩)
end
section
open Go.RowKit Go.Shelf
def JT(w:World):Prop:=∃m,w.cell? ⟨16,0,none⟩=some (pE pK m)
theorem JT.keeps{w w':World}(h:JT w)(hk:Aa [] w w'):JT w':=by
 obtain⟨m,hm⟩:=h;exact⟨m,(hk.cell (p:=A_ 16 0) (Be w _ hm) bA).trans hm⟩
theorem UH(c:UInt8):∀l:List UInt8,Lib.cut l [c]=Du c l
 | []=>rfl
 | b::l=>by
  have ih:=UH c l;have hge:=Lib.index_ge l [c];unfold Lib.cut at ih ⊢;rw [Du];by_cases h:b=c
  ·subst h
   have:E4 (b::l) [b]=0:=by unfold E4;simp
   rw [this,if_pos rfl];simp
  ·have h0:([c]:List UInt8).isPrefixOf (b::l)=false:=by simp [List.isPrefixOf,Ne.symm h]
   have hi:E4 (b::l) [c]=if E4 l [c] == -1 then -1 else E4 l [c]+1:=by
    conv=>lhs;unfold E4
    rw [h0];rfl
   rw [if_neg h,<- ih,hi];by_cases h1:E4 l [c] = -1
   ·simp [h1]
   ·have h2:(E4 l [c] == -1)=false:=bR;have h3:0<=E4 l [c]:=bB;have h4:(E4 l [c]+1).toNat=(E4 l [c]).toNat+1:=bB;have B:0<=E4 l [c]+1:=bB;simp only [h2,Bool.false_eq_true,if_false,h3,B,if_true,h4];simp [Nat.add_right_comm]
theorem PV(s:ByteArray)(c:UInt8)(hs:s.size<=1000000)(w:World)(hm:JT w):
  Calls prog 251 #[Dz s,Dz ⟨#[c]⟩] w fun e w'=>e = pJ (.tuple #[Dz (str (Du c s.data.toList).1),Dz (str (Du c s.data.toList).2.1),pI (Du c s.data.toList).2.2])/\Aa [] w w':=by
 obtain⟨m,hm⟩:=hm;refine(strings_Cut s ⟨#[c]⟩ m w bB hm).mono ?_;rintro e w' ⟨rfl,n,rfl⟩;rw [show(⟨#[c]⟩:ByteArray).data.toList = [c] from rfl,UH];exact⟨rfl,(Aa.refl [] w).drewN n⟩
end
section
open Go.RowKit Go.Shelf
attribute [local go_sem] pN Lr Ls Lp Lq
attribute [local go_sem ↓] wp_at_zero wp_at_succ
def iE(s:ByteArray)(f0 f1 f2 f3 n:Int):Array Value:=#[Dz s,pE pK f0,pE pK f1,pE pK f2,pE pK f3,pE pK n]
def Ef(l:List UInt8):Prop:=∀b∈l,b.toNat<128
theorem Hn(c:UInt8):∀l:List UInt8,(∀b∈(Du c l).1,b∈l)/\(∀b∈(Du c l).2.1,b∈l)/\(Du c l).1.length<=l.length/\(Du c l).2.1.length<=l.length
 | []=>by simp [Du]
 | x::l=>by
  have ih:=Hn c l;rw [Du];split
  ·exact⟨fun b hb=>by simp at hb,fun b hb=>by simp [hb],by simp,by simp⟩
  ·refine⟨fun b hb=>?_,fun b hb=>by simp [ih.2.1 b hb],by simp;exact ih.2.2.1,by simp;omega⟩
   simp only [Ac] at hb ⊢;rcases hb with rfl | hb
   ·exact .inl rfl
   ·exact .inr (ih.1 b hb)
theorem Ef.cut1{l:List UInt8}(h:Ef l)(c:UInt8):Ef (Du c l).1:=fun b hb=>h b ((Hn c l).1 b hb)
theorem Ef.cut2{l:List UInt8}(h:Ef l)(c:UInt8):Ef (Du c l).2.1:=fun b hb=>h b ((Hn c l).2.1 b hb)
theorem Zi(J:Nat)(s:ByteArray)(hs:s.size<=1000)(F:Ef s.data.toList)(N f1 O T:Int)(k:Nat)(hk:k<4)(w:World)(U:Ie w)(hM:JT w)(hb:Blk w J 444 (iE s N f1 O T k)):
  Calls prog 272 #[pG (some (A_ J 0))] w fun e w'=>e = pJ (pI ((CG (Du 46 s.data.toList).1 255).2&&((Du 46 s.data.toList).2.2==decide (k+1<4))))/\
   Blk w' J 444 ((((iE s N f1 O T k).setIfInBounds (1+k) (I_ (CG (Du 46 s.data.toList).1 255).1)).setIfInBounds 0 (Dz (str (Du 46 s.data.toList).2.1))).setIfInBounds 5 (I_ ((k+1:Nat):Int)))/\Aa [J] w w':=by
 have G:=PV s 46 bB w hM;obtain⟨p,hp⟩:=eX (Du 46 s.data.toList);have D:=Hn 46 s.data.toList;have B:=F.cut1 46;rw [hp] at G D B ⊢;obtain⟨p1,p2,p3⟩:=p;simp only [] at G D B ⊢;have E:=fun W hW=>Mc (str p1) 255 bB bB (by rw [Dw];have e0:s.data.toList.length=s.size:=bA;omega) (by rw [E7];exact B) W hW;rw [E7] at E;obtain⟨n,ok,hn⟩:∃n ok,CG p1 255=(n,ok):=⟨_,_,rfl⟩;rw [hn] at E ⊢;simp only [] at E ⊢;have X:=hb.rl;have HB:=lH hb;have Y:=lH U;clear U hM hb D B F hp hn hs;simp only [iE] at X HB ⊢;go_enter func272,ntmps272;go_wp2_with fail
 with_reducible refine G.mono ?_
 rintro e w1 ⟨rfl,hk1⟩;have HK1:=lH hk1;clear hk1;go_wp2_with fail;refine(E w1 (Y.o.keeps HK1.o)).mono ?_;rintro e w2 ⟨rfl,hk2⟩;have HK2:=lH (HK1.o.trans hk2);have HB2:=lH (HB.o.keeps HK2.o bA);have q2:=HB2.o.rl;clear hk2 X;go_wp2_with fail;have:k=0\/k=1\/k=2\/k=3:=bB;rcases this with rfl | rfl | rfl | rfl
 all_goals
  have M:=fun(V:World) (hV:Aa [J] w2 V)=>HK2.o.mono (S':=[J]) bA |>.trans hV
  replace M:=lH M;go_region;cases ok<;>cases p3<;>
  ·go_wp2_with fail
   go_ret;refine⟨rfl,(((HB2.o.set_ _ _).set_ 0 _).drew.set_ 5 _),M.o _ ?_⟩;exact Aa.setCell ((Aa.setCell (Aa.setCell (Aa.refl [J] w2) (.inl bA) _) (.inl bA) _).drew) (.inl bA) _
def aI(s:ByteArray)(p:List Int):Array Value:=iE s (p.getD 0 0) (p.getD 1 0) (p.getD 2 0) (p.getD 3 0) p.length
theorem Zu(s s':ByteArray)(v:Int):∀(p:List Int) (k:Nat),p.length=k->k<4->(((aI s p).setIfInBounds (1+k) (I_ v)).setIfInBounds 0 (Dz s')).setIfInBounds 5 (I_ ((k+1:Nat):Int))=aI s' (p++[v])
 | [],k,h,_=>by subst h;rfl
 | [a],k,h,_=>by subst h;rfl
 | [a,b],k,h,_=>by subst h;rfl
 | [a,b,c],k,h,_=>by subst h;rfl
 | a::b::c::d::l,k,h,hk=>by simp at h;omega
theorem Ro(most:Int):∀(l:List UInt8) (n m:Int),0<=n->Ow most l n=some m->0<=m
 | [],n,m,hn,h=>by unfold Ow at h;injection h with h;omega
 | b::l,n,m,hn,h=>by
  rw [Ow] at h;split at h
  ·cases h
  ·rename_i hb
   exact Ro most l _ m bB h
theorem TR{l:List UInt8}{B:Int}(h:(CG l B).2=true):0<=(CG l B).1/\(CG l B).1<=B:=by
 unfold CG at h ⊢;split at h
 ·cases h
 ·rename_i n hn
  simp only [hn];simp only [Af,decide_eq_true_eq] at h;exact⟨Ro B l 0 n bB hn,h.1⟩
theorem Pt:∀(k:Nat) (s:List UInt8) (p r:List Int),Ev k s p=some r->(∀x∈p,0<=x/\x<=255)->(∀x∈r,0<=x/\x<=255)/\r.length=p.length+k
 | 0,s,p,r,h,hp=>by unfold Ev at h;injection h with h;subst h;exact⟨hp,rfl⟩
 | k+1,s,p,r,h,hp=>by
  rw [Ev] at h;split at h
  ·rename_i hc
   simp only [Af] at hc;have hin:=TR hc.1;have:=Pt k _ _ r h (fun x hx=>by
    simp only [AQ,Ag] at hx;rcases hx with hx | rfl
    ·exact hp x hx
    ·exact hin)
   exact⟨this.1,by rw [this.2,Al];simp;omega⟩
  ·cases h
theorem RJ(F U:Nat)(ty:TypeId)(s:ByteArray)(hs:s.size<=1000)(M:Ef s.data.toList)(v w:World)(hne:U≠F)(T:Aa [] v w)(X:v.heap.size<=F)(hT:Ie v)(hM:JT v)(hb:Blk w F 444 (aI s []))
 (hf:Blk w U ty #[.func (.func 272) #[pG (some (A_ F 0))] #[],.func (.func 272) #[pG (some (A_ F 0))] #[],.func (.func 272) #[pG (some (A_ F 0))] #[],.func (.func 272) #[pG (some (A_ F 0))] #[]]):
  Calls prog 273 #[pF (some (A_ U 0)) 4 4] w fun e w'=>e = pJ (pI (Ev 4 s.data.toList []).isSome)/\
   (∀p,Ev 4 s.data.toList []=some p->∃s',Blk w' F 444 (aI s' p))/\Aa [F] w w':=by
 have HE:Hi (∀W,Aa [F] w W->Ie W/\JT W):=lH fun W hW=>by
  have:=T.own hW bF;exact⟨hT.keeps this,hM.keeps this⟩
 have HB:=lH hb;have HF:=lH hf;clear hT hM hb hf T X;obtain⟨R,hR⟩:=eX (Ev 4 s.data.toList []);have HR:=lH hR;rw [hR];clear hR;go_enter func273,ntmps273;go_wp2_with fail;go_loopw [7] (fun i wr=>∃(k:Nat) (t:ByteArray) (p:List Int),i = I_ k/\k<=4/\p.length=k/\t.size<=1000/\Hi (Ef t.data.toList)/\Hi (Ev (4 - k) t.data.toList p=R)/\Hi (Blk wr F 444 (aI t p))/\Hi (Aa [F] w wr)) (fun i _=>4 - (intOf i).toNat)
 case atStart=>exact⟨0,s,[],rfl,by omega,rfl,hs,lH M,HR,HB,lH (Aa.refl _ _)⟩
 case round=>
  clear HB hs M HR;obtain⟨k,t,p,rfl,hk,hp,ht,HA,HP,HB,HK⟩:=hrel;by_cases hlt:k<4
  ·have ad:=(HF.o.keeps HK.o aV).rl
   obtain⟨m,hm⟩:∃m,4 - k=m+1:=⟨3 - k,by omega⟩;have hst:=HP.o;rw [hm,Ev] at hst;have hcut:=Hn 46 t.data.toList;have hb0:Blk wr F 444 (iE t (p.getD 0 0) (p.getD 1 0) (p.getD 2 0) (p.getD 3 0) (k:Nat)):=by
    have:=HB.o;rw [aI,hp] at this;exact this
   have HC:=Zi F t ht HA.o (p.getD 0 0) (p.getD 1 0) (p.getD 2 0) (p.getD 3 0) k hlt wr (HE.o wr HK.o).1 (HE.o wr HK.o).2 hb0;have O:iE t (p.getD 0 0) (p.getD 1 0) (p.getD 2 0) (p.getD 3 0) (k:Nat)=aI t p:=by rw [aI,hp]
   rw [O,Zu t _ _ p k hp hlt] at HC;have hd:decide (k+1<4)=decide (0<m):=by rw [DI,decide_eq_true_iff,decide_eq_true_iff];omega
   rw [hd] at HC;obtain⟨ok,N⟩:=eX (((CG (Du 46 t.data.toList).1 255).2&&(Du 46 t.data.toList).2.2==decide (0<m)));rw [N] at HC hst;obtain⟨v,hv⟩:=eX ((CG (Du 46 t.data.toList).1 255).1);rw [hv] at HC hst;have G:=lH (HA.o.cut2 46);have Y:t.data.toList.length=t.size:=bA;have J:Hi ((Du 46 t.data.toList).2.1.length<=1000):=lH bB;clear Y;obtain⟨u,hu⟩:=eX ((Du 46 t.data.toList).2.1);rw [hu] at HC hst G J;have HST:=lH hst;have HM:=lH hm;have i1:(0:Int)<=(k:Int):=bB;have i2:(k:Int)<4:=bB;clear hb0 O hd N hv hu hst hcut HB HP HA;have:k=0\/k=1\/k=2\/k=3:=bB;rcases this with rfl | rfl | rfl | rfl
   ·go_wp2_with fail
    with_reducible refine HC.mono ?_
    rintro e w3 ⟨rfl,D,hk3⟩;have E:=lH D;have B:=lH (HK.o.trans hk3);clear D hk3;cases ok with
    | false=>
     have HN:Hi (R=none):=lH lL;go_wp2_with fail;go_ret;refine⟨by rw [HN.o];rfl,fun p hp=>?_,B.o⟩;rw [HN.o] at hp;cases hp
    | true=>
     have HN:Hi (Ev (4 - (0+1)) (str u).data.toList (p++[v])=R):=lH (by
      have h1:=HST.o;have h2:=HM.o;rw [if_pos rfl] at h1;rw [E7,show 4 - (0+1)=m by omega];exact h1)
     go_wp2_with fail;go_roundw;case rel=>exact⟨0+1,str u,p++[v],by go_num,by omega,by rw [Al,hp];rfl,by rw [Dw];exact J.o,lH G.o,HN,E,B⟩
     case measure=>simp [intOf]
   ·go_wp2_with fail
    with_reducible refine HC.mono ?_
    rintro e w3 ⟨rfl,D,hk3⟩;have E:=lH D;have B:=lH (HK.o.trans hk3);clear D hk3;cases ok with
    | false=>
     have HN:Hi (R=none):=lH lL;go_wp2_with fail;go_ret;refine⟨by rw [HN.o];rfl,fun p hp=>?_,B.o⟩;rw [HN.o] at hp;cases hp
    | true=>
     have HN:Hi (Ev (4 - (1+1)) (str u).data.toList (p++[v])=R):=lH (by
      have h1:=HST.o;have h2:=HM.o;rw [if_pos rfl] at h1;rw [E7,show 4 - (1+1)=m by omega];exact h1)
     go_wp2_with fail;go_roundw;case rel=>exact⟨1+1,str u,p++[v],by go_num,by omega,by rw [Al,hp];rfl,by rw [Dw];exact J.o,lH G.o,HN,E,B⟩
     case measure=>simp [intOf]
   ·go_wp2_with fail
    with_reducible refine HC.mono ?_
    rintro e w3 ⟨rfl,D,hk3⟩;have E:=lH D;have B:=lH (HK.o.trans hk3);clear D hk3;cases ok with
    | false=>
     have HN:Hi (R=none):=lH lL;go_wp2_with fail;go_ret;refine⟨by rw [HN.o];rfl,fun p hp=>?_,B.o⟩;rw [HN.o] at hp;cases hp
    | true=>
     have HN:Hi (Ev (4 - (2+1)) (str u).data.toList (p++[v])=R):=lH (by
      have h1:=HST.o;have h2:=HM.o;rw [if_pos rfl] at h1;rw [E7,show 4 - (2+1)=m by omega];exact h1)
     go_wp2_with fail;go_roundw;case rel=>exact⟨2+1,str u,p++[v],by go_num,by omega,by rw [Al,hp];rfl,by rw [Dw];exact J.o,lH G.o,HN,E,B⟩
     case measure=>simp [intOf]
   ·go_wp2_with fail
    with_reducible refine HC.mono ?_
    rintro e w3 ⟨rfl,D,hk3⟩;have E:=lH D;have B:=lH (HK.o.trans hk3);clear D hk3;cases ok with
    | false=>
     have HN:Hi (R=none):=lH lL;go_wp2_with fail;go_ret;refine⟨by rw [HN.o];rfl,fun p hp=>?_,B.o⟩;rw [HN.o] at hp;cases hp
    | true=>
     have HN:Hi (Ev (4 - (3+1)) (str u).data.toList (p++[v])=R):=lH (by
      have h1:=HST.o;have h2:=HM.o;rw [if_pos rfl] at h1;rw [E7,show 4 - (3+1)=m by omega];exact h1)
     go_wp2_with fail;go_roundw;case rel=>exact⟨3+1,str u,p++[v],by go_num,by omega,by rw [Al,hp];rfl,by rw [Dw];exact J.o,lH G.o,HN,E,B⟩
     case measure=>simp [intOf]
  ·obtain rfl:k=4:=bB;have hst:=HP.o;rw [show 4 - 4=0 from rfl,Ev] at hst;have HST:=lH hst;clear hst;go_wp2_with fail;go_ret;refine⟨by rw [<- HST.o];rfl,fun p hp=>?_,HK.o⟩;rw [<- HST.o] at hp;injection hp with hp
   subst hp;exact⟨t,HB.o⟩
theorem Q1(a b:Int)(h0:0<=a)(h1:a<=16777215)(h2:0<=b)(h3:b<=255):bits .or .i64 (a*256) b=a*256+b:=by
 obtain⟨x,rfl⟩:∃x:Nat,a=x:=⟨a.toNat,by omega⟩;obtain⟨y,rfl⟩:∃y:Nat,b=y:=⟨b.toNat,by omega⟩;have h:=V5 (x*256) y bB bB;have h4:x*256 ||| y=x*256+y:=by
  have:=Nat.two_pow_add_eq_or_of_lt (i:=8) (b:=y) bB x;rw [show(2:Nat) ^ 8=256 from rfl,Nat.mul_comm] at this;exact this.symm
 rw [h4] at h;rw [show((x:Int)*256)=((x*256:Nat):Int) by omega,h];omega
theorem gR(B D E F:Int)(W:World):(Instr.index 442 (pH #[pE pK B,I_ D,I_ E,I_ F]) (I_ 0)).run prog W = .ok (I_ B) W:=bC
theorem gS(D B E F:Int)(W:World):(Instr.index 442 (pH #[pE pK D,I_ B,I_ E,I_ F]) (I_ 1)).run prog W = .ok (I_ B) W:=bC
theorem gT(D E B F:Int)(W:World):(Instr.index 442 (pH #[pE pK D,I_ E,I_ B,I_ F]) (I_ 2)).run prog W = .ok (I_ B) W:=bC
theorem gU(D E F B:Int)(W:World):(Instr.index 442 (pH #[pE pK D,I_ E,I_ F,I_ B]) (I_ 3)).run prog W = .ok (I_ B) W:=bC
attribute [local go_sem ↓] gR gS gT gU
def XE:Option (List Int)->Int×Int
 | none=>(0,60)
 | some p=>(p.foldl (fun a b=>a*256+b) 0,0)
theorem T7(s:ByteArray)(hs:s.size<=1000)(D:Ef s.data.toList)(w:World)(J:Ie w)(hM:JT w):
  Calls prog 253 #[Dz s] w fun e w'=>e = pJ (.tuple #[pE pK (Gv s.data.toList).1,I_ (Gv s.data.toList).2])/\Aa [] w w':=by
 obtain⟨w0,hw0⟩:=eX ((w.alloc (.cells #[Dz s,I_ 0,I_ 0,I_ 0,I_ 0,I_ 0] 444)).alloc (.cells #[.func (.func 272) #[pG (some (A_ w 0))] #[],.func (.func 272) #[pG (some (A_ w 0))] #[],.func (.func 272) #[pG (some (A_ w 0))] #[],.func (.func 272) #[pG (some (A_ w 0))] #[]] 37));obtain⟨R,hR⟩:=eX (Ev 4 s.data.toList []);have HR:=lH hR;have hk0:Aa [] w w0:=by rw [<- hw0];exact((Aa.refl [] w).alloc _).alloc _
 have hb0:Blk w0 w 444 (aI s []):=by rw [<- hw0];exact(Blk.new w _ _).alloc _
 have HA:=RJ w (w+1) 37 s hs D w w0 bB hk0 (Aw _) J hM hb0 (by rw [<- hw0];have:=Blk.new (w.alloc (.cells #[Dz s,I_ 0,I_ 0,I_ 0,I_ 0,I_ 0] 444)) 37 #[.func (.func 272) #[pG (some (A_ w 0))] #[],.func (.func 272) #[pG (some (A_ w 0))] #[],.func (.func 272) #[pG (some (A_ w 0))] #[],.func (.func 272) #[pG (some (A_ w 0))] #[]];rwa [Eo] at this);rw [hR] at HA;have HK0:=lH hk0;obtain⟨V,hV⟩:=eX (Gv s.data.toList);have G:Hi (V=XE R):=lH (by rw [<- hV,<- hR];unfold Gv XE;cases Ev 4 s.data.toList []<;>rfl);rw [hV];clear hR hV hb0 hk0 D J hM;go_enter func253,ntmps253;go_wp2_with fail
 with_reducible refine HA.mono ?_
 rintro e w1 ⟨rfl,hp,hk1⟩;have HK1:=lH (HK0.o.own hk1 bF);clear hk1;cases R with
 | none=>
  have HN:Hi (V=(0,60)):=lH G.o;clear hp;simp only [Option.isSome_none];go_wp2_with fail;go_ret2;exact⟨by rw [HN.o];rfl,HK1.o⟩
 | some p=>
  obtain⟨U,hb⟩:=hp p rfl;obtain⟨B,F⟩:=Pt 4 _ _ _ HR.o bA
  match p,F with
  | [b0,b1,b2,b3],_=>
   have h0:=B b0 bA;have h1:=B b1 bA;have h2:=B b2 bA;have h3:=B b3 bA;have HN:Hi (V=(((b0*256+b1)*256+b2)*256+b3,0)):=lH (by rw [G.o];simp [XE,List.foldl]);have q:=hb.rl;simp only [aI,iE,List.getD_cons_zero,List.getD_cons_succ] at q;have M:bits .or .i64 (0*256) b0=b0:=by rw [Q1 0 b0 bB bB h0.1 h0.2];omega
   have N:bits .or .i64 0 b0=b0:=by rw [show(0:Int)=0*256 from rfl];exact M
   have e1:=Q1 b0 b1 h0.1 bB h1.1 h1.2;have O:=Q1 (b0*256+b1) b2 bB bB h2.1 h2.2;have T:=Q1 ((b0*256+b1)*256+b2) b3 bB bB h3.1 h3.2;clear hp hb B G;simp only [Option.isSome_some];go_wp2_with fail;go_loopw [26,6] (fun i a wr=>wr=w1/\((i = I_ 0/\a = I_ 0)\/(i = I_ 1/\a = I_ b0)\/(i = I_ 2/\a = I_ (b0*256+b1))\/(i = I_ 3/\a = I_ ((b0*256+b1)*256+b2))\/(i = I_ 4/\a = I_ (((b0*256+b1)*256+b2)*256+b3)))) (fun i _ _=>4 - (intOf i).toNat)
   case atStart=>exact⟨rfl,.inl ⟨rfl,rfl⟩⟩
   case round=>
    obtain⟨rfl,⟨rfl,rfl⟩ | ⟨rfl,rfl⟩ | ⟨rfl,rfl⟩ | ⟨rfl,rfl⟩ | ⟨rfl,rfl⟩⟩:=hrel
    ·have E:IntKind.i64.wrap (0*256)=0*256:=IntWalk.i64_in _ bB
     go_wp2_with fail;go_roundw;case rel=>exact⟨trivial,.inr (.inl ⟨rfl,rfl⟩)⟩
     case measure=>simp [intOf]
    ·have E:IntKind.i64.wrap (b0*256)=b0*256:=IntWalk.i64_in _ bB
     go_wp2_with fail;go_roundw;case rel=>exact⟨trivial,.inr (.inr (.inl ⟨rfl,rfl⟩))⟩
     case measure=>simp [intOf]
    ·have E:IntKind.i64.wrap ((b0*256+b1)*256)=(b0*256+b1)*256:=IntWalk.i64_in _ bB
     go_wp2_with fail;go_roundw;case rel=>exact⟨trivial,.inr (.inr (.inr (.inl ⟨rfl,rfl⟩)))⟩
     case measure=>simp [intOf]
    ·have E:IntKind.i64.wrap (((b0*256+b1)*256+b2)*256)=((b0*256+b1)*256+b2)*256:=IntWalk.i64_in _ bB
     go_wp2_with fail;go_roundw;case rel=>exact⟨trivial,.inr (.inr (.inr (.inr (⟨rfl,rfl⟩))))⟩
     case measure=>simp [intOf]
    ·go_wp2_with fail
     go_ret2;exact⟨by rw [HN.o];rfl,HK1.o⟩
theorem XD(s:List UInt8):(Gv s).2=0\/(Gv s).2=60:=by
 unfold Gv;split<;>simp
theorem LF(s:ByteArray)(hs:s.size<=1000)(E:Ef s.data.toList)(w:World)(hT:Ie w)(hM:JT w):
  Calls prog 232 #[Dz s] w fun e w'=>e = pJ (.tuple #[pH #[pE pK (Fv s.data.toList).1.1,I_ (Fv s.data.toList).1.2],I_ (Fv s.data.toList).2])/\Aa [] w w':=by
 obtain⟨w0,hw0⟩:=eX (w.alloc (.cells #[pE pK 0,I_ 0] 55));have hk0:Aa [] w w0:=by rw [<- hw0];exact(Aa.refl [] w).alloc _
 have hb0:Blk w0 w 55 #[pE pK 0,I_ 0]:=by rw [<- hw0];exact Blk.new w _ _
 have J:=PV s 47 bB w0 (hM.keeps hk0);have N:=Hn 47 s.data.toList;have F:=E.cut1 47;have G:=E.cut2 47;have hl:s.data.toList.length=s.size:=bA;obtain⟨V,hV⟩:=eX (Fv s.data.toList);rw [hV];unfold Fv at hV;obtain⟨p,hp⟩:=eX (Du 47 s.data.toList);rw [hp] at J N F G hV;obtain⟨p1,p2,p3⟩:=p;simp only [] at J N F G hV;have B:=fun W hW=>Mc (str p2) 32 bB bB (by rw [Dw];omega) (by rw [E7];exact G) W hW;have D:=fun W hW aa=>T7 (str p1) (by rw [Dw];omega) (by rw [E7];exact F) W hW aa;rw [E7] at B D;obtain⟨n,ok,hn⟩:∃n ok,CG p2 32=(n,ok):=⟨_,_,rfl⟩;obtain⟨a,e,ha⟩:∃a e,Gv p1=(a,e):=⟨_,_,rfl⟩;have he:=XD p1;rw [ha] at he;rw [hn] at B hV;rw [ha] at D hV;simp only [] at B D hV he;have HT:=lH hT;have HM:=lH hM;have HK0:=lH hk0;have U:=lH hV;have B:=lH B;have D:=lH D;have HB0:=lH hb0;clear hT hM N F G hn ha hp hl hV hk0 E hs hb0;go_enter func232,ntmps232;go_wp2_with fail
 with_reducible refine J.mono ?_
 rintro r w1 ⟨rfl,hk1⟩;have HK1:=lH (HK0.o.trans hk1);have HB1:=lH (HB0.o.keeps hk1 bA);clear hk1 hw0;go_wp2_with fail;refine(B.o w1 (HT.o.keeps HK1.o)).mono ?_;rintro r w2 ⟨rfl,hk2⟩;have HK2:=lH (HK1.o.trans hk2);have HB2:=lH (HB1.o.keeps hk2 bA);clear hk2;go_wp2_with fail;refine(D.o w2 (HT.o.keeps HK2.o) (HM.o.keeps HK2.o)).mono ?_;rintro r w3 ⟨rfl,hk3⟩;have Y:=lH (HK2.o.trans hk3);have T:=lH (HB2.o.keeps hk3 bA);clear hk3;have r3:=T.o.rl;go_upto_region 5 with fail
 obtain⟨w4,hw4⟩:=eX (w3.alloc (.cells #[pE pK a,I_ n] 55));have HB4:Hi (Blk w4 w 55 #[pE pK 0,I_ 0]):=lH (by rw [<- hw4];exact T.o.alloc _);have O:Hi (Blk w4 w3 55 #[pE pK a,I_ n]):=lH (by rw [<- hw4];exact Blk.new w3 _ _);have HK4:Hi (Aa [] w w4):=lH (by rw [<- hw4];exact Y.o.alloc _);have r4:=HB4.o.rl;have s4:=O.o.rl;rw [hw4];clear hw4 r3;cases ok with
 | false=>
  have HN:Hi (V=((0,0),61)):=lH (by rw [<- U.o];simp);go_wp2_with fail;have M:=(((HB4.o.set_ 0 (I_ 0)).set_ 1 (I_ 0))).cell;refine bodyPost_ret (v:=.tuple #[pH #[pE pK 0,I_ 0],I_ 61]) (by simp [results,results232,go_sem,M]) rfl ⟨by rw [HN.o],?_⟩;exact HK4.o.own (((Aa.refl [w.heap.size] _).setCell (.inl bA) _).setCell (.inl bA) _) bF
 | true=>
  rcases he with rfl | rfl
  ·obtain⟨b,hb⟩:=eX (FI a n)
   have HR:=Ke a n b hb w4;have HB:=lH hb;clear hb;go_wp2_with fail
   with_reducible refine HR.mono ?_
   rintro r w5 ⟨rfl,hk5⟩;have HB5:=lH (HB4.o.keeps hk5 bA);have X:=lH (O.o.keeps hk5 bA);have HK5:=lH (HK4.o.trans hk5);have r5:=HB5.o.rl;have s5:=X.o.rl;clear hk5 r4 s4;cases b with
   | false=>
    have HN:Hi (V=((0,0),61)):=lH (by rw [<- U.o];simp [HB.o]);go_wp2_with fail;have M:=(((HB5.o.set_ 0 (I_ 0)).set_ 1 (I_ 0))).cell;refine bodyPost_ret (v:=.tuple #[pH #[pE pK 0,I_ 0],I_ 61]) (by simp [results,results232,go_sem,M]) rfl ⟨by rw [HN.o],?_⟩;exact HK5.o.own (((Aa.refl [w.heap.size] _).setCell (.inl bA) _).setCell (.inl bA) _) bF
   | true=>
    have HN:Hi (V=((a,n),0)):=lH (by rw [<- U.o];simp [HB.o]);go_wp2_with fail;have M:=(((HB5.o.set_ 0 (I_ a)).set_ 1 (I_ n))).cell;refine bodyPost_ret (v:=.tuple #[pH #[pE pK a,I_ n],I_ 0]) (by simp [results,results232,go_sem,M]) rfl ⟨by rw [HN.o],?_⟩;exact HK5.o.own (((Aa.refl [w.heap.size] _).setCell (.inl bA) _).setCell (.inl bA) _) bF
  ·have f1:((60:Int) != 0)=true:=bE;have HN:Hi (V=((0,0),61)):=lH (by rw [<- U.o];simp);go_wp2_with fail;have M:=(((HB4.o.set_ 0 (I_ 0)).set_ 1 (I_ 0))).cell;refine bodyPost_ret (v:=.tuple #[pH #[pE pK 0,I_ 0],I_ 61]) (by simp [results,results232,go_sem,M]) rfl ⟨by rw [HN.o],?_⟩;exact HK4.o.own (((Aa.refl [w.heap.size] _).setCell (.inl bA) _).setCell (.inl bA) _) bF
theorem Jr(s:ByteArray)(D:Ef s.data.toList)(w:World):
  Calls prog 293 #[pH #[Dz s]] w fun e w'=>e = pJ (I_ (GG s.data.toList 0))/\Aa [] w w':=by
 obtain⟨w0,hw0⟩:=eX (w.alloc (.cells #[Dz s] 447));have hk0:Aa [] w w0:=by rw [<- hw0];exact(Aa.refl [] w).alloc _
 have hb0:Blk w0 w 447 #[Dz s]:=by rw [<- hw0];exact Blk.new w _ _
 have q0:=hb0.rl;obtain⟨R,hR⟩:=eX (GG s.data.toList 0);have HR:=lH hR;rw [hR];have HK0:=lH hk0;clear hR hb0 hk0;go_enter func293,ntmps293;go_wp2_with fail;clear hw0 q0;go_loopw [3] (fun i w'=>∃(k:Nat) (n:Int),i = I_ n/\k<=s.size/\w'=w0.iter s k/\0<=n/\n<=65535/\Hi (GG (s.data.toList.drop k) n=R)) (fun _ w'=>s.size - w'.iterPos w0)
 case atStart=>exact⟨0,0,rfl,Ba _,rfl,by omega,by omega,HR⟩
 case round=>
  clear HR;obtain⟨k,n,rfl,hk,rfl,Y,aa,G⟩:=hrel;by_cases hp:k<s.size
  ·obtain⟨c,E⟩:=eX ((s[k]'hp))
   have U:c.toNat<128:=by
    refine D c ?_;rw [<- E];exact pS kD
   have O:∀B,(Instr.next (p_ w0 0) true B).run prog (w0.iter s k) = .ok (.tuple #[pI true,I_ k,.int .i32 c.toNat]) (w0.iter s (k+1)):=fun B=>by
    have:=run_next_ascii (P:=prog) w0 s k B hp (by rw [E];exact U);rw [E] at this;exact this
   have F:s.data.toList.drop k=c::s.data.toList.drop (k+1):=by
    rw [List.drop_eq_getElem_cons kD];rw [<- E];rfl
   have hst:=G.o;rw [F,GG] at hst;obtain⟨d,N⟩:∃d:Int,(c.toNat:Int) - 48=d:=⟨_,rfl⟩;have X : -48<=d/\d<=79:=bB;have e1:IntKind.i32.wrap ((c.toNat:Int) - 48)=d:=by rw [N];exact IntWalk.i32_in _ bB
   have e2:IntKind.i64.wrap (n*10)=n*10:=IntWalk.i64_in _ bB;have T:IntKind.i64.wrap (n*10+d)=n*10+d:=IntWalk.i64_in _ bB;rw [N] at hst;have HST:=lH hst;obtain⟨m,hm⟩:=eX (n*10+d);rw [hm] at T HST;clear hst F E N G;by_cases hbad:m<0\/65535<m
   ·have HR:Hi (R = -1):=lH (by have:=HST.o;rw [if_pos hbad] at this;exact this.symm)
    have M:(m<0)\/(¬(m<0)/\(65535:Int)<m):=bB;clear hbad;rcases M with h1 | ⟨h1,h2⟩
    all_goals
     go_wp2_with fail;go_ret;exact⟨by rw [HR.o];rfl,HK0.o.trans (Ff w0 s _)⟩
   ·have J:Hi (GG (s.data.toList.drop (k+1)) m=R):=lH (by have:=HST.o;rw [if_neg hbad] at this;exact this)
    have h1:¬m<0:=bB;have h2:¬(65535:Int)<m:=bB;have h3:0<=m:=bB;have h4:m<=65535:=bB;clear hbad;go_wp2_with fail;go_roundw;case rel=>exact⟨k+1,m,rfl,by omega,rfl,h3,h4,J⟩
    case measure=>simp;omega
  ·obtain rfl:k=s.size:=bB;have O:∀B,(Instr.next (p_ w0 0) true B).run prog (w0.iter s s.size)=_:=fun B=>run_next_end w0 s s.size B hp;have hst:=G.o;rw [List.drop_of_length_le bA,GG] at hst;have HR:=lH hst;clear hst G;go_wp2_with fail;go_ret;exact⟨by rw [<- HR.o];rfl,HK0.o.trans (Ff w0 s _)⟩
theorem Si(w:World):Calls prog 278 #[] w fun e w'=>e = pJ (pH #[pE pK 0,I_ 65535])/\Aa [] w w':=by
 have HK:=lH ((Aa.refl [] w).alloc (.cells #[pE pK 0,I_ 65535] 57));have B:=(Blk.new w 57 #[pE pK 0,I_ 65535]).cell;go_enter func278,ntmps278;go_wp2_with fail;exact bodyPost_ret (v:=pH #[pE pK 0,I_ 65535]) (by simp [results,results278,go_sem,B]) rfl ⟨rfl,HK.o⟩
theorem iD(a b x y:Int)(w:World):(binOp .eql 57 (pH #[pE pK a,I_ x]) (pH #[pE pK b,I_ y])).run prog w = .ok (pI (decide ((a,x)=(b,y)))) w:=by
 have hS:prog.underlying 57=some (.struct (prog.fieldsOf 57)):=bC;have hp:prog.stoodInHeld 57=false:=bC;rw [run_eql_struct,show(10000:Nat)=9999+1 from rfl,run_equalIn_agg w 9999 57 _ _ hS hp];simp only [CK,underlying57];go_simp;by_cases h1:a=b<;>by_cases h2:x=y<;>simp [h1,h2]
theorem N6(f t:Int)(w:World)(hT:Ie w)(E:Nat->Addr)(hE:Fp w E):
  Calls prog 255 #[pH #[pE pK f,I_ t]] w fun e w'=>e = pJ (.tuple #[Dz (str (Dp f t).1),I_ (Dp f t).2])/\Aa [] w w':=by
 obtain⟨w0,hw0⟩:=eX (w.alloc (.cells #[pE pK f,I_ t] 57));have hk0:Aa [] w w0:=by rw [<- hw0];exact(Aa.refl [] w).alloc _
 have hb0:Blk w0 w 57 #[pE pK f,I_ t]:=by rw [<- hw0];exact Blk.new w _ _
 obtain⟨V,hV⟩:=eX (Dp f t);rw [hV];unfold Dp at hV;obtain⟨b,hb⟩:=eX (Hd f t);have U:=lH (N7 f t b hb);have HBB:=lH hb;rw [hb] at hV;have HV:=lH hV;have HK0:=lH hk0;have HB0:=lH hb0;have HT:=lH hT;have HE:=lH hE;have q0:=hb0.rl;clear hV hb hk0 hb0 hT hE;go_enter func255,ntmps255;go_wp2_with fail;refine(U.o w0).mono ?_;rintro r w1 ⟨rfl,hk1⟩;have HK1:=lH (HK0.o.trans hk1);have HB1:=lH (HB0.o.keeps hk1 bA);have q1:=HB1.o.rl;clear hk1 q0 hw0;cases b with
 | false=>
  have HN:Hi (V=([],70)):=lH HV.o.symm;have e1:=(HE.o.keep HK1.o).cell 11 bA;go_wp2_with fail;refine(Ll w1 (HE.o.keep HK1.o)).mono ?_;rintro e w2 ⟨rfl,rfl⟩;go_wp2_with fail;go_ret2;exact⟨by rw [HN.o];rfl,HK1.o⟩
 | true=>
  have D:0<=f/\f<=t/\t<=65535:=by
   have:=HBB.o;unfold Hd at this;simp only [Af,decide_eq_true_eq] at this;omega
  have B:=HV.o;rw [if_pos rfl] at B;replace B:=lH B;obtain⟨c,Y⟩:=eX (decide ((f,t)=((0:Int),(65535:Int))));have ad:∀W,(binOp .eql 57 (pH #[pE pK f,I_ t]) (pH #[pE pK 0,I_ 65535])).run prog W = .ok (pI c) W:=fun W=>by rw [iD,Y]
  have HC:Hi (decide (f=0/\t=65535)=c):=lH (by rw [<- Y];simp);clear Y;go_upto_region 3 with fail
  go_cut [10] (fun x wc=>x = pI c/\Hi (Aa [] w1 wc))
  case first=>
   refine wp_region_held_drew (S:=(Aa [] w1)) bC (by((try dsimp only);(first | exact(Aa.refl [] w1).drew | exact hkt))) (fun hHeld=>?_);refine rK 0 ?_;refine rC 1 fun K hK=>?_;go_simp;refine(Si _).mono ?_;rintro e wt ⟨rfl,hkt⟩;have hkt:Aa [] w1 wt:=hHeld.trans hkt
   (try clear rH);refine rP hK (by((try dsimp only);(first | exact(Aa.refl [] w1).drew | exact hkt))) fun rH hHeld=>?_;clear hK K
   refine rK 2 ?_;refine rK 3 ?_;refine wpAnyH_done bC ?_ _
   (go_wp2_with fail;go_meet;exact⟨rfl,lH hkt⟩)
  obtain⟨rfl,M⟩:=hcut;have hkt:=M.o
  rename World=>w2
  have HK2:=lH (HK1.o.trans hkt);have HB2:=lH (HB1.o.keeps hkt bA);have q2:=HB2.o.rl;clear hkt M q1;cases c with
  | true=>
   have h0:=of_decide_eq_true HC.o;have HN:Hi (V=([42],0)):=lH (by rw [<- B.o];simp [h0]);clear h0;go_wp2_with fail;go_ret2;exact⟨by rw [HN.o];rfl,HK2.o⟩
  | false=>
   have h0:=of_decide_eq_false HC.o;have F:=lH (fun n (h0:(0:Int)<=n) (h1:n<=65535) (W:World) (hW:Aa [] w W)=>G4 n bB bB W (HT.o.keeps hW));by_cases hft2:f=t
   ·subst hft2
    have HN:Hi (V=(itoaL f,0)):=lH (by rw [<- B.o];simp [h0]);clear h0;go_wp2_with fail;refine(F.o f D.1 D.2.2 w2 HK2.o).mono ?_;rintro e w3 ⟨rfl,hk3⟩;have T:=lH (HK2.o.trans hk3);clear hk3;go_wp2_with fail;go_ret2;exact⟨by rw [HN.o];rfl,T.o⟩
   ·have HN:Hi (V=(itoaL f++45::itoaL t,0)):=lH (by rw [<- B.o];simp [h0,hft2])
    have f1:(f==t)=false:=by simpa using hft2
    obtain⟨x,hx⟩:=eX (E2 f);obtain⟨y,hy⟩:=eX (E2 t);have ae:x.size<=22:=by rw [<- hx,E2,Dw];exact Eb f
    have hys:y.size<=22:=by rw [<- hy,E2,Dw];exact Eb t
    have hx1:¬9223372036854775807<x.size+1:=bB;have hx2:¬9223372036854775807<x.size+1+y.size:=bB;have X:Hi ((x++(⟨#[45]⟩:ByteArray))++y=str (itoaL f++45::itoaL t)):=lH (by
     rw [<- hx,<- hy,E2,E2,show(⟨#[45]⟩:ByteArray)=str [45] from rfl,GQ,GQ];simp)
    have G:=F.o f D.1 bB;have J:=F.o t bB D.2.2;rw [hx] at G;rw [hy] at J;have N:=lH G;have O:=lH J;clear h0 hft2 hx hy G J;go_upto_region 7 with fail
    refine wp_region_held_drew (S:=(Aa [] w2)) bC mU (fun hHeld=>?_);refine rK 0 ?_;refine rK 1 ?_;refine rK 4 ?_;refine rK 5 ?_;refine rC 2 fun K hK=>?_;go_simp
    (refine(N.o _ (HK2.o.trans hHeld)).mono ?_;rintro e wt ⟨rfl,hkt⟩;have hkt:Aa [] w2 wt:=hHeld.trans hkt)
    (try clear rH);refine rP hK mU fun rH hHeld=>?_;clear hK K
    refine rK 3 ?_;refine rC 6 fun K hK=>?_;go_simp
    (refine(O.o _ (HK2.o.trans hHeld)).mono ?_;rintro e wu ⟨rfl,hku⟩;have hku:Aa [] w2 wu:=hHeld.trans hku)
    (try clear rH);refine rP hK mU fun rH hHeld=>?_;clear hK K
    refine rK 7 ?_;refine rK 8 ?_;refine rK 9 ?_;refine wpAnyH_done bC ?_ _
    (go_wp2_with fail;go_ret2;exact⟨by rw [HN.o,<- X.o];rfl,HK2.o.trans hku⟩)
theorem WJ(s:ByteArray)(w:World):Calls prog 275 #[pH #[Dz s]] w fun e w'=>e = pJ (pH #[pE pK 0,I_ 65535])/\Aa [] w w':=by
 go_enter func275,ntmps275;go_wp2_with fail;refine(Si _).mono ?_;rintro e w1 ⟨rfl,hk1⟩;have hk0:Aa [] w ((w.alloc (.cells #[Dz s] 449)).alloc (.cells #[pE pK 0,I_ 0] 57)):=((Aa.refl [] w).alloc _).alloc _;have hb1:=(Ar (w.alloc (.cells #[Dz s] 449)) 57 #[pE pK 0,I_ 0] (w+1) bA).keeps hk1 bA;have HK1:=lH (hk0.trans hk1);have HB1:=lH hb1;have D:=hb1.rl;clear hb1 hk1 hk0;go_wp2_with fail;have B:=((HB1.o.set_ 0 (I_ 0)).set_ 1 (I_ 65535)).cell;refine bodyPost_ret (v:=pH #[pE pK 0,I_ 65535]) (by simp [results,results275,go_sem,B]) rfl ⟨rfl,?_⟩;exact HK1.o.own (((Aa.refl [w.heap.size+1] _).setCell (.inl bA) _).setCell (.inl bA) _) bF
theorem Zn(s:ByteArray)(D:Ef s.data.toList)(w:World):Calls prog 276 #[pH #[Dz s]] w fun e w'=>e = pJ (pH #[pE pK (GG s.data.toList 0),I_ (GG s.data.toList 0)])/\Aa [] w w':=by
 have HN:=lH (fun W=>Jr s D W);obtain⟨n,hn⟩:=eX (GG s.data.toList 0);rw [hn] at HN ⊢;obtain⟨w1,hw1⟩:=eX ((w.alloc (.cells #[Dz s] 449)).alloc (.cells #[pE pK 0,I_ 0] 57));have HK1:Hi (Aa [] w w1):=lH (by rw [<- hw1];exact((Aa.refl [] w).alloc _).alloc _);have J:Hi (Blk w1 w 449 #[Dz s]):=lH (by rw [<- hw1];exact(Blk.new w _ _).alloc _);have HB1:Hi (Blk w1 (w+1) 57 #[pE pK 0,I_ 0]):=lH (by rw [<- hw1];exact Ar _ _ _ _ bA);have N:=J.o.rl;have T:=HB1.o.rl;clear hn D;go_enter func276,ntmps276;go_wp2_with fail;clear hw1;refine wp_region_held_drew (S:=(Aa [w.heap.size+1] w1)) bC lE (fun hHeld=>?_);refine rK 0 ?_;refine rK 1 ?_;refine rK 3 ?_;refine rK 4 ?_;refine rC 2 fun K hK=>?_;go_simp
 (refine(HN.o _).mono ?_;rintro e wt ⟨rfl,F⟩;have E:=((Aa.refl [] w1).drew).trans F;have hkt:Aa [w.heap.size+1] w1 wt:=E.mono bA)
 (try clear rH);refine rP hK lE fun rH hHeld=>?_;clear hK K
 refine rC 5 fun K hK=>?_;go_simp
 (refine(HN.o _).mono ?_;rintro e wu ⟨rfl,G⟩;have B:=E.trans G;have hku:Aa [w.heap.size+1] w1 wu:=B.mono bA;have O:=(HB1.o.keeps B bA).rl)
 (try clear rH);refine rP hK lE fun rH hHeld=>?_;clear hK K
 refine rK 6 ?_;refine rC 7 fun K hK=>?_;go_simp
 (try clear rH);refine rP hK lE fun rH hHeld=>?_;clear hK K
 refine wpAnyH_done bC ?_ _
 (go_wp2_with fail;have M:=(((HB1.o.keeps B bA).set_ 0 (I_ n)).set_ 1 (I_ n)).cell;exact bodyPost_ret (v:=pH #[pE pK n,I_ n]) (by simp [results,results276,go_sem,M]) rfl ⟨rfl,HK1.o.own (((hku.setCell (.inl bA) _).setCell (.inl bA) _)) bF⟩)
theorem Zp(s:ByteArray)(hs:s.size<=1000)(E:Ef s.data.toList)(w:World)(hM:JT w):Calls prog 277 #[pH #[Dz s]] w fun e w'=>e = pJ (pH #[pE pK (GG (Du 45 s.data.toList).1 0),I_ (GG (Du 45 s.data.toList).2.1 0)])/\Aa [] w w':=by
 have G:=E.cut1 45;have J:=E.cut2 45;obtain⟨w1,hw1⟩:=eX ((w.alloc (.cells #[Dz s] 449)).alloc (.cells #[pE pK 0,I_ 0] 57));have hk1:Aa [] w w1:=by rw [<- hw1];exact((Aa.refl [] w).alloc _).alloc _
 have M:=PV s 45 bB w1 (hM.keeps hk1);obtain⟨p,hp⟩:=eX (Du 45 s.data.toList);rw [hp] at M G J ⊢;obtain⟨p1,p2,p3⟩:=p;simp only [] at M G J ⊢;have B:=fun W=>Jr (str p1) (by rw [E7];exact G) W;have D:=fun W=>Jr (str p2) (by rw [E7];exact J) W;rw [E7] at B D;obtain⟨n,hn⟩:=eX (GG p1 0);obtain⟨m,hm⟩:=eX (GG p2 0);rw [hn] at B ⊢;rw [hm] at D ⊢;have B:=lH B;have D:=lH D;have HK1:=lH hk1;have N:Hi (Blk w1 w 449 #[Dz s]):=lH (by rw [<- hw1];exact(Blk.new w _ _).alloc _);have HB1:Hi (Blk w1 (w+1) 57 #[pE pK 0,I_ 0]):=lH (by rw [<- hw1];exact Ar _ _ _ _ bA);have T:=N.o.rl;have U:=HB1.o.rl;clear hn hm E hp G J hk1 hM;go_enter func277,ntmps277;go_wp2_with fail;clear hw1
 with_reducible refine M.mono ?_
 rintro e w2 ⟨rfl,hk2⟩;go_wp2_with fail;refine(B.o _).mono ?_;rintro e w3 ⟨rfl,hk3⟩;go_wp2_with fail;refine(D.o _).mono ?_;rintro e w4 ⟨rfl,hk4⟩;have F:=(hk2.trans hk3).trans hk4;have HB4:=lH (HB1.o.keeps F bA);have HK4:=lH (HK1.o.trans F);have X:=HB4.o.rl;clear T U hk2 hk3 hk4 F;go_wp2_with fail;have O:=((HB4.o.set_ 0 (I_ n)).set_ 1 (I_ m)).cell;refine bodyPost_ret (v:=pH #[pE pK n,I_ m]) (by simp [results,results277,go_sem,O]) rfl ⟨rfl,?_⟩;exact HK4.o.own (((Aa.refl [w.heap.size+1] _).setCell (.inl bA) _).setCell (.inl bA) _) bF
def ET(s:ByteArray)(k:Nat):Int×Int:=(JF s.data.toList).getD k (0,0)
def Pc(s:ByteArray)(k:Nat):Array Value:=#[pH #[pE pK (ET s k).1,pE pK (ET s k).2]]
theorem Q9(s:ByteArray)(w:World):Calls prog 254 #[Dz s] w fun e w'=>e = pJ (.func (.func 274) #[] #[pG (some (A_ w 0))])/\w.alloc (.cells #[Dz s] 449)=w':=by
 go_enter func254,ntmps254;go_wp2;go_ret;exact⟨rfl,rfl⟩
theorem Q8(n l pb:Nat)(s:ByteArray)(hs:s.size<=1000)(ab:Ef s.data.toList)(J Jx:List Nat->World->Prop)(W:World)(hJ:eY W J)(hV:∀z A,J z A->A.cell? (A_ pb 0)=some (Dz s)/\JT A)
 (hY:∀pre x W1,J pre W1->pre++[x] <+: AC 3->YieldAt Bx (n - 1) prog l (Pc s x) W1 fun e W'=>
   (e = pJ (pI true)/\J (pre++[x]) W'/\CA W W1 W')\/(e = pJ (pI false)/\Jx (pre++[x]) W'))
 (h0:J [] W):
  CallsIn Bx n prog 274 #[.func (.yield l) #[] #[],p_ pb 0] W fun e W'=>(∃v,e = pJ v)/\
   (J (AC 3) W'\/(∃pre,pre <+: AC 3/\Jx pre W')):=by
 obtain⟨W1,Y⟩:=eX (W.alloc (.cells #[.func (.func 275) #[pH #[Dz s]] #[],.func (.func 276) #[pH #[Dz s]] #[],.func (.func 277) #[pH #[Dz s]] #[]] 450));have af:Hi (J (AC 0) W1):=lH (by rw [<- Y];exact hJ _ _ _ h0 ((Below.refl _ W).alloc (Aw _) _));have HB0:Hi (Blk W1 W 450 #[.func (.func 275) #[pH #[Dz s]] #[],.func (.func 276) #[pH #[Dz s]] #[],.func (.func 277) #[pH #[Dz s]] #[]]):=lH (by rw [<- Y];exact Blk.new W _ _);have c0:=(hV _ _ h0).1;have ah:W.heap.size<=W1.heap.size:=by rw [<- Y];simp
 have HV:=lH hV;have HY:=lH hY;have HJ:=lH hJ;clear hV hY h0 hJ;have O:Fence.wide.depth.isSome=true->1<=n:=by intro h;cases h
 refine callsIn_of_wp func274 rfl trivial ?_ rfl;simp only [ntmps274,Cz,Av,D4,pL,pM,Bt,Bu,Cd,BD,BH,AL];gi_wp2;refine BW (wpIn_seq (wpIn_label ?_));gi_wp2;clear Y c0
 gi_loopw [13] (fun i wr=>∃k:Nat,i = I_ k/\k<=3/\Hi (J (AC k) wr)/\Hi (Blk wr W 450 #[.func (.func 275) #[pH #[Dz s]] #[],.func (.func 276) #[pH #[Dz s]] #[],.func (.func 277) #[pH #[Dz s]] #[]])/\W.heap.size<=wr.heap.size) (fun i _=>3 - (intOf i).toNat)
 case atStart=>exact⟨0,rfl,Ba _,af,HB0,ah⟩
 case round=>
  clear af HB0;obtain⟨k,rfl,hk,ac,ae,hsz⟩:=hrel;by_cases hlt:k<3
  ·have hd:=ae.o.rl
   have HM:=lH (HV.o _ _ ac.o).2;have ad:Hi (∀w3,Aa [] wr w3->J (AC k) w3/\Blk w3 W 450 #[.func (.func 275) #[pH #[Dz s]] #[],.func (.func 276) #[pH #[Dz s]] #[],.func (.func 277) #[pH #[Dz s]] #[]]/\W.heap.size<=w3.heap.size):=lH fun w3 h3=>
    ⟨HJ.o _ _ _ ac.o (h3.below hsz (fun _ hk=>by cases hk)),ae.o.keeps h3 bA,A8 hsz h3.size⟩
   have:k=0\/k=1\/k=2:=bB;rcases this with rfl | rfl | rfl
   ·gi_wp2_with fail
    refine⟨trivial,O,(callsIn_wide.2 (WJ s wr)).mono ?_⟩;rintro e w3 ⟨rfl,hk3⟩;obtain⟨B,F,G⟩:=ad.o w3 hk3;have N:=Dq (HY.o _ 0 w3 B (BZ hlt));rw [<- B3] at N;obtain⟨ag,tmps,assign,body,hy,hR⟩:=N;simp only [Pc] at hy;rw [show ET s 0=(0,65535) from rfl] at hy;have E:=lH F;clear hk3 B F hd;gi_wp2;refine⟨O,?_⟩;refine hR.mono ?_;rintro e W3 ⟨g,rfl,X,hF⟩;clear hR hy;cases g with
    | false=>
     have U:=lH (hF.out rfl);clear X hF;gi_wp2;try rw [AY]
     go_end0
     exact⟨⟨_,rfl⟩,.inr ⟨_,by rw [B3];exact BZ hlt,U.out⟩⟩
    | true=>
     obtain⟨B,D⟩:=X.out rfl;have T:=lH B;have HB4:Hi (Blk W3 W 450 #[.func (.func 275) #[pH #[Dz s]] #[],.func (.func 276) #[pH #[Dz s]] #[],.func (.func 277) #[pH #[Dz s]] #[]]):=lH ((D.2 _ (Aw _) E.o.lt).trans E.o);have M:W.heap.size<=W3.heap.size:=A8 G D.1;clear X hF B D;gi_wp2;go_roundw;case rel=>exact⟨0+1,by go_num,by omega,T,HB4,M⟩
     case measure=>simp [intOf]
   ·gi_wp2_with fail
    refine⟨trivial,O,(callsIn_wide.2 (Zn s ab wr)).mono ?_⟩;rintro e w3 ⟨rfl,hk3⟩;obtain⟨B,F,G⟩:=ad.o w3 hk3;have N:=Dq (HY.o _ 1 w3 B (BZ hlt));rw [<- B3] at N;obtain⟨ag,tmps,assign,body,hy,hR⟩:=N;simp only [Pc] at hy;rw [show ET s 1=(GG s.data.toList 0,GG s.data.toList 0) from rfl] at hy;have E:=lH F;clear hk3 B F hd;gi_wp2;refine⟨O,?_⟩;refine hR.mono ?_;rintro e W3 ⟨g,rfl,X,hF⟩;clear hR hy;cases g with
    | false=>
     have U:=lH (hF.out rfl);clear X hF;gi_wp2;try rw [AY]
     go_end0
     exact⟨⟨_,rfl⟩,.inr ⟨_,by rw [B3];exact BZ hlt,U.out⟩⟩
    | true=>
     obtain⟨B,D⟩:=X.out rfl;have T:=lH B;have HB4:Hi (Blk W3 W 450 #[.func (.func 275) #[pH #[Dz s]] #[],.func (.func 276) #[pH #[Dz s]] #[],.func (.func 277) #[pH #[Dz s]] #[]]):=lH ((D.2 _ (Aw _) E.o.lt).trans E.o);have M:W.heap.size<=W3.heap.size:=A8 G D.1;clear X hF B D;gi_wp2;go_roundw;case rel=>exact⟨1+1,by go_num,by omega,T,HB4,M⟩
     case measure=>simp [intOf]
   ·gi_wp2_with fail
    refine⟨trivial,O,(callsIn_wide.2 (Zp s hs ab wr HM.o)).mono ?_⟩;rintro e w3 ⟨rfl,hk3⟩;obtain⟨B,F,G⟩:=ad.o w3 hk3;have N:=Dq (HY.o _ 2 w3 B (BZ hlt));rw [<- B3] at N;obtain⟨ag,tmps,assign,body,hy,hR⟩:=N;simp only [Pc] at hy;rw [show ET s 2=(GG (Du 45 s.data.toList).1 0,GG (Du 45 s.data.toList).2.1 0) from rfl] at hy;have E:=lH F;clear hk3 B F hd;gi_wp2;refine⟨O,?_⟩;refine hR.mono ?_;rintro e W3 ⟨g,rfl,X,hF⟩;clear hR hy;cases g with
    | false=>
     have U:=lH (hF.out rfl);clear X hF;gi_wp2;try rw [AY]
     go_end0
     exact⟨⟨_,rfl⟩,.inr ⟨_,by rw [B3];exact BZ hlt,U.out⟩⟩
    | true=>
     obtain⟨B,D⟩:=X.out rfl;have T:=lH B;have HB4:Hi (Blk W3 W 450 #[.func (.func 275) #[pH #[Dz s]] #[],.func (.func 276) #[pH #[Dz s]] #[],.func (.func 277) #[pH #[Dz s]] #[]]):=lH ((D.2 _ (Aw _) E.o.lt).trans E.o);have M:W.heap.size<=W3.heap.size:=A8 G D.1;clear X hF B D;gi_wp2;go_roundw;case rel=>exact⟨2+1,by go_num,by omega,T,HB4,M⟩
     case measure=>simp [intOf]
  ·obtain rfl:k=3:=bB;gi_wp2;try rw [AY]
   go_end0
   exact⟨⟨_,rfl⟩,.inl ac.o⟩
theorem QA(n pb:Nat)(s:ByteArray)(hs:s.size<=1000)(hasc:Ef s.data.toList)(w:World):
  fP Bx n prog 274 #[pG (some (A_ pb 0))] (Pc s) (AC 3) (fun A=>A.cell? (A_ pb 0)=some (Dz s)/\JT A) w:=fun l J Jx W _ hJ _ hV hY h0=>
 Q8 n l pb s hs hasc J Jx W hJ hV hY h0
def U2(s:ByteArray)(k:Nat):Prop:=∀j,j<k->Js s.data.toList (ET s j)=false
theorem Sr(s:ByteArray)(k:Nat)(hk:k<3)(h:U2 s k)(B:Js s.data.toList (ET s k)=true):EV s.data.toList=(ET s k,0):=by
 have e:JF s.data.toList = [ET s 0,ET s 1,ET s 2]:=rfl;unfold EV;rw [e];have:k=0\/k=1\/k=2:=bB;rcases this with rfl | rfl | rfl
 ·simp [List.find?,B]
 ·simp [List.find?,B,h 0 bB]
 ·simp [List.find?,B,h 0 bB,h 1 bB]
theorem Q4(s:ByteArray)(h:U2 s 3):EV s.data.toList=((0,0),70):=by
 have e:JF s.data.toList = [ET s 0,ET s 1,ET s 2]:=rfl;unfold EV;rw [e];simp [List.find?,h 0 bB,h 1 bB,h 2 bB]
structure fM(w:World)(s:ByteArray)(p:Int×Int)(A:World):Prop where
 kw:Below w.heap.size w A
 b0:Blk A w.heap.size 9 #[Dz s]
 b1:Blk A (w.heap.size+1) 57 #[pE pK p.1,pE pK p.2]
 b2:Blk A (w.heap.size+1+1) 48 #[pE pK 0]
 b3:Blk A (w.heap.size+1+1+1) 449 #[Dz s]
theorem fM.low{w:World}{s:ByteArray}{p:Int×Int}{A A':World}(h:fM w s p A){B:Nat}(hB:w.heap.size+4<=B)(hb:Below B A A'):fM w s p A':=
 ⟨h.kw.trans (hb.mono bB),(hb.block _ bB).trans h.b0,(hb.block _ bB).trans h.b1,(hb.block _ bB).trans h.b2,(hb.block _ bB).trans h.b3⟩
theorem TW(s:ByteArray)(hs:s.size<=1000)(ac:Ef s.data.toList)(w:World)(hT:Ie w)(hM:JT w)(E:Nat->Addr)(hE:Fp w E):
  Calls prog 233 #[Dz s] w fun e w'=>e = pJ (.tuple #[pH #[pE pK (EV s.data.toList).1.1,I_ (EV s.data.toList).1.2],I_ (EV s.data.toList).2])/\Aa [] w w':=by
 refine(callsIn_wide (n:=9)).1 ?_;have HT:=lH hT;have HM:=lH hM;have HE:=lH hE;clear hT hM hE;refine callsIn_of_wp_marks func233 rfl trivial ?_ rfl;simp only [ntmps233,Cz,Av,D4,pL,pM,Bt,Bu,Cd,BD,BH,AL];gi_wp2_with fail;refine⟨trivial,(callsIn_wide.2 (Q9 s _)).mono ?_⟩;rintro e w1 ⟨rfl,hw1⟩;gi_wp2_with fail;have hsz:w1.heap.size=w.heap.size+4:=by rw [<- hw1];simp
 have aa:fM w s (0,0) w1:=by
  have hk:Below w w w1:=by rw [<- hw1];exact((((Below.refl _ w).alloc (Aw _) _).alloc bA _).alloc bG _).alloc bG _
  refine⟨hk,?_,?_,?_,?_⟩<;>rw [<- hw1]
  ·exact(((Blk.new w _ _).alloc _).alloc _).alloc _
  ·exact((Ar _ _ _ _ bA).alloc _).alloc _
  ·exact(Ar _ _ _ _ bA).alloc _
  ·exact Ar _ _ _ _ bA
 have af:=lH aa;clear aa hw1;refine Fn rfl bB (gf:=274) (lb:=#[pG (some (A3 w 0))]) rfl trivial (enters_of func274 bC rfl) (QA 8 (w+1+1+1) s hs ac w1) (Below.refl _ _) (fun _=>rfl)
  (fun X A=>fM w s (0,0) A/\U2 s X.length) (fun _ A=>∃p,fM w s p A/\EV s.data.toList=(p,0))
  (fun z A A' h hb=>⟨h.1.low bB hb,h.2⟩) (fun z A A' h hb=>by obtain⟨p,h1,h2⟩:=h;exact⟨p,h1.low bB hb,h2⟩)
  (fun z A h=>⟨h.1.b3.cell 0,HM.o.keeps (Aa.of_below h.1.kw [])⟩) ⟨af.o,fun j hj=>by simp at hj⟩
  (fun k b=>{ tmps:=#[Dz s,p_ w 0,p1 w 0,p2 w 0,p_ b 0,UD,UD,Dz s,.func (.func 274) #[] #[pG (some (A3 w 0))],pH #[pE pK (ET s k).1,I_ (ET s k).2],UD,UD,UD,UD,UD,UD,UD,UD,UD,UD,UD,UD,UD,UD,UD,UD],defers:=[] })
  (fun k=>.cells #[pE pK (ET s k).1,I_ (ET s k).2] 57) ?assign ?body ?done ?stop
 case assign=>
  intro l k W K hK;unfold Pc;gi_wp2;exact hK
 case body=>
  rintro l X k b W ⟨hI,hno⟩ J hb ad;obtain⟨rfl,hk3⟩:=E8 J;rw [AP] at hno;have F:Blk W b 57 #[pE pK (ET s k).1,I_ (ET s k).2]:=ad;obtain⟨p,hp⟩:=eX (ET s k);obtain⟨f,t⟩:=p;rw [hp] at F ⊢;have N:=N6 f t W (HT.o.keeps (Aa.of_below hI.kw [])) E (HE.o.keep (Aa.of_below hI.kw []));obtain⟨v,e,hv⟩:∃v e,Dp f t=(v,e):=⟨_,_,rfl⟩;rw [hv] at N;obtain⟨c,hc⟩:=eX (Js s.data.toList (f,t));have HH:Hi ((e==0&&v==s.data.toList)=c):=lH (by rw [<- hc];unfold Js;rw [hv]);have HP:=lH hp;have HC:=lH hc;have hr:=F.rl;have HB:=lH F;have HI:=lH hI;have HNO:=lH hno;have ao:w.heap.size+4<=b:=bB;clear ad hI J hp hv hc F hb hno;simp only [] at N;gi_wp2_with fail;refine⟨trivial,CallsIn.inRound l (callsIn_wide.2 (N.mono ?_))⟩;rintro x w3 ⟨rfl,hk⟩;have HK:=lH hk;have a0:=(HB.o.keeps hk bA).rl;have B:Hi (fM w s (0,0) w3):=lH ⟨HI.o.kw.trans (hk.below (HI.o.kw.size) (fun _ h=>by cases h)),HI.o.b0.keeps hk bA,HI.o.b1.keeps hk bA,HI.o.b2.keeps hk bA,HI.o.b3.keeps hk bA⟩;have r0:=B.o.b0.rl;have r1:=B.o.b1.rl;have r2:=B.o.b2.rl;clear hk hr;obtain⟨x,hx⟩:=eX (str v);have HX:Hi ((e==0&&(x.toList==s.toList))=c):=lH (by rw [<- HH.o,<- hx,C9,C9];rfl);rw [hx];clear hx;have M:Hi (CA w1 W w3):=lH (CA.of_keeps HK.o (fun _ h=>by cases h));obtain⟨b0,hb0⟩:=eX ((e==0));obtain⟨d,hd⟩:=eX ((x.toList==s.toList));have T:Hi ((b0&&d)=c):=lH (by rw [<- hb0,<- hd];exact HX.o);cases c with
  | true=>
   have hb1:b0=true:=by have:=T.out;simp only [Af] at this;exact this.1
   have U:d=true:=by have:=T.out;simp only [Af] at this;exact this.2
   subst hb1 U;gi_wp2_with fail;refine⟨M.o.trans (((CA.setCell (p:=A1 w 0) bH w3 _).trans (CA.setCell (p:=A1 w 1) bH _ _)).trans (CA.setCell (p:=A2 w 0) bH _ _)),(f,t),?_,?_⟩
   ·refine⟨((B.o.kw.setCell (p:=A1 w 0) bH _).setCell (p:=A1 w 1) bH _).setCell (p:=A2 w 0) bH _,?_,?_,?_,?_⟩
    ·exact((B.o.b0.far bH _).far bH _).far bH _
    ·exact((B.o.b1.set_ 0 _).set_ 1 _).far bH _
    ·exact((B.o.b2.far bH _).far bH _).set_ 0 _
    ·exact((B.o.b3.far bH _).far bH _).far bH _
   ·have:=Sr s k hk3 HNO.o (by rw [HP.o];exact HC.o)
    rw [this,HP.o]
  | false=>
   have Y:Hi (U2 s (k+1)):=lH (fun j hj=>by
    by_cases h:j<k
    ·exact HNO.o j h
    ·obtain rfl:j=k:=bB;rw [HP.o];exact HC.o)
   cases b0 with
   | true=>
    have U:d=false:=by have:=T.out;simpa using this
    subst U;gi_wp2_with fail;exact⟨M.o,B.o,by rw [Al,AP];exact Y.o⟩
   | false=>
    gi_wp2_with fail;exact⟨M.o,B.o,by rw [Al,AP];exact Y.o⟩
 case done=>
  rintro D W hD ⟨hI,hno⟩ hK;have HV:=lH (Q4 s hno);have r1:=hI.b1.rl;have r2:=hI.b2.rl;have O:=HE.o.keep (Aa.of_below hI.kw []);have eP:=O.cell 11 bA;have ae:=lH O;have HI:=lH hI;have G:D<W.heap.size:=(Ai.1 hK).1;clear hI hno O;gi_wp2_with fail;refine⟨trivial,(callsIn_wide.2 (Ll _ ae.o)).mono ?_⟩;rintro e w3 ⟨rfl,rfl⟩;gi_wp2_with fail;have hW:Aa [w.heap.size+1,w.heap.size+1+1] W (((W.setCell (A1 w 0) (I_ 0)).setCell (A1 w 1) (I_ 0)).setCell (A2 w 0) (I_ 70)):=(((Aa.refl _ W).setCell (.inl bA) _).setCell (.inl bA) _).setCell (.inl bA) _;have d1:Blk (((W.setCell (A1 w 0) (I_ 0)).setCell (A1 w 1) (I_ 0)).setCell (A2 w 0) (I_ 70)) (w+1) 57 #[pE pK 0,I_ 0]:=((HI.o.b1.set_ 0 _).set_ 1 _).far bH _;have d2:Blk (((W.setCell (A1 w 0) (I_ 0)).setCell (A1 w 1) (I_ 0)).setCell (A2 w 0) (I_ 70)) (w+1+1) 48 #[pE pK 70]:=((HI.o.b2.far bH _).far bH _).set_ 0 _;obtain⟨WF,ab⟩:=eX (((W.setCell (A1 w 0) (I_ 0)).setCell (A1 w 1) (I_ 0)).setCell (A2 w 0) (I_ 70));rw [ab] at hW d1 d2 ⊢;have ai:WF.heap[D]? = some (.deferred (some [])):=(hW.block D G bI).trans hK;clear ab;refine⟨by simp,.inl ⟨_,_,rfl,run_takeDeferred ai,?_⟩⟩;have hk4:=AG (S:=[D]) WF (.deferred none) (l:=D) bA;have e1:=(d1.keeps hk4 bG).cell;have e2:=(d2.keeps hk4 bG).cell;refine⟨.tuple #[pH #[pE pK 0,I_ 0],I_ 70],by simp [results,results233,go_sem,e1,e2],by rw [HV.o],((Aa.of_below HI.o.kw []).own hW bF).own hk4 bF⟩
 case stop=>
  rintro D X W hD _ ⟨p,hI,hp⟩ hK;have r1:=hI.b1.rl;have r2:=hI.b2.rl;have HP:=lH hp;have HI:=lH hI;have G:D<W.heap.size:=(Ai.1 hK).1;clear hI hp;gi_wp2_with fail;refine⟨by simp,.inl ⟨_,_,rfl,run_takeDeferred hK,?_⟩⟩;have hk4:=AG (S:=[D]) W (.deferred none) (l:=D) bA;have e1:=(HI.o.b1.keeps hk4 bG).cell;have e2:=(HI.o.b2.keeps hk4 bG).cell;refine⟨.tuple #[pH #[pE pK p.1,I_ p.2],I_ 0],by simp [results,results233,go_sem,e1,e2],by rw [HP.o],(Aa.of_below HI.o.kw []).own hk4 bF⟩
theorem O3(f t:Int):(Dp f t).1.length<=50:=by
 have h1:=Eb f;have h2:=Eb t;unfold Dp
 repeat' split
 all_goals simp
 all_goals omega
theorem ND(a b:Int):(prefixText a b).length<=130:=by
 have h1:=Ig a;have h2:=Eb b;unfold prefixText;simp;omega
theorem SX(r:EX)(w:World)(Y:Ie w)(E:Nat->Addr)(hE:Fp w E):
  Calls prog 234 #[pH (L_ r)] w fun e w'=>e = pJ (.tuple #[Dz (str (GA r).1),I_ (GA r).2])/\Aa [] w w':=by
 obtain⟨b,hb⟩:=eX (La r);have HR:=lH (I2 r b hb);have HB:=lH hb;obtain⟨V,hV⟩:=eX (GA r);rw [hV];unfold GA at hV;rw [hb] at hV;have M:=lH hV;obtain⟨w0,hw0⟩:=eX (w.alloc (.cells (L_ r) 59));have HK0:Hi (Aa [] w w0):=lH aX;have HB0:Hi (Blk w0 w 59 (L_ r)):=lH jX;have q0:=HB0.o.rl;have X:=lH Y;have HE:=lH hE;clear hb hV Y hE;go_enter func234,ntmps234;go_wp2_with fail;refine(HR.o w0).mono ?_;rintro e w1 ⟨rfl,hk1⟩;have HK1:=lH (HK0.o.trans hk1);have HB1:=lH (HB0.o.keeps hk1 bA);have U:=HB1.o.rl;clear hk1 q0 hw0;cases b with
 | false=>
  have HN:Hi (V=([],80)):=lH M.o.symm;have e1:=(HE.o.keep HK1.o).cell 6 bA;go_wp2_with fail;refine(DH w1 (HE.o.keep HK1.o)).mono ?_;rintro e w2 ⟨rfl,rfl⟩;go_wp2_with fail;go_ret2;exact⟨by rw [HN.o];rfl,HK1.o⟩
 | true=>
  have J:FI r.addr r.bits=true/\Hd r.from_ r.to_=true:=by
   have:=HB.o;unfold La at this;simpa using this
  have HPX:=lH (fun W (hW:Aa [] w W)=>LG r.addr r.bits J.1 W (X.o.keeps hW));have B:=lH (fun W (hW:Aa [] w W)=>N6 r.from_ r.to_ W (X.o.keeps hW) E (HE.o.keep hW));obtain⟨x,hx⟩:=eX (str (prefixText r.addr r.bits));obtain⟨y,hy⟩:=eX (str (Dp r.from_ r.to_).1);have ac:x.size<=130:=by rw [<- hx,Dw];exact ND _ _
  have hys:y.size<=50:=by rw [<- hy,Dw];exact O3 _ _
  rw [hx] at HPX;rw [hy] at B;obtain⟨pe,G⟩:=eX ((Dp r.from_ r.to_).2);rw [G] at B;have HN:Hi ((str V.1,V.2)=((((str (if r.allow then PJ else fE)++(⟨#[32]⟩:ByteArray))++x)++(⟨#[32]⟩:ByteArray))++y,0)):=lH (by
   rw [<- M.o,if_pos rfl,<- hx,<- hy,show(⟨#[32]⟩:ByteArray)=str [32] from rfl,GQ,GQ,GQ,GQ];simp)
  clear hx hy G J M;obtain⟨al,F⟩:=eX r.allow;rw [F] at U HN ⊢;have aa:=lH F;cases al with
  | true=>
   have N:¬9223372036854775807<6+x.size:=bB;have O:¬9223372036854775807<6+x.size+1:=bB;have T:¬9223372036854775807<6+x.size+1+y.size:=bB;go_wp2_with fail;refine(HPX.o w1 HK1.o).mono ?_;rintro e w2 ⟨rfl,hk2⟩;have HK2:=lH (HK1.o.trans hk2);have q2:=(HB1.o.keeps hk2 bA).rl;have HB2:=lH (HB1.o.keeps hk2 bA);clear hk2 U;go_wp2_with fail;refine(B.o w2 HK2.o).mono ?_;rintro e w3 ⟨rfl,hk3⟩;have D:=lH (HK2.o.trans hk3);clear hk3;go_wp2_with fail;go_ret2;have h:=HN.o;injection h with h1 h2
   exact⟨by rw [h1,h2];rfl,D.o⟩
  | false=>
   have N:¬9223372036854775807<5+x.size:=bB;have O:¬9223372036854775807<5+x.size+1:=bB;have T:¬9223372036854775807<5+x.size+1+y.size:=bB;go_wp2_with fail;refine(HPX.o w1 HK1.o).mono ?_;rintro e w2 ⟨rfl,hk2⟩;have HK2:=lH (HK1.o.trans hk2);have q2:=(HB1.o.keeps hk2 bA).rl;have HB2:=lH (HB1.o.keeps hk2 bA);clear hk2 U;go_wp2_with fail;refine(B.o w2 HK2.o).mono ?_;rintro e w3 ⟨rfl,hk3⟩;have D:=lH (HK2.o.trans hk3);clear hk3;go_wp2_with fail;go_ret2;have h:=HN.o;injection h with h1 h2
   exact⟨by rw [h1,h2];rfl,D.o⟩
structure Vm(E:Nat→Addr)(w:World):Prop where
 et:Et w
 tab:Ie w
 mx:JT w
 snt:Fp w E
theorem Vm.keeps{E:Nat->Addr}{w w':World}(h:Vm E w)(hk:Aa [] w w'):Vm E w':=⟨h.et.keeps hk bA,h.tab.keeps hk,h.mx.keeps hk,h.snt.keep hk⟩
theorem IZ.ascii{l:List UInt8}(h:IZ l):Ef l:=fun b hb=>by
 have:=(Bm.1 h.2) b hb;unfold Cw at this;simp only [Af,decide_eq_true_eq] at this;omega
def Gh(r:EX×Int):Value:=.tuple #[pH (L_ r.1),pE pK r.2]
theorem GB{W:World}{b:Nat}(h:Blk W b 59 #[pI false,I_ 0,I_ 0,I_ 0,I_ 0])(v0 v1 v2 v3 v4:Value):
  Blk (((((W.setCell (A_ b 0) v0).setCell (A_ b 1) v1).setCell (A_ b 2) v2).setCell (A_ b 3) v3).setCell (A_ b 4) v4) b 59 #[v0,v1,v2,v3,v4]/\
  Aa [b] W (((((W.setCell (A_ b 0) v0).setCell (A_ b 1) v1).setCell (A_ b 2) v2).setCell (A_ b 3) v3).setCell (A_ b 4) v4):=
 ⟨((((h.set_ 0 v0).set_ 1 v1).set_ 2 v2).set_ 3 v3).set_ 4 v4,(((((Aa.refl [b] W).setCell (.inl bA) _).setCell (.inl bA) _).setCell (.inl bA) _).setCell (.inl bA) _).setCell (.inl bA) _⟩
theorem SW(s:ByteArray)(hs:s.size<=1000000)(w:World)(E:Nat->Addr)(hE:Vm E w):
  Calls prog 215 #[Dz s] w fun e w'=>e = pJ (Gh (NL s.data.toList))/\Aa [] w w':=by
 obtain⟨w0,hw0⟩:=eX (w.alloc (.cells #[pI false,I_ 0,I_ 0,I_ 0,I_ 0] 59));have HK0:Hi (Aa [] w w0):=lH aX;have HB0:Hi (Blk w0 w 59 #[pI false,I_ 0,I_ 0,I_ 0,I_ 0]):=lH jX;have HE:Hi (∀W,Aa [] w W->Vm E W):=lH fun W hW=>hE.keeps hW;have HSP:=Gr s hs w0 (HE.o w0 HK0.o).et;obtain⟨V,hV⟩:=eX (NL s.data.toList);rw [hV];unfold NL at hV;unfold Ic at HSP;clear hE;cases hsp:Ce s.data.toList with
 | error k=>
  rw [hsp] at HSP hV;have HN:Hi (V=(IW,80)):=lH hV.symm;have hk0:(k != 0)=true:=by simpa using JG hsp
  clear hV hsp;simp only [] at HSP;go_enter func215,ntmps215;go_wp2_with fail;refine HSP.mono ?_;rintro x w1 ⟨rfl,hk1⟩;have HK1:=lH (HK0.o.trans hk1);have HB1:=lH (HB0.o.keeps hk1 bA);have q1:=HB1.o.rl;have e1:=(HE.o w1 HK1.o).snt.cell 6 bA;clear hk1 hw0;go_wp2_with fail;refine(DH w1 (HE.o w1 HK1.o).snt).mono ?_;rintro e w2 ⟨rfl,rfl⟩;go_wp2_with fail;obtain⟨f,D⟩:=GB HB1.o (pI false) (I_ 0) (I_ 0) (I_ 0) (I_ 0);have B:=f.cell;refine bodyPost_ret (v:=Gh V) (by rw [HN.o];simp [results,results215,go_sem,B,Gh,IW]) rfl ⟨rfl,?_⟩;exact HK1.o.own D bF
 | ok l=>
  rw [hsp] at HSP hV;have F:=NU hsp;clear hsp;simp only [] at HSP;obtain⟨n,hn⟩:=eX l.length;have HL:=lH hn;rw [hn] at HSP;by_cases h3:n=3
  ·subst h3
   match l,hn with
   | [a,b,c],_=>
    have ha:=F a bA;have hb:=F b bA;have J:=F c bA;have HPB:=lH (fun W (hW:Aa [] w W)=>LF (Dk b) (by show b.toArray.size<=1000;have:=hb.1;simp;omega) hb.ascii W (HE.o W hW).tab (HE.o W hW).mx);have G:=lH (fun W (hW:Aa [] w W)=>TW (Dk c) (by show c.toArray.size<=1000;have:=J.1;simp;omega) J.ascii W (HE.o W hW).tab (HE.o W hW).mx E (HE.o W hW).snt);rw [show(Dk b).data.toList=b from rfl] at HPB;rw [show(Dk c).data.toList=c from rfl] at G;simp only [] at hV;obtain⟨p1,p2,pe,hp⟩:∃p1 p2 pe,Fv b=((p1,p2),pe):=⟨_,_,_,rfl⟩;obtain⟨f,t,fe,hf⟩:∃p1 p2 pe,EV c=((p1,p2),pe):=⟨_,_,_,rfl⟩;rw [hp] at HPB hV;rw [hf] at G hV;simp only [] at HPB G hV;obtain⟨al,T⟩:=eX ((a==PJ));rw [T] at hV;obtain⟨r,hr⟩:∃r:EX,(⟨al,p1,p2,f,t⟩:EX)=r:=⟨_,rfl⟩;rw [hr] at hV;obtain⟨v,re,hv⟩:∃v re,GA r=(v,re):=⟨_,_,rfl⟩;rw [hv] at hV;have O:=lH (fun W (hW:Aa [] w W)=>SX r W (HE.o W hW).tab E (HE.o W hW).snt);rw [hv,<- hr] at O;simp only [] at O hV;have HV:=lH hV;have HR:=lH hr;have ad:Hi (((Dk a).toList==[97,108,108,111,119])=al):=lH (by rw [<- T,C9];rfl);clear hV hr hv T hp hf ha hb J F;go_enter func215,ntmps215;go_wp2_with fail;refine HSP.mono ?_;rintro x w1 ⟨sa,sc,rfl,hm,hk1⟩;obtain⟨g,off,rfl,hg,J⟩:=hm.at_ bA;have c0:=J 0 bA 0 (Dz (Dk a)) rfl;have c1:=J 1 bA 0 (Dz (Dk b)) rfl;have c2:=J 2 bA 0 (Dz (Dk c)) rfl;simp only [Nat.zero_mul,AT,Nat.one_mul,pR] at c0 c1 c2;have HK1:=lH (HK0.o.trans hk1);have HB1:=lH (HB0.o.keeps hk1 bA);have q1:=HB1.o.rl;clear hk1 hw0 J hm HSP;go_wp2_with fail;refine(HPB.o w1 HK1.o).mono ?_;rintro e w2 ⟨rfl,hk2⟩;obtain⟨w3,U⟩:=eX (w2.alloc (.cells #[pE pK p1,I_ p2] 55));have ae:Hi (Blk w3 w2 55 #[pE pK p1,I_ p2]):=lH (by rw [<- U];exact Blk.new _ _ _);have M:Hi (Aa [] w1 w3):=lH (by rw [<- U];exact hk2.alloc _);have r3:=M.o.rl;clear hk2;go_wp2_with fail;clear U;refine(G.o w3 (HK1.o.trans M.o)).mono ?_;rintro e w4 ⟨rfl,hk4⟩;obtain⟨w5,hw5⟩:=eX (w4.alloc (.cells #[pE pK f,I_ t] 57));have ag:Hi (Blk w5 w4 57 #[pE pK f,I_ t]):=lH (by rw [<- hw5];exact Blk.new _ _ _);have af:Hi (Blk w5 w2 55 #[pE pK p1,I_ p2]):=lH (by rw [<- hw5];exact(ae.o.keeps hk4 bA).alloc _);have HK5:Hi (Aa [] w1 w5):=lH (by rw [<- hw5];exact(M.o.trans hk4).alloc _);have r5:=HK5.o.rl;have s5:=ag.o.rl;have t5:=af.o.rl;clear hk4 r3;go_upto_region 6 with fail
    clear hw5;have ab:=ad.o;go_region;clear ab;obtain⟨w6,X⟩:=eX ((w5.alloc (.cells #[pI al,I_ p1,I_ p2,I_ f,I_ t] 59)).drew);have Y:Hi (Blk w6 w5 59 #[pI al,I_ p1,I_ p2,I_ f,I_ t]):=lH (by rw [<- X];exact(Blk.new w5 _ _).drew);have N:Hi (Aa [] w1 w6):=lH (by rw [<- X];exact(HK5.o.alloc _).drew);have r6:=Y.o.rl;clear r5 s5 t5;go_wp2_with fail;clear X;refine(O.o w6 (HK1.o.trans N.o)).mono ?_;rintro e w7 ⟨rfl,hk7⟩;have HK7:=lH (HK1.o.trans (N.o.trans hk7));have HB7:=lH (HB1.o.keeps (N.o.trans hk7) bA);have ah:=lH (Y.o.keeps hk7 bA);have r7:=ah.o.rl;have q7:=HB7.o.rl;clear hk7 r6 q1 c0 c1 c2;obtain⟨b1,hb1⟩:=eX ((pe != 0));obtain⟨b2,hb2⟩:=eX ((fe != 0));obtain⟨b3,ai⟩:=eX ((re != 0));obtain⟨x,hx⟩:=eX (str v);rw [hx];obtain⟨d,hd⟩:=eX ((x.toList==s.toList));have HC:Hi (V=if b1=false/\b2=false/\b3=false/\d=true then(r,0) else(IW,80)):=lH (by
     rw [<- HV.o,<- hb1,<- hb2,<- ai,<- hd,<- hx,C9,C9];simp [str])
    have av:=lH HR.o;clear hx;cases b1 with
    | true=>
     have HN:Hi (V=(IW,80)):=lH kA;have e1:=(HE.o w7 HK7.o).snt.cell 6 bA;go_wp2_with fail;refine(DH w7 (HE.o w7 HK7.o).snt).mono ?_;rintro e w9 ⟨rfl,rfl⟩;go_wp2_with fail;obtain⟨f,D⟩:=GB HB7.o (pI false) (I_ 0) (I_ 0) (I_ 0) (I_ 0);have B:=f.cell;refine bodyPost_ret (v:=Gh V) (by rw [HN.o];simp [results,results215,go_sem,B,Gh,IW]) rfl ⟨rfl,?_⟩;exact HK7.o.own D bF
    | false=>
     cases b2 with
     | true=>
      have HN:Hi (V=(IW,80)):=lH kA;have e1:=(HE.o w7 HK7.o).snt.cell 6 bA;go_wp2_with fail;refine(DH w7 (HE.o w7 HK7.o).snt).mono ?_;rintro e w9 ⟨rfl,rfl⟩;go_wp2_with fail;obtain⟨f,D⟩:=GB HB7.o (pI false) (I_ 0) (I_ 0) (I_ 0) (I_ 0);have B:=f.cell;refine bodyPost_ret (v:=Gh V) (by rw [HN.o];simp [results,results215,go_sem,B,Gh,IW]) rfl ⟨rfl,?_⟩;exact HK7.o.own D bF
     | false=>
      cases b3 with
      | true=>
       have HN:Hi (V=(IW,80)):=lH kA;have e1:=(HE.o w7 HK7.o).snt.cell 6 bA;go_wp2_with fail;refine(DH w7 (HE.o w7 HK7.o).snt).mono ?_;rintro e w9 ⟨rfl,rfl⟩;go_wp2_with fail;obtain⟨f,D⟩:=GB HB7.o (pI false) (I_ 0) (I_ 0) (I_ 0) (I_ 0);have B:=f.cell;refine bodyPost_ret (v:=Gh V) (by rw [HN.o];simp [results,results215,go_sem,B,Gh,IW]) rfl ⟨rfl,?_⟩;exact HK7.o.own D bF
      | false=>
       cases d with
       | false=>
        have HN:Hi (V=(IW,80)):=lH kA;have e1:=(HE.o w7 HK7.o).snt.cell 6 bA;go_wp2_with fail;refine(DH w7 (HE.o w7 HK7.o).snt).mono ?_;rintro e w9 ⟨rfl,rfl⟩;go_wp2_with fail;obtain⟨f,D⟩:=GB HB7.o (pI false) (I_ 0) (I_ 0) (I_ 0) (I_ 0);have B:=f.cell;refine bodyPost_ret (v:=Gh V) (by rw [HN.o];simp [results,results215,go_sem,B,Gh,IW]) rfl ⟨rfl,?_⟩;exact HK7.o.own D bF
       | true=>
        have HN:Hi (V=(r,0)):=lH kA;go_wp2_with fail;obtain⟨f,D⟩:=GB HB7.o (pI al) (I_ p1) (I_ p2) (I_ f) (I_ t);have B:=f.cell;refine bodyPost_ret (v:=Gh V) (by rw [HN.o,<- HR.o];simp [results,results215,go_sem,B,Gh]) rfl ⟨rfl,?_⟩;exact HK7.o.own D bF
  ·have HN:Hi (V=(IW,80)):=lH (by
    rw [<- hV]
    match l,hn,h3 with
    | [],_,_=>rfl
    | [_],_,_=>rfl
    | [_,_],_,_=>rfl
    | [_,_,_],h,h3=>exact absurd h.symm (by simpa using h3)
    | _::_::_::_::_,_,_=>rfl)
   have f1:((n:Int) != 3)=true:=by simp;omega
   clear hV F;go_enter func215,ntmps215;go_wp2_with fail;refine HSP.mono ?_;rintro x w1 ⟨sa,sc,rfl,hm,hk1⟩;have HK1:=lH (HK0.o.trans hk1);have HB1:=lH (HB0.o.keeps hk1 bA);have q1:=HB1.o.rl;clear hk1 hw0 hm;have e1:=(HE.o w1 HK1.o).snt.cell 6 bA;go_wp2_with fail;refine(DH w1 (HE.o w1 HK1.o).snt).mono ?_;rintro e w9 ⟨rfl,rfl⟩;go_wp2_with fail;obtain⟨f,D⟩:=GB HB1.o (pI false) (I_ 0) (I_ 0) (I_ 0) (I_ 0);have B:=f.cell;refine bodyPost_ret (v:=Gh V) (by rw [HN.o];simp [results,results215,go_sem,B,Gh,IW]) rfl ⟨rfl,?_⟩;exact HK1.o.own D bF
end
end Go.Proofs.YtncebikgoleolaaGreatDoor
