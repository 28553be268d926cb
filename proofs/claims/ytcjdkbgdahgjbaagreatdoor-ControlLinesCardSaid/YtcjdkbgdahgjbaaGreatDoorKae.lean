/- Steps of the proof: WordH, WordI, AdrB, ItoA, AdrC, AdrD, CutS, AdrE, AdrF. -/
import Derived.Test.YtcjdkbgdahgjbaaGreatDoorK0
import Derived.Test.YtcjdkbgdahgjbaaGreatDoorKaa
import Derived.Test.YtcjdkbgdahgjbaaGreatDoorKab
import Derived.Test.YtcjdkbgdahgjbaaGreatDoorKad
import Derived.Test.YtcjdkbgdahgjbaaGreatDoorKag
import Derived.Test.YtcjdkbgdahgjbaaGreatDoorKak
import Derived.Test.YtcjdkbgdahgjbaaGreatDoorKap
import Derived.Test.YtcjdkbgdahgjbaaGreatDoorKbc
import Derived.Test.YtcjdkbgdahgjbaaGreatDoorKbf
import Derived.Lib.SmallJoins
import Derived.Lib.AppendIntMem
set_option maxRecDepth 100000
set_option maxHeartbeats 8000000
set_option linter.all false
namespace Go.Proofs.YtcjdkbgdahgjbaaGreatDoor
open _root_.Array renaming getElem?_eq_some_iff→Aj,replicate_succ→Bc,replicate_zero→Bd
open _root_.Bool renaming and_eq_true→Af,false_and→D4,true_and→De
open Builtin renaming append_→Bo
open Ending renaming returned→dM
open Exit renaming noGoto_normal→AH
open Fence renaming wide→Ba
open IntKind renaming i64→dN
open Lib renaming index→DI,toList_data→Ce
open _root_.List renaming all_eq_true→BB,append_toArray→B0,cons_append→A6,getElem?_cons_zero→Ah,getElem?_eq_some_iff→Ad,length_append→Ag,length_cons→Ao,length_map→BX,length_nil→Eh,length_range→A8,length_singleton→AW,mem_append→AF,mem_cons→Ac,mem_map→Ee,mem_of_getElem?→Ex,mem_singleton→Am,nil_append→AX,not_mem_nil→Ab,push_toArray→By,range_succ→AY,range→A0,size_toArray→Cx,take_append_drop→Bj,take_of_length_le→Ax
open _root_.Nat renaming add_zero→CG,le_refl→Ap,le_trans→As,zero_le→Cy
open _root_.Option renaming isSome_iff_exists→BJ
open Value renaming agg→dK,bool→dL,int→dH,pointer→dJ,slice→dI,string→CZ
open World renaming block_lt_of_cell?→A4,ownsRow_nil→Bz
section
open Go.RowKit Go.Shelf
theorem XK(w:World)(b:Nat):(method 670 485 (dJ (some ⟨b,0,none⟩)) "Replace").run Tryz.prog w = .ok (429,dJ (some ⟨b,0,none⟩)) w:=by kernel_rfl
attribute [local go_sem] Oper.semAt_some N5 N6 N3 N4 XK
attribute [local go_sem ↓] Go.wp_at_zero Go.wp_at_succ
theorem Sh(s:ByteArray)(c:UInt8)(w:World):Calls Tryz.prog 431 #[CZ s,CZ ⟨#[c]⟩] w fun e w'=>e = dM (dH dN (s.data.toList.count c:Nat))∧w'=w:=Tryz.strings_Count_one s c w
theorem Kb(rb og oc:Nat)(s:ByteArray)(hs:s.size≤1000)(w:World)(hb:Blk w rb 369 (Lz 0 0 (.int .u32 0) .nilIface (dI (some ⟨og,0,none⟩) 4 oc)))(hS:AJ Fg 1 w (some ⟨og,0,none⟩) oc Wy)(hne:og≠rb):
  Calls Tryz.prog 175 #[dJ (some ⟨rb,0,none⟩),CZ s] w fun e w'=>e = dM (CZ ⟨(Cj s.data.toList).toArray⟩)∧Aa [rb] w w':=by
 obtain⟨g,off,he,hlt,hc⟩:=hS.at_ bE;injection he with he
 injection he with h1 h2 _
 subst h1 h2;have HD:=Uo rb og 0 oc .nilIface (.int .u32 0) w hb (hc 0 bE 0 _ rfl) (hc 1 bE 0 _ rfl) (hc 2 bE 0 _ rfl) (hc 3 bE 0 _ rfl) hlt hne;clear hb hS hne hlt hc;go_enter Tryz.func175,Tryz.ntmps175;go_wp2_with (fail)
 with_reducible refine HD.mono ?_
 rintro e w1 ⟨rfl,bb,hB,hb1,hk1⟩;have q1:=hb1.rl;simp only [Lz] at q1;have HB:=LX Sh bb s hs w1 hB;clear hB hb1;go_wp2_with (fail)
 with_reducible refine HB.mono ?_
 rintro e w2 ⟨rfl,hk2⟩;go_wp2_with (fail);go_ret;exact⟨rfl,hk1.trans (hk2.mono bA)⟩
theorem Nj:∀l:List UInt8,Lib.containsAny l [32,34,92]=l.any (fun b=>b==32||b==34||b==92):=by
 intro l;have key:∀l:List UInt8,(0≤Lib.indexAny l [32,34,92])=(l.any (fun b=>b==32||b==34||b==92)=true):=by
  intro l;induction l with
  | nil=>simp [Lib.indexAny]
  | cons b l ih=>
   have hge:=Lib.indexAny_ge [32,34,92] l;rw [List.any_cons];by_cases h:(b==32||b==34||b==92)=true
   ·have hc:([32,34,92]:List UInt8).contains b=true:=by simpa [or_assoc] using h
    simp only [Lib.indexAny,hc,if_true,h,Bool.true_or];simp
   ·have hc:([32,34,92]:List UInt8).contains b=false:=by simpa [or_assoc] using h
    simp only [Bool.not_eq_true] at h;simp only [Lib.indexAny,hc,h,Bool.false_or];rw [← ih];simp;split<;>omega
 unfold Lib.containsAny;rw [Bool.eq_iff_iff,decide_eq_true_iff,key]
theorem Ph(l:List UInt8):((⟨#[34]⟩++⟨l.toArray⟩:ByteArray)++⟨#[34]⟩:ByteArray)=⟨(34::(l++[34])).toArray⟩:=by
 apply ByteArray.ext;simp
theorem Rz(W:World):AJ Fg 1 (W.alloc (.cells #[CZ ⟨#[34]⟩,CZ ⟨#[92,34]⟩,CZ ⟨#[92]⟩,CZ ⟨#[92,92]⟩] 9)) (some ⟨W,0,none⟩) 4 Wy:=
 ⟨by decide,(fun h=>by cases h),fun _=>⟨W,0,rfl,by simp,fun i hi j u hj=>by
  rw [(Blk.new W 9 _).cell];have hj0:j=0:=by
   have:=(Ad.1 hj).1;simpa [Fg] using this
  subst hj0;simp only [Fg,Ah] at hj;have hi4:i<4:=hi
  match i,hi4 with
  | 0,_=>exact hj
  | 1,_=>exact hj
  | 2,_=>exact hj
  | 3,_=>exact hj⟩⟩
def Kg(s:ByteArray):Value:=match EV s.data.toList with
 | .error k=>.tuple #[CZ ⟨#[]⟩,.iface 208 (dK #[dH dN k])]
 | .ok t=>.tuple #[CZ ⟨t.toArray⟩,.nilIface]
theorem SK(s:ByteArray)(w:World):Calls Tryz.prog 118 #[CZ s] w fun e w'=>e = dM (Kg s)∧Aa [] w w':=by
 obtain⟨b1,hb1⟩:=eX (decide ((64:Int)<(s.size:Int)));obtain⟨b2,hb2⟩:=eX (FQ s);have HB1:=lH hb1;have HB2:=lH hb2;clear hb2;obtain⟨RR,hRR⟩:=eX (Cc [(b1,14),(!b2,11)]);have HRR:=lH hRR;clear hRR;go_enter Tryz.func118,Tryz.ntmps118;go_wp2_with (fail);refine(Hb s b2 HB2.out w).mono ?_;rintro e w1 ⟨rfl,hk1⟩;have HK1:=lH hk1;clear hk1;go_wp2_with (fail);refine(Ch (some ⟨w1,0,none⟩) 2 [(b1,14),(!b2,11)] 2 rfl bB RR HRR.out _ (L5 w1 b1 (!b2) 14 11)).mono ?_;rintro e w2 ⟨rfl,hk2⟩;have HK2:=lH ((HK1.out.alloc _).trans hk2);clear hk2 hb1;have hL:s.data.toList.length=s.size:=by simp
 cases b1 with
 | true=>
  obtain rfl:RR=some 14:=HRR.out.symm;have HV:Kg s = .tuple #[CZ ⟨#[]⟩,.iface 208 (dK #[dH dN 14])]:=by
   have h:=of_decide_eq_true HB1.out;unfold Kg EV;rw [if_pos bB]
  replace HV:=lH HV;simp only [Fb];go_wp2_with (fail);go_ret2;exact⟨by rw [HV.out];rfl,HK2.out⟩
 | false=>
  have hle:s.size≤64:=by have:=of_decide_eq_false HB1.out;omega
  cases b2 with
  | false=>
   obtain rfl:RR=some 11:=HRR.out.symm;have HV:Kg s = .tuple #[CZ ⟨#[]⟩,.iface 208 (dK #[dH dN 11])]:=by
    have h:=HB2.out;unfold FQ at h;unfold Kg EV;rw [if_neg bB,if_pos (show s.data.toList.all Cs=false from h)]
   replace HV:=lH HV;simp only [Fb];go_wp2_with (fail);go_ret2;exact⟨by rw [HV.out];rfl,HK2.out⟩
  | true=>
   obtain rfl:RR=none:=HRR.out.symm;have HV:Kg s = .tuple #[CZ ⟨(textW s.data.toList).toArray⟩,.nilIface]:=by
    have h:=HB2.out;unfold FQ at h;unfold Kg EV;rw [if_neg bB,if_neg (by rw [show s.data.toList.all Cs=true from h];decide)]
   replace HV:=lH HV;simp only [Fb];have hasc:∀(j:Nat) b,s.data.toList[j]? = some b→b.toNat<128:=fun j b hj=>by
    have h:=HB2.out;unfold FQ at h;have:=(BB.1 h) b (Ex hj);unfold FH at this;simp only [Af,decide_eq_true_eq] at this;omega
   have HCA:=fun W=>Tryz.strings_ContainsAny_laid s ⟨#[32,34,92]⟩ W bB bE hasc (fun j b hj=>by
    have:=Ex hj;simp only [Ac,Ab,or_false] at this;rcases this with rfl | rfl | rfl<;>decide)
   obtain⟨q,hq⟩:=eX ((Lib.containsAny s.data.toList [32,34,92]));simp only [show(⟨#[32,34,92]⟩:ByteArray).data.toList = [32,34,92] from rfl,hq] at HCA;rw [Nj] at hq;have HQ:=lH hq;have hesc:(Cj s.data.toList).length≤128:=by
    rw [Ga];have:=List.countP_le_length (p:=qB) (l:=s.data.toList);omega
   have HCA:=lH HCA;have HASC:=lH hasc;clear hq hasc;cases hne:(s != ⟨#[]⟩) with
   | false=>
    have hs0:s=⟨#[]⟩:=by simpa using hne
    have HS0:=lH hs0;have hE:s.toList.isEmpty=true:=by rw [hs0,Ce];rfl
    clear hs0;go_wp2_with (fail);refine(Li (some ⟨w2,0,none⟩) 4 _ (Rz w2)).mono ?_;rintro e w3 ⟨rb,og,oc,rfl,hge,hb,hS,hne2,hk3⟩;have HR:=Kb rb og oc s bB w3 hb hS hne2;have HK3:=lH ((HK2.out).trans (((Aa.refl [] w2).alloc _).trans hk3));have HGE:=lH (As (((Aa.refl [] w2).alloc (.cells #[CZ ⟨#[34]⟩,CZ ⟨#[92,34]⟩,CZ ⟨#[92]⟩,CZ ⟨#[92,92]⟩] 9)).size) hge);clear hb hS hne2 hk3 hge;go_wp2_with (fail)
    with_reducible refine HR.mono ?_
    rintro e w4 ⟨rfl,hk4⟩;obtain⟨x,hx⟩:∃x:ByteArray,(⟨(Cj s.data.toList).toArray⟩:ByteArray)=x:=⟨_,rfl⟩;have hxs:x.size≤128:=by rw [← hx];show((Cj s.data.toList).toArray).size≤128;simpa using hesc
    have hx1:(⟨#[34]⟩:ByteArray).size+x.size≤9223372036854775807:=by rw [show(⟨#[34]⟩:ByteArray).size=1 from rfl];omega
    have hx2:((⟨#[34]⟩:ByteArray)++x).size+(⟨#[34]⟩:ByteArray).size≤9223372036854775807:=by rw [show(⟨#[34]⟩:ByteArray).size=1 from rfl,ByteArray.size_append,show(⟨#[34]⟩:ByteArray).size=1 from rfl];omega
    rw [hx];have HX:=lH hx;clear hx;have HK4:=lH (HK3.out.own hk4 (fun y hy=>by simp only [Ac,Ab,or_false] at hy;subst hy;have:=HGE.out;have:=HK2.out.size;omega));go_wp2_with (fail);go_ret2;refine⟨?_,HK4.out⟩;have hn:Gz s.data.toList=true:=by rw [HS0.out];rfl
    rw [HV.out,textW,if_pos hn,← Ph,HX.out];rfl
   | true=>
    have HNE:=lH hne;have hE:s.toList.isEmpty=false:=by
     rw [Ce];cases hl:s.data.toList with
     | cons=>rfl
     | nil=>
      exfalso;have:s=⟨#[]⟩:=by
       apply ByteArray.ext;exact Array.toList_eq_nil_iff.1 hl
      rw [this] at hne;exact absurd hne bE
    go_wp2_with (fail);refine(HCA.out _).mono ?_;rintro e w3' ⟨rfl,hbl⟩;have hca:Aa [] w2 w3':=Aa.of_below hbl [];clear hbl;cases q with
    | false=>
     go_wp2_with (fail);go_ret2;refine⟨?_,HK2.out.trans hca⟩;have hn:Gz s.data.toList=false:=by
      unfold Gz;rw [HQ.out,Bool.or_false];have h:=HNE.out;cases hl:s.data.toList with
      | cons=>rfl
      | nil=>
       exfalso;have:s=⟨#[]⟩:=by
        apply ByteArray.ext;exact Array.toList_eq_nil_iff.1 hl
       rw [this] at h;exact absurd h bE
     rw [HV.out,textW,if_neg (by rw [hn];decide)];rfl
    | true=>
     go_wp2_with (fail);refine(Li (some ⟨w3',0,none⟩) 4 _ (Rz w3')).mono ?_;rintro e w3 ⟨rb,og,oc,rfl,hge,hb,hS,hne2,hk3⟩;have HR:=Kb rb og oc s bB w3 hb hS hne2;have HK3:=lH ((HK2.out.trans hca).trans (((Aa.refl [] w3').alloc _).trans hk3));have HGE:=lH (As (((Aa.refl [] w3').alloc (.cells #[CZ ⟨#[34]⟩,CZ ⟨#[92,34]⟩,CZ ⟨#[92]⟩,CZ ⟨#[92,92]⟩] 9)).size) hge);clear hb hS hne2 hk3 hge;go_wp2_with (fail)
     with_reducible refine HR.mono ?_
     rintro e w4 ⟨rfl,hk4⟩;obtain⟨x,hx⟩:∃x:ByteArray,(⟨(Cj s.data.toList).toArray⟩:ByteArray)=x:=⟨_,rfl⟩;have hxs:x.size≤128:=by rw [← hx];show((Cj s.data.toList).toArray).size≤128;simpa using hesc
     have hx1:(⟨#[34]⟩:ByteArray).size+x.size≤9223372036854775807:=by rw [show(⟨#[34]⟩:ByteArray).size=1 from rfl];omega
     have hx2:((⟨#[34]⟩:ByteArray)++x).size+(⟨#[34]⟩:ByteArray).size≤9223372036854775807:=by rw [show(⟨#[34]⟩:ByteArray).size=1 from rfl,ByteArray.size_append,show(⟨#[34]⟩:ByteArray).size=1 from rfl];omega
     rw [hx];have HX:=lH hx;clear hx;have HK4:=lH (HK3.out.own hk4 (fun y hy=>by simp only [Ac,Ab,or_false] at hy;subst hy;have:=HGE.out;have:=(HK2.out.trans hca).size;omega));go_wp2_with (fail);go_ret2;refine⟨?_,HK4.out⟩;have hn:Gz s.data.toList=true:=by unfold Gz;rw [HQ.out,Bool.or_true]
     rw [HV.out,textW,if_pos hn,← Ph,HX.out];rfl
end
section
open Go.RowKit Go.Shelf
attribute [local go_sem] Oper.semAt_some N5 N6 N3 N4
attribute [local go_sem ↓] Go.wp_at_zero Go.wp_at_succ
theorem Le:∀l:List (List UInt8),Lib.join l [32]=DR l
 | []=>rfl
 | [x]=>by rw [Lib.join_one];rfl
 | x::y::l=>by
  have ih:=Le (y::l);rw [DR,← ih]
  ·simp [Lib.join,List.intercalate]
  ·intro h;cases h
theorem Hr:∀(l:List (List UInt8)) (s:List UInt8),Cd (l++[s])=(Cd l).bind fun m=>(EV s).bind fun t=>.ok (m++[t])
 | [],s=>by
  show(EV s).bind _=_;simp only [Cd,Except.bind,AX]
 | x::l,s=>by
  rw [A6,Cd,Cd,Hr l s];cases EV x with
  | error e=>rfl
  | ok t=>
   cases Cd l with
   | error e=>rfl
   | ok m=>
    cases EV s with
    | error e=>rfl
    | ok u=>rfl
theorem LN{l:List (List UInt8)}{e:Int}(h:Cd l = .error e)(r:List (List UInt8)):Cd (l++r) = .error e:=by
 induction r generalizing l with
 | nil=>rw [List.append_nil];exact h
 | cons x r ih=>
  rw [show l++x::r=(l++[x])++r by simp];refine ih ?_;rw [Hr,h];rfl
def JP(s:ByteArray):List UInt8:=s.data.toList
def Hj(L:List ByteArray):Value:=match DB (L.map JP) with
 | .error k=>.tuple #[CZ ⟨#[]⟩,.iface 208 (dK #[dH dN k])]
 | .ok t=>.tuple #[CZ ⟨t.toArray⟩,.nilIface]
theorem MC(B:Nat):∀l:List (List UInt8),(∀x∈l,x.length≤B)→(DR l).length≤l.length*(B+1)
 | [],_=>by simp [DR]
 | [x],h=>by have:=h x bA;simp [DR];omega
 | x::y::l,h=>by
  have ih:=MC B (y::l) (fun z hz=>h z (by simp at hz ⊢;exact .inr hz));have hx:=h x bA;rw [DR]
  ·simp only [Ag,Ao] at ih ⊢
   rw [Nat.add_mul (l.length+1) 1 (B+1)];omega
  ·intro hh;cases hh
theorem Tl(s:List UInt8)(h:s.length≤64):(textW s).length≤130:=by
 have h1:=Ga s;have h2:=List.countP_le_length (p:=qB) (l:=s);unfold textW;split
 ·simp;omega
 ·omega
theorem UI(a:Option Addr)(c:Nat)(xs:List ByteArray)(n:Nat)(hn:xs.length=n)(hN:n≤1000000)(w:World)(hS:IF w a c xs)(hl:(DR (xs.map JP)).length≤1000000):
  Calls Tryz.prog 119 #[dI a n c,CZ ⟨#[32]⟩] w fun e w'=>e = dM (CZ ⟨(DR (xs.map JP)).toArray⟩)∧Aa [] w w':=by
 cases xs with
 | nil=>
  subst hn;refine(Tryz.strings_Join_none a c ⟨#[32]⟩ w).mono ?_;rintro e w' ⟨rfl,rfl⟩;exact⟨rfl,Aa.refl _ _⟩
 | cons x l=>
  obtain⟨g,off,rfl,hg,hc⟩:=hS.at_ bA;have hj:∀m:List (List UInt8),Lib.join m (⟨#[32]⟩:ByteArray).data.toList=DR m:=fun m=>Le m;have:=Tryz.strings_Join g off c (x::l) ⟨#[32]⟩ w (fun j y hy=>by
   obtain⟨h1,h2⟩:=Ad.1 hy;have:=hc j h1 0 (CZ y) (by rw [h2];rfl);simpa using this) hg bB hS.le (by rw [hj];exact As hl bE)
  rw [hj,hn] at this;exact this.mono (fun e w' h=>⟨h.1,Aa.of_below h.2 []⟩)
theorem MH:Dj (Tryz.prog.info? 9) 1=true:=by kernel_rfl
theorem Pc(a:Option Addr)(c n:Nat)(L:List ByteArray)(hn:L.length=n)(h1000:n≤1000)(w:World)(hS:IF w a c L):Calls Tryz.prog 55 #[dI a n c] w fun e w'=>e = dM (Hj L)∧Aa [] w w':=by
 obtain⟨b1,hb1⟩:=eX (decide ((12:Int)<(n:Int)));have HB1:=lH hb1;obtain⟨RR,hRR⟩:=eX (Cc [(b1,15)]);have HRR:=lH hRR;have HS:=lH hS;have HN:=lH hn;clear hRR hS hn;go_enter Tryz.func55,Tryz.ntmps55;go_wp2_with (fail);refine(Ch (some ⟨w,0,none⟩) 1 [(b1,15)] 1 rfl bB RR HRR.out _ (Ho w b1 15)).mono ?_;rintro e w2 ⟨rfl,hk2⟩;have HK2:=lH (((Aa.refl [] w).alloc _).trans hk2);clear hk2 hb1;cases b1 with
 | true=>
  obtain rfl:RR=some 15:=HRR.out.symm;have HV:Hid (Hj L = .tuple #[CZ ⟨#[]⟩,.iface 208 (dK #[dH dN 15])]):=lH (by
   have h:=of_decide_eq_true HB1.out;unfold Hj DB;rw [if_pos aB])
  simp only [Fb];go_wp2_with (fail);go_ret2;exact⟨by rw [HV.out];rfl,HK2.out⟩
 | false=>
  obtain rfl:RR=none:=HRR.out.symm;have h12:n≤12:=by have:=of_decide_eq_false HB1.out;omega
  simp only [Fb];go_wp2_with (fail);go_loopw [23,4] (fun i o wr=>∃(k:Nat) (m:List (List UInt8)),i = dH dN k∧k≤n∧Hid (Cd ((L.take k).map JP) = .ok m)∧Hid (m.length=k)∧Hid (wr.ownsRow w.heap.size 9 1 o (m.map CB).length ((m.map CB).flatMap EZ))∧Hid (Aa [] w wr)) (fun i _ _=>n - (intOf i).toNat)
  case atStart=>exact⟨0,[],rfl,Cy _,lH rfl,lH rfl,lH (Bz _ _ _ _),HK2⟩
  case round=>
   clear HK2;obtain⟨k,m,rfl,hk,HW,HM,HR,HK⟩:=hrel;by_cases hlt:k<n
   ·obtain⟨g,off,s,rfl,hg,hx,hat⟩:=(HS.out.keeps HK.out).at_k (k:=k) bO
    have q0:=hat 0 (CZ s) rfl;rw [CG,Nat.mul_one] at q0;have i1:(0:Int)≤(k:Int):=by omega
    have i2:(k:Int)<(n:Int):=by omega
    have HX:=lH hx;have HT:Hid (Cd ((L.take (k+1)).map JP)=(EV (JP s)).bind fun t=>.ok (m++[t])):=lH (by
     rw [List.take_add_one,hx,Option.toList_some,List.map_append,List.map_singleton,Hr,HW.out];rfl)
    clear hat hg hx;go_wp2_with (fail);refine(SK s wr).mono ?_;rintro e w3 ⟨rfl,hk3⟩;have HK3:=lH (HK.out.trans hk3);have hrow:=Ak HR.out hk3 (fun _ _=>by simp);clear hk3;unfold Kg;cases hw:EV s.data.toList with
    | error e=>
     have HV:Hid (Hj L = .tuple #[CZ ⟨#[]⟩,.iface 208 (dK #[dH dN e])]):=lH (by
      unfold Hj DB;rw [if_neg aB];have h1:Cd ((L.take (k+1)).map JP) = .error e:=by rw [HT.out,show EV (JP s) = .error e from hw];rfl
      have h2:=LN h1 ((L.drop (k+1)).map JP);rw [← List.map_append,Bj] at h2;rw [h2];rfl)
     clear hw hrow;simp only [];go_wp2_with (fail);go_ret2;exact⟨by rw [HV.out];rfl,HK3.out⟩
    | ok t=>
     have HT2:Hid (Cd ((L.take (k+1)).map JP) = .ok (m++[t])):=lH (by rw [HT.out,show EV (JP s) = .ok t from hw];rfl);obtain⟨g4,c4,W4,hrun,hrow4,hk4,hge⟩:=C8 (enc:=EZ) Tryz.prog (t:=41) Tryz.underlying41 MH bE D9 FZ hrow HK3.out.size (CB t) (by rw [BX,HM.out];omega) 41;rw [BX,HM.out] at hrun;have HROW:Hid (W4.ownsRow w.heap.size 9 1 (dI (some ⟨g4,0,none⟩) (k+1) c4) ((m++[t]).map CB).length (((m++[t]).map CB).flatMap EZ)):=lH (by
      rw [BX,HM.out] at hrow4;rw [List.map_append];exact hrow4)
     have HK4:=lH (HK3.out.own hk4 (fun y hy=>(hrow.lt y bU).1));have HM2:Hid ((m++[t]).length=k+1):=lH (by rw [Ag,HM.out];rfl);simp only [EZ,CB] at hrun;clear hw hrow hrow4 hk4 hge;simp only [];go_wp2_with (at_builtin;refine Ar _ rfl _ _ 41 rfl rfl rfl hrun ?_);go_roundw;case rel=>exact⟨k+1,m++[t],by go_num,by omega,HT2,HM2,HROW,HK4⟩
     case measure=>simp [intOf];omega
   ·obtain rfl:k=n:=by omega
    rw [Ax (by rw [HN.out];omega)] at HW;have hmp:=IC HW.out;have hmm:m.map (fun x=>JP (CB x))=m:=by
     have:(fun x:List UInt8=>JP (CB x))=id:=by funext x;simp [JP,CB]
     rw [this,List.map_id]
    obtain⟨oa,oc,rfl,hos,_⟩:=AJ.of_row D9 HR.out;have hjl:(DR m).length≤2000:=by
     have h1:=MC 130 m (fun x hx=>by
      rw [hmp.1] at hx;obtain⟨y,hy,rfl⟩:=Ee.1 hx;exact Tl y (hmp.2 y hy).1)
     have:=HM.out;omega
    have HJ:=UI oa oc (m.map CB) k (by rw [BX,HM.out]) bB wr hos (by rw [List.map_map];exact As (by rw [show JP ∘ CB=fun x=>JP (CB x) from rfl,hmm];exact hjl) bE);rw [List.map_map,show JP ∘ CB=fun x=>JP (CB x) from rfl,hmm] at HJ;rw [BX,HM.out];have HMP:=lH hmp;obtain⟨x,hx⟩:∃x:ByteArray,(⟨(DR m).toArray⟩:ByteArray)=x:=⟨_,rfl⟩;have hxs:x.size=(DR m).length:=by rw [← hx];show(DR m).toArray.size=_;simp
    rw [hx] at HJ;have HX:=lH hx;obtain⟨b2,hb2⟩:=eX (decide ((300:Int)<(x.size:Int)));have HB2:=lH hb2;obtain⟨R2,hR2⟩:=eX (Cc [(b2,10)]);have HR2:=lH hR2;have HXS:=lH hxs;have hx0:x.size≤2000:=by omega
    clear hmp hmm hos hjl hx hR2 hxs;go_wp2_with (fail)
    with_reducible refine HJ.mono ?_
    rintro e w5 ⟨rfl,hk5⟩;have HK5:=lH (HK.out.trans hk5);clear hk5;go_wp2_with (fail);refine(Ch (some ⟨w5,0,none⟩) 1 [(b2,10)] 1 rfl bB R2 HR2.out _ (Ho w5 b2 10)).mono ?_;rintro e w6 ⟨rfl,hk6⟩;have HK6:=lH ((HK5.out.alloc _).trans hk6);clear hk6 hb2;have HV:Hid (Hj L=if b2 then .tuple #[CZ ⟨#[]⟩,.iface 208 (dK #[dH dN 10])] else .tuple #[CZ x,.nilIface]):=lH (by
     unfold Hj DB;rw [if_neg aB,HW.out];simp only [Except.bind];rw [← HB2.out];by_cases h:300<(DR m).length
     ·rw [if_pos h,if_pos (by rw [decide_eq_true_iff,HXS.out];omega)]
     ·rw [if_neg h,if_neg (by rw [decide_eq_true_iff,HXS.out];omega),← HX.out])
    cases b2 with
    | true=>
     obtain rfl:R2=some 10:=HR2.out.symm;simp only [Fb];go_wp2_with (fail);go_ret2;exact⟨by rw [HV.out];rfl,HK6.out⟩
    | false=>
     obtain rfl:R2=none:=HR2.out.symm;simp only [Fb];go_wp2_with (fail);go_ret2;exact⟨by rw [HV.out];rfl,HK6.out⟩
def Hi(L:List ByteArray):ByteArray×Int:=match DB (L.map JP) with
 | .error k=>(⟨#[]⟩,k)
 | .ok t=>(⟨t.toArray⟩,0)
theorem Jz(a:Option Addr)(c n:Nat)(L:List ByteArray)(hn:L.length=n)(h1000:n≤1000)(w:World)(hE:Et w)(hS:IF w a c L):Calls Tryz.prog 22 #[dI a n c] w fun e w'=>e = dM (.tuple #[CZ (Hi L).1,dH dN (Hi L).2])∧Aa [] w w':=by
 have HE:=lH hE;have HP:=Pc a c n L hn h1000 w hS;clear hE hn hS;obtain⟨R,hR⟩:=eX (DB (L.map JP));unfold Hj at HP;unfold Hi;rw [hR] at HP ⊢;clear hR;cases R with
 | error k=>
  simp only [] at HP ⊢;go_enter Tryz.func22,Tryz.ntmps22;go_wp2_with (fail)
  with_reducible refine HP.mono ?_
  rintro e w1 ⟨rfl,hk⟩;have HK:=lH hk;clear hk;go_wp2_with (fail);refine(ErO.told_why k _ (HE.out.keeps HK.out bA)).mono ?_;rintro e w2 ⟨rfl,hk⟩;have HK2:=lH (HK.out.trans hk);clear hk;go_wp2_with (fail);go_ret2;exact⟨rfl,HK2.out⟩
 | ok t=>
  simp only [] at HP ⊢;go_enter Tryz.func22,Tryz.ntmps22;go_wp2_with (fail)
  with_reducible refine HP.mono ?_
  rintro e w1 ⟨rfl,hk⟩;have HK:=lH hk;clear hk;go_wp2_with (fail);refine(ErO.told_nil _).mono ?_;rintro e w2 ⟨rfl,hk⟩;have HK2:=lH (HK.out.trans hk);clear hk;go_wp2_with (fail);go_ret2;exact⟨rfl,HK2.out⟩
def E7(a:Int)(k:Nat):Int:=a / (2:Int) ^ (24 - 8*k) % 256
theorem Ni(x:Int)(h0:0≤x)(h1:x≤4294967295):bits .and .i64 x 255=x % 256:=by
 obtain⟨n,rfl⟩:∃n:Nat,x=n:=⟨x.toNat,by omega⟩;have h:=KA n 255 bB bB;have h2:n &&& 255=n % 256:=Nat.and_two_pow_sub_one_eq_mod n 8;rw [h2] at h;rw [show(255:Int)=((255:Nat):Int) from rfl,h];omega
theorem QB(a:Int)(h0:0≤a)(h1:a≤4294967295):E7 a 0=bits .and .i64 (a / 16777216) 255∧E7 a 1=bits .and .i64 (a / 65536) 255∧E7 a 2=bits .and .i64 (a / 256) 255∧E7 a 3=bits .and .i64 a 255:=by
 rw [Ni _ bB bB,Ni _ bB bB,Ni _ bB bB,Ni _ bB bB];refine⟨rfl,rfl,rfl,?_⟩;show a / 1 % 256=_;rw [Int.ediv_one]
def Lc(a:Int)(k:Nat):Array Value:=#[dH dN (E7 a k)]
theorem Qt(a:Int)(w:World):Calls Tryz.prog 344 #[dH dN a] w fun e w'=>e = dM (.func (.func 357) #[] #[dJ (some ⟨w,0,none⟩)])∧w.alloc (.cells #[dH dN a] 3)=w':=by
 go_enter Tryz.func344,Tryz.ntmps344;go_wp2;go_ret;exact⟨rfl,rfl⟩
theorem Qs(n l pb:Nat)(a:Int)(h0:0≤a)(h1:a≤4294967295)(J Jx:List Nat→World→Prop)(W:World)(hJ:Nf [] J)(hV:∀z A,J z A→A.cell? ⟨pb,0,none⟩=some (dH dN a))
 (hY:∀pre x W1,J pre W1→pre++[x] <+: A0 4→YieldAt Ba (n - 1) Tryz.prog l (Lc a x) W1 fun e W'=>
   (e = dM (dL true)∧J (pre++[x]) W')∨(e = dM (dL false)∧Jx (pre++[x]) W'))
 (hJ0:J [] W):
  CallsIn Ba n Tryz.prog 357 #[.func (.yield l) #[] #[],dJ (some ⟨pb,0,none⟩)] W fun e W'=>(∃v,e = dM v)∧
   (J (A0 4) W'∨(∃pre,pre <+: A0 4∧Jx pre W')):=by
 have HV:=lH hV;have HY:=lH hY;have HST:=lH hJ;have HJ0:Hid (J (A0 0) W):=lH (by simpa using hJ0);clear hV hY hJ0 hJ;have hn1:Fence.wide.depth.isSome=true→1≤n:=by intro h;cases h
 refine callsIn_of_wp Tryz.func357 rfl trivial ?_ rfl;simp only [Tryz.ntmps357,Cx,Ao,Eh,Nat.reduceAdd,Nat.reduceSub,Bc,Bd,By,B0,AX,A6];gi_wp2;refine Br (wpIn_seq (wpIn_label ?_));gi_wp2
 gi_loopw [3] (fun i wr=>∃k:Nat,i = dH dN (24 - 8*(k:Int))∧k≤4∧Hid (J (A0 k) wr)) (fun i _=>(intOf i+8).toNat)
 case atStart=>exact⟨0,rfl,Cy _,HJ0⟩
 case round=>
  obtain⟨k,rfl,hk,HJs⟩:=hrel;have hc:=HV.out _ _ HJs.out;by_cases hlt:k<4
  ·have hy0:=Cv (HY.out _ _ _ HJs.out (Bv hlt))
   rw [← AY] at hy0;obtain⟨fnn,tmps,assign,body,hy,hR⟩:=hy0;have hP:=QB a h0 h1;have:k=0∨k=1∨k=2∨k=3:=by omega
   rcases this with rfl | rfl | rfl | rfl
   ·simp only [Lc] at hy
    rw [hP.1] at hy;gi_wp2;refine⟨hn1,?_⟩;refine hR.mono ?_;rintro e W3 ⟨g,rfl,hT,hF⟩;clear hR hy hc;cases g with
    | false=>
     have hJx:=lH (hF.out rfl);clear hT hF;gi_wp2;try rw [AH]
     go_end0
     exact⟨⟨_,rfl⟩,.inr ⟨_,by rw [AY];exact Bv hlt,hJx.out⟩⟩
    | true=>
     have HJ3:=lH (hT.out rfl);clear hT hF;gi_wp2;go_roundw;case rel=>exact⟨0+1,by go_num,by omega,HJ3⟩
     case measure=>simp [intOf]
   ·simp only [Lc] at hy
    rw [hP.2.1] at hy;gi_wp2;refine⟨hn1,?_⟩;refine hR.mono ?_;rintro e W3 ⟨g,rfl,hT,hF⟩;clear hR hy hc;cases g with
    | false=>
     have hJx:=lH (hF.out rfl);clear hT hF;gi_wp2;try rw [AH]
     go_end0
     exact⟨⟨_,rfl⟩,.inr ⟨_,by rw [AY];exact Bv hlt,hJx.out⟩⟩
    | true=>
     have HJ3:=lH (hT.out rfl);clear hT hF;gi_wp2;go_roundw;case rel=>exact⟨1+1,by go_num,by omega,HJ3⟩
     case measure=>simp [intOf]
   ·simp only [Lc] at hy
    rw [hP.2.2.1] at hy;gi_wp2;refine⟨hn1,?_⟩;refine hR.mono ?_;rintro e W3 ⟨g,rfl,hT,hF⟩;clear hR hy hc;cases g with
    | false=>
     have hJx:=lH (hF.out rfl);clear hT hF;gi_wp2;try rw [AH]
     go_end0
     exact⟨⟨_,rfl⟩,.inr ⟨_,by rw [AY];exact Bv hlt,hJx.out⟩⟩
    | true=>
     have HJ3:=lH (hT.out rfl);clear hT hF;gi_wp2;go_roundw;case rel=>exact⟨2+1,by go_num,by omega,HJ3⟩
     case measure=>simp [intOf]
   ·simp only [Lc] at hy
    rw [hP.2.2.2] at hy;gi_wp2;refine⟨hn1,?_⟩;refine hR.mono ?_;rintro e W3 ⟨g,rfl,hT,hF⟩;clear hR hy hc;cases g with
    | false=>
     have hJx:=lH (hF.out rfl);clear hT hF;gi_wp2;try rw [AH]
     go_end0
     exact⟨⟨_,rfl⟩,.inr ⟨_,by rw [AY];exact Bv hlt,hJx.out⟩⟩
    | true=>
     have HJ3:=lH (hT.out rfl);clear hT hF;gi_wp2;go_roundw;case rel=>exact⟨3+1,by go_num,by omega,HJ3⟩
     case measure=>simp [intOf]
  ·obtain rfl:k=4:=by omega
   gi_wp2;try rw [AH]
   go_end0
   exact⟨⟨_,rfl⟩,.inl HJs.out⟩
theorem Qu(n pb:Nat)(a:Int)(h0:0≤a)(h1:a≤4294967295):
  NQ Ba n Tryz.prog 357 #[dJ (some ⟨pb,0,none⟩)] (Lc a) (A0 4) (fun A=>A.cell? ⟨pb,0,none⟩=some (dH dN a)):=fun l J Jx W hJ _ hV hY hJ0=>
 Qs n l pb a h0 h1 J Jx W hJ hV hY hJ0
end
section
open Go.RowKit Go.Shelf
def Gp(w:World):Prop:=Lib.TabIs Tryz.prog w "internal/strconv.uint64pow10" .u64 Lib.pow10Tab
theorem P2:∃g,Tryz.prog.globalNamed "internal/strconv.uint64pow10" = some g:=by
 have h:(Tryz.prog.globalNamed "internal/strconv.uint64pow10").isSome=true:=by kernel_rfl
 exact BJ.1 h
theorem Gp.keeps{w w':World}(h:Gp w)(hk:Aa [] w w'):Gp w':=by
 obtain⟨g,hg⟩:=P2;exact Joins.tab_stays hg h (hk.below (Ap _) (fun k hk=>by cases hk)) (Ap _)
theorem F0(n:Int)(h0 : -9223372036854775808≤n)(h1:n≤9223372036854775807)(w:World)(hT:Gp w):
  Calls Tryz.prog 108 #[dH dN n] w fun e w'=>e = dM (CZ (AU n))∧Aa [] w w':=by
 refine(Tryz.strconv_Itoa n h0 h1 w hT).mono ?_;rintro e w' ⟨rfl,k,os,rfl⟩;refine⟨by unfold AU str;rw [UE h0 h1],?_⟩;exact Aa.of_below (Lib.below_grow w.heap.size w (Ap _) k os) []
end
section
open Go.RowKit Go.Shelf
attribute [local go_sem] Oper.semAt_some N5 N6 N3 N4
attribute [local go_sem ↓] Go.wp_at_zero Go.wp_at_succ
def Hf(a:Int)(k:Nat):ByteArray:=AU (E7 a k)
structure Xb(w:World)(a:Int)(ns:List ByteArray)(A:World):Prop where
 run:∃x,A.ownsRow (w.heap.size+4) 9 1 x ns.length (ns.flatMap EZ)∧Blk A w.heap.size 41 #[x]
 pb:Blk A (w.heap.size+1) 3 #[dH dN a]
 kw:Aa [] w A
theorem Xb.keeps{w:World}{a:Int}{ns:List ByteArray}{A A':World}{S:List Nat}(h:Xb w a ns A)(hk:Aa S A A')(hS:∀y∈S,w.heap.size+2≤y∧y<w.heap.size+4):Xb w a ns A':=by
 obtain⟨x,h1,h2⟩:=h.run;have hn:∀y,y<w.heap.size+2→y∉S:=fun y hy hm=>by have:=hS y hm;omega
 exact⟨⟨x,Ak h1 hk (fun g hg2 hm=>by have:=(h1.lt g hg2).1;have:=hS g hm;omega),h2.keeps hk (hn _ bB)⟩,h.pb.keeps hk (hn _ bB),h.kw.own hk bM⟩
theorem Va(a:Int)(k:Nat):0≤E7 a k∧E7 a k≤255:=by
 unfold E7;omega
theorem KL:∀(k u:Nat),(Nv k u).length≤k+1
 | 0,_=>by simp [Nv]
 | k+1,u=>by
  rw [Nv];split
  ·simp
  ·have:=KL k (u / 10)
   simp;omega
theorem Dv(n:Int):(itoaL n).length≤22:=by
 unfold itoaL;split
 ·have:=KL 20 n.natAbs;simp;omega
 ·have:=KL 20 n.toNat;omega
theorem DM(l:List UInt8):(str l).data.toList=l:=rfl
theorem Ms(a:Int):(Lib.join (((A0 4).map (Hf a)).map (·.data.toList)) [46])=EN a:=by
 show Lib.join [itoaL (E7 a 0),itoaL (E7 a 1),itoaL (E7 a 2),itoaL (E7 a 3)] [46]=_;have h3:E7 a 3=a % 256:=by show a / 1 % 256=_;rw [Int.ediv_one]
 rw [h3];simp [Lib.join,List.intercalate,EN,E7]
theorem Gq(a:Int):(EN a).length≤100:=by
 have h1:=Dv (a / 16777216 % 256);have h2:=Dv (a / 65536 % 256);have h3:=Dv (a / 256 % 256);have h4:=Dv (a % 256);unfold EN;simp;omega
theorem Qr(a:Int)(ha:GW a=true)(w:World)(hT:Gp w):Calls Tryz.prog 321 #[dH dN a] w fun e w'=>e = dM (.tuple #[CZ (str (EN a)),dH dN 0])∧Aa [] w w':=by
 refine(callsIn_wide (n:=9)).1 ?_;have h01:0≤a∧a≤4294967295:=by unfold GW at ha;simpa using ha
 have HT:=lH hT;clear hT;refine callsIn_of_wp_marks Tryz.func321 rfl trivial ?_ rfl;simp only [Tryz.ntmps321,Cx,Ao,Eh,Nat.reduceAdd,Nat.reduceSub,Bc,Bd,By,B0,AX,A6];gi_wp2_with (fail);refine⟨trivial,(callsIn_wide.2 (La a true ha _)).mono ?_⟩;rintro e w0 ⟨rfl,rfl⟩;gi_wp2_with (fail);refine⟨trivial,(callsIn_wide.2 (Qt a _)).mono ?_⟩;rintro e w1 ⟨rfl,hw1⟩;gi_wp2_with (fail);have hsz:w1.heap.size=w.heap.size+2:=by rw [← hw1];simp
 have hI0:Xb w a [] w1:=by
  have hk:Aa [] w w1:=by rw [← hw1];exact((Aa.refl [] w).alloc _).alloc _
  refine⟨⟨dI none 0 0,Bz _ _ _ _,?_⟩,?_,hk⟩<;>rw [← hw1]
  ·exact(Blk.new w _ _).alloc _
  ·exact Aq _ _ _ _ bA
 have HI0:=lH hI0;clear hI0 hw1;refine Bx rfl bB (gf:=357) (lb:=#[dJ (some ⟨w.heap.size+1,0,none⟩)]) rfl trivial (enters_of Tryz.func357 bC rfl) (Qu 8 (w.heap.size+1) a h01.1 h01.2) (fun _=>rfl)
  (fun pre A=>Xb w a ((A0 pre.length).map (Hf a)) A) (fun _ _=>False)
  (fun pre A A' h hk=>h.keeps hk bF)
  (fun pre A A' h hk=>h)
  (fun pre A h=>h.pb.cell 0) HI0.out
  (fun k W=>(({ tmps:=#[dH dN a,undef,CZ ⟨#[]⟩,dH dN 0,dJ (some ⟨w,0,none⟩),dH dN (E7 a k),dH dN a,dL true,dL false,dH dN a,
     .func (.func 357) #[] #[dJ (some ⟨w.heap.size+1,0,none⟩)],dH dN (E7 a k),undef,undef,undef,undef,undef,undef,undef],defers:=[] } : Act),W))
  (fun k W=>Aa.refl [] W) ?assign ?body ?done ?stop
 case assign=>
  intro l k W K hK;simp only [Lc];dsimp only at hK;gi_wp2;exact hK
 case body=>
  rintro l pre k W W2 hI hpre hsz2 hk2;obtain⟨rfl,hkn⟩:=DN hpre;dsimp only at hk2 ⊢;rw [A8] at hI;have hszW:W.heap.size≤W2.heap.size:=hk2.size;have hI2:=hI.keeps hk2 bF;have HNS:Hid ((A0 (A0 k++[k]).length).map (Hf a)=(A0 k).map (Hf a)++[Hf a k]):=lH (by rw [Ag,A8,AW,AY,List.map_append];rfl);obtain⟨ns,hns⟩:=eX ((A0 k).map (Hf a));have hlen:ns.length≤4:=by rw [← hns,BX,A8];omega
  rw [hns] at hI2 HNS;obtain⟨x,hrow,hob⟩:=hI2.run;have q0:=hob.rl;obtain⟨t,ht⟩:=eX (Hf a k);have hpi:=Va a k;have HTB:Hid (∀V,Aa [] W2 V→Gp V):=lH fun V hV=>(HT.out.keeps hI2.kw).keeps hV;have HIT:Hid (∀V,Aa [] W2 V→Calls Tryz.prog 108 #[dH dN (E7 a k)] V fun e w'=>e = dM (CZ t)∧Aa [] V w'):=lH fun V hV=>by rw [← ht];exact F0 _ bB bB V (HTB.out V hV)
  have HPU:Hid (∀V,Aa [] W2 V→∃g c W4,(Bo #[41,41] 41 #[x,dI (some ⟨V,0,none⟩) 1 1]).run Tryz.prog (V.alloc (.cells #[CZ t] 9)) = .ok (dI (some ⟨g,0,none⟩) (ns.length+1) c) W4∧
    (∀i,W4.cell? ⟨w,i,none⟩=#[x][i]?)∧(∀i,W4.frozen? ⟨w,i,none⟩=false)∧
    Hm w1.heap.size (fun pre A=>Xb w a (List.map (Hf a) (A0 pre.length)) A) (fun _ _=>False) (A0 k++[k]) W2 .normal { tmps:=#[],defers:=[] } (W4.setCell ⟨w,0,none⟩ (dI (some ⟨g,0,none⟩) (ns.length+1) c))):=lH fun V hV=>by
   have hrowV:=Ak hrow hV (fun _ _=>by simp);obtain⟨g,c,W4,hrun,hrow4,hk4,hge⟩:=C8 (enc:=EZ) Tryz.prog (t:=41) Tryz.underlying41 MH bE D9 FZ hrowV (by have:=hV.size;omega) t bB 41;have hgeS:=AP hrowV;have hkW:Aa x.ownBlock.toList W2 W4:=(hV.mono bA).trans hk4;have ob4:=hob.keeps hkW (fun hm=>by have:=hgeS _ hm;omega);have hk5:Aa [w.heap.size] W4 (W4.setCell ⟨w,0,none⟩ (dI (some ⟨g,0,none⟩) (ns.length+1) c)):=(Aa.refl _ _).setCell (.inl bA) _;refine⟨g,c,W4,hrun,ob4.cell,ob4.frozen,As hkW.size hk5.size,fun y hy=>?_,?_⟩
   ·simp only [Ac,Ab,or_false] at hy
    exact(hk5.block y (by have:=hkW.size;omega) bG).trans (hkW.block y bB (fun hm=>by have:=hgeS y hm;omega))
   ·show Xb w a (List.map (Hf a) (A0 (A0 k++[k]).length)) _
    rw [HNS.out,ht];have hob5:Blk (W4.setCell ⟨w,0,none⟩ (dI (some ⟨g,0,none⟩) (ns.length+1) c)) w.heap.size 41 #[dI (some ⟨g,0,none⟩) (ns.length+1) c]:=ob4.set_ 0 _;refine⟨⟨_,?_,hob5⟩,(hI2.pb.keeps hkW (fun hm=>by have:=hgeS _ hm;omega)).keeps hk5 bA,(hI2.kw.own hkW Y8).own hk5 bF⟩;have h9:=Ak hrow4 hk5 (fun g' hg' hm'=>by have:=(hrow4.lt g' hg').1;simp only [Ac,Ab,or_false] at hm';omega);rw [show(ns++[t]).length=ns.length+1 by simp] at h9 ⊢;exact h9
  clear hI hpre hk2 hI2 hob hrow hns ht hpi;gi_wp2_with (fail);refine Be (S:=(fun _:World=>True)) bC bC (fun _ _ h=>h) trivial (fun hHeld=>?_)
  repeat' (first | exact rZ | refine rX ?_ | ((first | (refine rA 0 (fun K hK=>?_) ?_;go_simp) | (refine rA 2 (fun K hK=>?_) ?_;go_simp;(refine(HIT.out _ ((Aa.refl [] W2).drew)).mono ?_;rintro e w3 ⟨rfl,hk3⟩;have r3:=(((Aa.refl [] W2).drew).trans hk3).rl;have hk3:=lH (((Aa.refl [] W2).drew).trans hk3))) | (refine rA 3 (fun K hK=>?_) ?_;go_simp) | (refine rA 4 (fun K hK=>?_) ?_;(obtain⟨g,c,W4,hrun,r4,f4,hfin⟩:=HPU.out _ hk3.out;have hfin:=lH hfin;refine BA _ _ 41 bD bD bD bD hrun ?_)) | (refine rA 5 (fun K hK=>?_) ?_;go_simp));refine rO hK trivial fun hHeld=>?_;clear hK K) | (refine rQ 1 ?_) | refine rB [0,2,3,4,5] ?_ | (refine wpAnyH_done bC ?_ _;exact hfin.out))
 case done=>
  rintro W hI hsz2 hK;rw [hsz] at hK;have hI:Xb w a ((A0 4).map (Hf a)) W:=hI;obtain⟨x,hrow,hob⟩:=hI.run;have q0:=hob.rl;obtain⟨oa,oc,rfl,hsl,_⟩:=AJ.of_row D9 hrow;have HJ:Calls Tryz.prog 119 #[dI oa 4 oc,CZ ⟨#[46]⟩] W fun e w'=>e = dM (CZ (str (EN a)))∧Aa [] W w':=by
   obtain⟨g,off,rfl,hg,hc⟩:=hsl.at_ bA;have:=Tryz.strings_Join g off oc ((A0 4).map (Hf a)) ⟨#[46]⟩ W (fun j y hy=>by
    obtain⟨h1,h2⟩:=Ad.1 hy;have:=hc j h1 0 (CZ y) (by rw [h2];rfl);simpa using this) hg bA hsl.le (by
     rw [show(⟨#[46]⟩:ByteArray).data.toList = [46] from rfl,Ms];exact As (Gq a) bE)
   rw [show(⟨#[46]⟩:ByteArray).data.toList = [46] from rfl,Ms] at this;exact this.mono (fun e w' h=>⟨h.1,Aa.of_below h.2 []⟩)
  have HKW:=lH hI.kw;have HLT:Hid (w.heap.size+2<W.heap.size):=lH (Aj.1 hK).1;clear hI hrow hob hsl;gi_wp2_with (fail);refine⟨trivial,(callsIn_wide.2 HJ).mono ?_⟩;rintro e w3 ⟨rfl,hk3⟩;have hK3:w3.heap[w.heap.size+2]? = some (.deferred (some [])):=(hk3.block _ HLT.out bA).trans hK;have HK3:=lH (HKW.out.trans hk3);clear hk3 hK;gi_wp2_with (fail);refine⟨by simp,.inl ⟨_,_,rfl,run_takeDeferred hK3,?_⟩⟩;have hk4:=Az (S:=[w.heap.size+2]) w3 (.deferred none) (l:=w.heap.size+2) bA;refine⟨_,by simp [results,Tryz.results321,go_sem],rfl,HK3.out.own hk4 bF⟩
 case stop=>
  rintro pre W hpre hX hsz2 hK;exact hX.elim
theorem FK(a b:List UInt8):(str a++str b:ByteArray)=str (a++b):=by
 apply ByteArray.ext;simp [str]
theorem CC(a:List UInt8):(str a).size=a.length:=by
 show a.toArray.size=_;simp
theorem JB(a n:Int)(hb:EL a n=true)(w:World)(hT:Gp w):Calls Tryz.prog 275 #[dK #[dH dN a,dH dN n]] w fun e w'=>e = dM (.tuple #[CZ (str (prefixText a n)),dH dN 0])∧Aa [] w w':=by
 have hp:GW a=true∧0≤n∧n≤32:=by
  unfold EL at hb;simp only [Af,decide_eq_true_eq] at hb;unfold GW;simp only [Af,decide_eq_true_eq];omega
 obtain⟨w0,hw0⟩:=eX (w.alloc (.cells #[dH dN a,dH dN n] 55));have hk0:Aa [] w w0:=by rw [← hw0];exact(Aa.refl [] w).alloc _
 have hb0:Blk w0 w.heap.size 55 #[dH dN a,dH dN n]:=by rw [← hw0];exact Blk.new w _ _
 have q0:=hb0.rl;have HT:=lH hT;clear hT;go_enter Tryz.func275,Tryz.ntmps275;go_wp2_with (fail);refine(I4 a n true hb w0).mono ?_;rintro e w1 ⟨rfl,hk1⟩;have hb1:=hb0.keeps hk1 bA;have q1:=hb1.rl;have hK1:=hk0.trans hk1;clear hw0 hb0 q0 hk1;go_wp2_with (fail);refine(Qr a hp.1 w1 (HT.out.keeps hK1)).mono ?_;rintro e w2 ⟨rfl,hk2⟩;have hb2:=hb1.keeps hk2 bA;have q2:=hb2.rl;have hK2:=hK1.trans hk2;have hl1:=Gq a;obtain⟨x,hx⟩:=eX (str (EN a));have hxs:x.size≤100:=by rw [← hx,CC];exact hl1
 have hx1:x.size+(⟨#[47]⟩:ByteArray).size≤9223372036854775807:=by rw [show(⟨#[47]⟩:ByteArray).size=1 from rfl];omega
 have hin:=F0 n bB bB;obtain⟨y,hy⟩:=eX (AU n);have hys:y.size≤22:=by rw [← hy,AU,CC];exact Dv n
 have hx2:(x++(⟨#[47]⟩:ByteArray)).size+y.size≤9223372036854775807:=by rw [ByteArray.size_append,show(⟨#[47]⟩:ByteArray).size=1 from rfl];omega
 have HXY:Hid ((x++(⟨#[47]⟩:ByteArray))++y=str (prefixText a n)):=lH (by
  rw [← hx,← hy,AU,show(⟨#[47]⟩:ByteArray)=str [47] from rfl,FK,FK];unfold prefixText;simp)
 rw [hx];rw [hy] at hin;have HIN:=lH hin;clear hb1 q1 hk2 hk0 hx hy hin hb;go_wp2_with (fail);refine(HIN.out w2 (HT.out.keeps hK2)).mono ?_;rintro e w3 ⟨rfl,hk3⟩;have hK3:=hK2.trans hk3;go_wp2_with (fail);go_ret2;exact⟨by rw [← HXY.out];rfl,hK3⟩
theorem JR(s:ByteArray)(most:Int)(hm0:0≤most)(hm:most≤1000)(hs:s.size≤1000)(hasc:∀b∈s.data.toList,b.toNat<128)(w:World)(hT:Gp w):
  Calls Tryz.prog 270 #[dK #[CZ s],dH dN most] w fun e w'=>e = dM (.tuple #[dH dN (BS s.data.toList most).1,dL (BS s.data.toList most).2])∧Aa [] w w':=by
 obtain⟨w0,hw0⟩:=eX (w.alloc (.cells #[CZ s] 405));have hk0:Aa [] w w0:=by rw [← hw0];exact(Aa.refl [] w).alloc _
 have hb0:Blk w0 w.heap.size 405 #[CZ s]:=by rw [← hw0];exact Blk.new w _ _
 have q0:=hb0.rl;have HT:=lH hT;clear hT;have hN:∀(r:Option Int),LZ most s.data.toList 0=r→BS s.data.toList most=(match r with | none=>(0,false) | some n=>(n,decide (n≤most)&&itoaL n==s.data.toList)):=fun r h=>by unfold BS;rw [h];cases r<;>rfl
 obtain⟨R,hR⟩:=eX (BS s.data.toList most);rw [hR] at hN ⊢;have HN:=lH hN;clear hN hR;go_enter Tryz.func270,Tryz.ntmps270;go_wp2_with (fail);have HB0:=lH hb0;have HK0:=lH hk0;clear hw0 hb0 hk0 q0;go_loopw [6] (fun i w'=>∃(k:Nat) (n:Int),i = dH dN n∧k≤s.size∧w'=w0.iter s k∧0≤n∧n≤10009∧Hid (LZ most (s.data.toList.drop k) n=LZ most s.data.toList 0)) (fun _ w'=>s.size - w'.iterPos w0.heap.size)
 case atStart=>exact⟨0,0,rfl,Cy _,rfl,by omega,by omega,lH rfl⟩
 case round=>
  obtain⟨k,n,rfl,hk,rfl,hn0,hn1,HD⟩:=hrel;by_cases hp:k<s.size
  ·obtain⟨c,hc⟩:=eX ((s[k]'hp))
   have ha:c.toNat<128:=by
    refine hasc c ?_;rw [← hc];exact List.getElem_mem YH
   have hnx:∀ty,(Instr.next (dJ (some ⟨w0,0,none⟩)) true ty).run Tryz.prog (w0.iter s k) = .ok (.tuple #[dL true,dH dN k,.int .i32 c.toNat]) (w0.iter s (k+1)):=fun ty=>by
    have:=run_next_ascii (P:=Tryz.prog) w0 s k ty hp (by rw [hc];exact ha);rw [hc] at this;exact this
   have hdr:s.data.toList.drop k=c::s.data.toList.drop (k+1):=by
    rw [List.drop_eq_getElem_cons YH];rw [← hc];rfl
   have hst:=HD.out;rw [hdr,LZ] at hst;by_cases hbad:c.toNat<48∨57<c.toNat∨most<n
   ·rw [if_pos hbad] at hst
    have HR:=lH (HN.out none hst.symm);have hb3:((c.toNat:Int)<48)∨(¬((c.toNat:Int)<48)∧(57:Int)<(c.toNat:Int))∨(¬((c.toNat:Int)<48)∧¬(57:Int)<(c.toNat:Int)∧most<n):=by omega
    clear hst hdr hc hbad HD;rcases hb3 with h1 | ⟨h1,h2⟩ | ⟨h1,h2,h3⟩
    all_goals
     go_wp2_with (fail);go_ret2;exact⟨by rw [HR.out];rfl,HK0.out.trans (El w0 s _)⟩
   ·rw [if_neg hbad] at hst
    have h1:¬((c.toNat:Int)<48):=by omega
    have h2:¬((57:Int)<(c.toNat:Int)):=by omega
    have h3:¬most<n:=by omega
    obtain⟨d,hd⟩:∃d:Int,(c.toNat:Int) - 48=d:=⟨_,rfl⟩;have hd9:0≤d∧d≤9:=by omega
    have e1:IntKind.i32.wrap ((c.toNat:Int) - 48)=d:=by rw [hd];exact IntWalk.i32_in _ bB
    have e2:IntKind.i64.wrap (n*10)=n*10:=IntWalk.i64_in _ bB;have e3:IntKind.i64.wrap (n*10+d)=n*10+d:=IntWalk.i64_in _ bB;rw [hd] at hst;have HD2:=lH hst;have hn2:n*10+d≤10009:=by omega
    have hn3:0≤n*10+d:=by omega
    clear hst hdr hc hbad HD hd;go_wp2_with (fail);go_roundw;case rel=>exact⟨k+1,n*10+d,rfl,by omega,rfl,hn3,hn2,HD2⟩
    case measure=>simp;omega
  ·obtain rfl:k=s.size:=by omega
   have hnx:∀ty,(Instr.next (dJ (some ⟨w0,0,none⟩)) true ty).run Tryz.prog (w0.iter s s.size)=_:=fun ty=>run_next_end w0 s s.size ty hp;have hst:=HD.out;rw [List.drop_of_length_le bA,LZ] at hst;have HR:=lH (HN.out _ hst.symm);clear hst HD;go_wp2_with (fail);obtain⟨wz,hwz⟩:=eX (w0.iter s s.size);have hkz:Aa [] w0 wz:=by rw [← hwz];exact El w0 s _
   have qz:=(HB0.out.keeps hkz bA).rl;have HKZ:=lH (HK0.out.trans hkz);rw [hwz] at hnx ⊢;have HIN:=lH (fun V (hV:Aa [] wz V)=>F0 n bB bB V (HT.out.keeps (HKZ.out.trans hV)));obtain⟨y,hy⟩:=eX (AU n);rw [hy] at HIN;have HY:Hid ((itoaL n==s.data.toList)=(y.toList==s.toList)):=lH (by rw [← hy,Ce,Ce];rfl);clear hwz hkz hy;by_cases hmo:n≤most
   ·have f1:decide (n≤most)=true:=by simpa using hmo
    have HF:=lH f1;refine wp_region_held_drew (S:=(Aa [] wz)) bC ZN (fun hHeld=>?_);refine rK 0 ?_;refine rK 1 ?_;refine rK 2 ?_;refine rK 3 ?_;refine rK 4 ?_;refine rK 5 ?_;refine rK 7 ?_;refine rK 8 ?_;refine rC 6 fun K hK=>?_;go_simp;refine(HIN.out _ hHeld).mono ?_;rintro e wt ⟨rfl,hkt⟩;have hkt:Aa [] wz wt:=hHeld.trans hkt
    (try clear rH);refine rP hK ZN fun rH hHeld=>?_;clear hK K
    refine rK 9 ?_;refine rK 10 ?_;refine rK 11 ?_;refine rK 12 ?_;refine wpAnyH_done bC ?_ _
    (go_wp2_with (fail);go_ret2;exact⟨by rw [HR.out];simp only [HF.out,HY.out,De];rfl,HKZ.out.trans hkt⟩)
   ·have f1:decide (n≤most)=false:=by simpa using hmo
    have HF:=lH f1;refine wp_region_held_drew (S:=(Aa [] wz)) bC ZN (fun hHeld=>?_);refine rK 0 ?_;refine rK 1 ?_;refine rK 2 ?_;refine rK 3 ?_;refine rK 4 ?_;refine rN 5 ?_;refine rN 6 ?_;refine rN 7 ?_;refine rN 8 ?_;refine rN 9 ?_;refine rK 10 ?_;refine rK 11 ?_;refine rK 12 ?_;refine wpAnyH_done bC ?_ _
    (go_wp2_with (fail);go_ret2;exact⟨by rw [HR.out];simp only [HF.out,D4];rfl,HKZ.out.drew⟩)
end
section
open Go.RowKit Go.Shelf
def Iq(w:World):Prop:=∃m,w.cell? ⟨12,0,none⟩=some (dH dN m)
theorem Iq.keeps{w w':World}(h:Iq w)(hk:Aa [] w w'):Iq w':=by
 obtain⟨m,hm⟩:=h;exact⟨m,(hk.cell (p:=⟨12,0,none⟩) (A4 w _ hm) bA).trans hm⟩
theorem Rn(c:UInt8):∀l:List UInt8,Lib.cut l [c]=C7 c l
 | []=>rfl
 | b::l=>by
  have ih:=Rn c l;have hge:=Lib.index_ge l [c];unfold Lib.cut at ih ⊢;rw [C7];by_cases h:b=c
  ·subst h
   have:DI (b::l) [b]=0:=by unfold DI;simp
   rw [this,if_pos rfl];simp
  ·have h0:([c]:List UInt8).isPrefixOf (b::l)=false:=by simp [List.isPrefixOf,Ne.symm h]
   have hi:DI (b::l) [c]=if DI l [c] == -1 then -1 else DI l [c]+1:=by
    conv=>lhs;unfold DI
    rw [h0];rfl
   rw [if_neg h,← ih,hi];by_cases h1:DI l [c] = -1
   ·simp [h1]
   ·have h2:(DI l [c] == -1)=false:=by simpa using h1
    have h3:0≤DI l [c]:=by omega
    have h4:(DI l [c]+1).toNat=(DI l [c]).toNat+1:=by omega
    have h5:0≤DI l [c]+1:=by omega
    simp only [h2,Bool.false_eq_true,if_false,h3,h5,if_true,h4];simp [Nat.add_right_comm]
theorem Nt(s:ByteArray)(c:UInt8)(hs:s.size≤1000000)(w:World)(hm:Iq w):
  Calls Tryz.prog 269 #[CZ s,CZ ⟨#[c]⟩] w fun e w'=>e = dM (.tuple #[CZ (str (C7 c s.data.toList).1),CZ (str (C7 c s.data.toList).2.1),dL (C7 c s.data.toList).2.2])∧Aa [] w w':=by
 obtain⟨m,hm⟩:=hm;refine(Tryz.strings_Cut s ⟨#[c]⟩ m w bB hm).mono ?_;rintro e w' ⟨rfl,n,rfl⟩;rw [show(⟨#[c]⟩:ByteArray).data.toList = [c] from rfl,Rn];exact⟨rfl,(Aa.refl [] w).drewN n⟩
end
section
open Go.RowKit Go.Shelf
attribute [local go_sem] Oper.semAt_some N5 N6 N3 N4
attribute [local go_sem ↓] Go.wp_at_zero Go.wp_at_succ
def XP(s:ByteArray)(f0 f1 f2 f3 n:Int):Array Value:=#[CZ s,dH dN f0,dH dN f1,dH dN f2,dH dN f3,dH dN n]
def Dz(l:List UInt8):Prop:=∀b∈l,b.toNat<128
theorem FY(c:UInt8):∀l:List UInt8,(∀b∈(C7 c l).1,b∈l)∧(∀b∈(C7 c l).2.1,b∈l)∧(C7 c l).1.length≤l.length∧(C7 c l).2.1.length≤l.length
 | []=>by simp [C7]
 | x::l=>by
  have ih:=FY c l;rw [C7];split
  ·exact⟨fun b hb=>by simp at hb,fun b hb=>by simp [hb],by simp,by simp⟩
  ·refine⟨fun b hb=>?_,fun b hb=>by simp [ih.2.1 b hb],by simp;exact ih.2.2.1,by simp;omega⟩
   simp only [Ac] at hb ⊢;rcases hb with rfl | hb
   ·exact .inl rfl
   ·exact .inr (ih.1 b hb)
theorem Dz.cut1{l:List UInt8}(h:Dz l)(c:UInt8):Dz (C7 c l).1:=fun b hb=>h b ((FY c l).1 b hb)
theorem Dz.cut2{l:List UInt8}(h:Dz l)(c:UInt8):Dz (C7 c l).2.1:=fun b hb=>h b ((FY c l).2.1 b hb)
theorem Vb(rb:Nat)(s:ByteArray)(hs:s.size≤1000)(hasc:Dz s.data.toList)(f0 f1 f2 f3:Int)(k:Nat)(hk:k<4)(w:World)(hT:Gp w)(hM:Iq w)(hb:Blk w rb 459 (XP s f0 f1 f2 f3 k)):
  Calls Tryz.prog 314 #[dJ (some ⟨rb,0,none⟩)] w fun e w'=>e = dM (dL ((BS (C7 46 s.data.toList).1 255).2&&((C7 46 s.data.toList).2.2==decide (k+1<4))))∧
   Blk w' rb 459 ((((XP s f0 f1 f2 f3 k).setIfInBounds (1+k) (dH dN (BS (C7 46 s.data.toList).1 255).1)).setIfInBounds 0 (CZ (str (C7 46 s.data.toList).2.1))).setIfInBounds 5 (dH dN ((k+1:Nat):Int)))∧Aa [rb] w w':=by
 have HCU:=Nt s 46 bB w hM;obtain⟨p,hp⟩:=eX (C7 46 s.data.toList);have hlen:=FY 46 s.data.toList;have hasc1:=hasc.cut1 46;rw [hp] at HCU hlen hasc1 ⊢;obtain⟨p1,p2,p3⟩:=p;simp only [] at HCU hlen hasc1 ⊢;have HNU:=fun W hW=>JR (str p1) 255 bB bB (by rw [CC];have e0:s.data.toList.length=s.size:=bA;omega) (by rw [DM];exact hasc1) W hW;rw [DM] at HNU;obtain⟨n,ok,hn⟩:∃n ok,BS p1 255=(n,ok):=⟨_,_,rfl⟩;rw [hn] at HNU ⊢;simp only [] at HNU ⊢;have q0:=hb.rl;have HB:=lH hb;have HT:=lH hT;clear hT hM hb hlen hasc1 hasc hp hn hs;simp only [XP] at q0 HB ⊢;go_enter Tryz.func314,Tryz.ntmps314;go_wp2_with (fail)
 with_reducible refine HCU.mono ?_
 rintro e w1 ⟨rfl,hk1⟩;have HK1:=lH hk1;clear hk1;go_wp2_with (fail);refine(HNU w1 (HT.out.keeps HK1.out)).mono ?_;rintro e w2 ⟨rfl,hk2⟩;have HK2:=lH (HK1.out.trans hk2);have HB2:=lH (HB.out.keeps HK2.out bA);have q2:=HB2.out.rl;clear hk2 q0;go_wp2_with (fail);have:k=0∨k=1∨k=2∨k=3:=by omega
 rcases this with rfl | rfl | rfl | rfl
 all_goals
  have HF:=fun(V:World) (hV:Aa [rb] w2 V)=>HK2.out.mono (S':=[rb]) bA |>.trans hV
  replace HF:=lH HF;go_region;cases ok<;>cases p3<;>
  ·go_wp2_with (fail)
   go_ret;refine⟨rfl,(((HB2.out.set_ _ _).set_ 0 _).drew.set_ 5 _),HF.out _ ?_⟩;exact Aa.setCell ((Aa.setCell (Aa.setCell (Aa.refl [rb] w2) (.inl bA) _) (.inl bA) _).drew) (.inl bA) _
def VW(s:ByteArray)(p:List Int):Array Value:=XP s (p.getD 0 0) (p.getD 1 0) (p.getD 2 0) (p.getD 3 0) p.length
theorem Vk(s s':ByteArray)(v:Int):∀(p:List Int) (k:Nat),p.length=k→k<4→(((VW s p).setIfInBounds (1+k) (dH dN v)).setIfInBounds 0 (CZ s')).setIfInBounds 5 (dH dN ((k+1:Nat):Int))=VW s' (p++[v])
 | [],k,h,_=>by subst h;rfl
 | [a],k,h,_=>by subst h;rfl
 | [a,b],k,h,_=>by subst h;rfl
 | [a,b,c],k,h,_=>by subst h;rfl
 | a::b::c::d::l,k,h,hk=>by simp at h;omega
theorem Ot(most:Int):∀(l:List UInt8) (n m:Int),0≤n→LZ most l n=some m→0≤m
 | [],n,m,hn,h=>by unfold LZ at h;injection h with h;omega
 | b::l,n,m,hn,h=>by
  rw [LZ] at h;split at h
  ·cases h
  ·rename_i hb
   exact Ot most l _ m bB h
theorem Q5{l:List UInt8}{most:Int}(h:(BS l most).2=true):0≤(BS l most).1∧(BS l most).1≤most:=by
 unfold BS at h ⊢;split at h
 ·cases h
 ·rename_i n hn
  simp only [hn];simp only [Af,decide_eq_true_eq] at h;exact⟨Ot most l 0 n bB hn,h.1⟩
theorem MJ:∀(k:Nat) (s:List UInt8) (p r:List Int),DA k s p=some r→(∀x∈p,0≤x∧x≤255)→(∀x∈r,0≤x∧x≤255)∧r.length=p.length+k
 | 0,s,p,r,h,hp=>by unfold DA at h;injection h with h;subst h;exact⟨hp,rfl⟩
 | k+1,s,p,r,h,hp=>by
  rw [DA] at h;split at h
  ·rename_i hc
   simp only [Af] at hc;have hin:=Q5 hc.1;have:=MJ k _ _ r h (fun x hx=>by
    simp only [AF,Am] at hx;rcases hx with hx | rfl
    ·exact hp x hx
    ·exact hin)
   exact⟨this.1,by rw [this.2,Ag];simp;omega⟩
  ·cases h
theorem O6(rb fb:Nat)(ty:TypeId)(s:ByteArray)(hs:s.size≤1000)(hasc:Dz s.data.toList)(v w:World)(hne:fb≠rb)(hvw:Aa [] v w)(hrb:v.heap.size≤rb)(hT:Gp v)(hM:Iq v)(hb:Blk w rb 459 (VW s []))
 (hf:Blk w fb ty #[.func (.func 314) #[dJ (some ⟨rb,0,none⟩)] #[],.func (.func 314) #[dJ (some ⟨rb,0,none⟩)] #[],.func (.func 314) #[dJ (some ⟨rb,0,none⟩)] #[],.func (.func 314) #[dJ (some ⟨rb,0,none⟩)] #[]]):
  Calls Tryz.prog 315 #[dI (some ⟨fb,0,none⟩) 4 4] w fun e w'=>e = dM (dL (DA 4 s.data.toList []).isSome)∧
   (∀p,DA 4 s.data.toList []=some p→∃s',Blk w' rb 459 (VW s' p))∧Aa [rb] w w':=by
 have HE:Hid (∀W,Aa [rb] w W→Gp W∧Iq W):=lH fun W hW=>by
  have:=hvw.own hW bF;exact⟨hT.keeps this,hM.keeps this⟩
 have HB:=lH hb;have HF:=lH hf;clear hT hM hb hf hvw hrb;obtain⟨R,hR⟩:=eX (DA 4 s.data.toList []);have HR:=lH hR;rw [hR];clear hR;go_enter Tryz.func315,Tryz.ntmps315;go_wp2_with (fail);go_loopw [7] (fun i wr=>∃(k:Nat) (t:ByteArray) (p:List Int),i = dH dN k∧k≤4∧p.length=k∧t.size≤1000∧Hid (Dz t.data.toList)∧Hid (DA (4 - k) t.data.toList p=R)∧Hid (Blk wr rb 459 (VW t p))∧Hid (Aa [rb] w wr)) (fun i _=>4 - (intOf i).toNat)
 case atStart=>exact⟨0,s,[],rfl,by omega,rfl,hs,lH hasc,HR,HB,lH (Aa.refl _ _)⟩
 case round=>
  clear HB hs hasc HR;obtain⟨k,t,p,rfl,hk,hp,ht,HA,HP,HB,HK⟩:=hrel;by_cases hlt:k<4
  ·have hfk:=(HF.out.keeps HK.out Wi).rl
   obtain⟨m,hm⟩:∃m,4 - k=m+1:=⟨3 - k,by omega⟩;have hst:=HP.out;rw [hm,DA] at hst;have hcut:=FY 46 t.data.toList;have hb0:Blk wr rb 459 (XP t (p.getD 0 0) (p.getD 1 0) (p.getD 2 0) (p.getD 3 0) (k:Nat)):=by
    have:=HB.out;rw [VW,hp] at this;exact this
   have HC:=Vb rb t ht HA.out (p.getD 0 0) (p.getD 1 0) (p.getD 2 0) (p.getD 3 0) k hlt wr (HE.out wr HK.out).1 (HE.out wr HK.out).2 hb0;have hrd:XP t (p.getD 0 0) (p.getD 1 0) (p.getD 2 0) (p.getD 3 0) (k:Nat)=VW t p:=by rw [VW,hp]
   rw [hrd,Vk t _ _ p k hp hlt] at HC;have hd:decide (k+1<4)=decide (0<m):=by rw [Bool.eq_iff_iff,decide_eq_true_iff,decide_eq_true_iff];omega
   rw [hd] at HC;obtain⟨ok,hok⟩:=eX (((BS (C7 46 t.data.toList).1 255).2&&(C7 46 t.data.toList).2.2==decide (0<m)));rw [hok] at HC hst;obtain⟨v,hv⟩:=eX ((BS (C7 46 t.data.toList).1 255).1);rw [hv] at HC hst;have HA2:=lH (HA.out.cut2 46);have htl:t.data.toList.length=t.size:=by simp
   have HL2:Hid ((C7 46 t.data.toList).2.1.length≤1000):=lH bB;clear htl;obtain⟨u,hu⟩:=eX ((C7 46 t.data.toList).2.1);rw [hu] at HC hst HA2 HL2;have HST:=lH hst;have HM:=lH hm;have i1:(0:Int)≤(k:Int):=by omega
   have i2:(k:Int)<4:=by omega
   clear hb0 hrd hd hok hv hu hst hcut HB HP HA;have:k=0∨k=1∨k=2∨k=3:=by omega
   rcases this with rfl | rfl | rfl | rfl
   ·go_wp2_with (fail)
    with_reducible refine HC.mono ?_
    rintro e w3 ⟨rfl,hb3,hk3⟩;have HB3:=lH hb3;have HK3:=lH (HK.out.trans hk3);clear hb3 hk3;cases ok with
    | false=>
     have HN:Hid (R=none):=lH Zt;go_wp2_with (fail);go_ret;refine⟨by rw [HN.out];rfl,fun p hp=>?_,HK3.out⟩;rw [HN.out] at hp;cases hp
    | true=>
     have HN:Hid (DA (4 - (0+1)) (str u).data.toList (p++[v])=R):=lH (by
      have h1:=HST.out;have h2:=HM.out;rw [if_pos rfl] at h1;rw [DM,show 4 - (0+1)=m by omega];exact h1)
     go_wp2_with (fail);go_roundw;case rel=>exact⟨0+1,str u,p++[v],by go_num,by omega,by rw [Ag,hp];rfl,by rw [CC];exact HL2.out,lH HA2.out,HN,HB3,HK3⟩
     case measure=>simp [intOf]
   ·go_wp2_with (fail)
    with_reducible refine HC.mono ?_
    rintro e w3 ⟨rfl,hb3,hk3⟩;have HB3:=lH hb3;have HK3:=lH (HK.out.trans hk3);clear hb3 hk3;cases ok with
    | false=>
     have HN:Hid (R=none):=lH Zt;go_wp2_with (fail);go_ret;refine⟨by rw [HN.out];rfl,fun p hp=>?_,HK3.out⟩;rw [HN.out] at hp;cases hp
    | true=>
     have HN:Hid (DA (4 - (1+1)) (str u).data.toList (p++[v])=R):=lH (by
      have h1:=HST.out;have h2:=HM.out;rw [if_pos rfl] at h1;rw [DM,show 4 - (1+1)=m by omega];exact h1)
     go_wp2_with (fail);go_roundw;case rel=>exact⟨1+1,str u,p++[v],by go_num,by omega,by rw [Ag,hp];rfl,by rw [CC];exact HL2.out,lH HA2.out,HN,HB3,HK3⟩
     case measure=>simp [intOf]
   ·go_wp2_with (fail)
    with_reducible refine HC.mono ?_
    rintro e w3 ⟨rfl,hb3,hk3⟩;have HB3:=lH hb3;have HK3:=lH (HK.out.trans hk3);clear hb3 hk3;cases ok with
    | false=>
     have HN:Hid (R=none):=lH Zt;go_wp2_with (fail);go_ret;refine⟨by rw [HN.out];rfl,fun p hp=>?_,HK3.out⟩;rw [HN.out] at hp;cases hp
    | true=>
     have HN:Hid (DA (4 - (2+1)) (str u).data.toList (p++[v])=R):=lH (by
      have h1:=HST.out;have h2:=HM.out;rw [if_pos rfl] at h1;rw [DM,show 4 - (2+1)=m by omega];exact h1)
     go_wp2_with (fail);go_roundw;case rel=>exact⟨2+1,str u,p++[v],by go_num,by omega,by rw [Ag,hp];rfl,by rw [CC];exact HL2.out,lH HA2.out,HN,HB3,HK3⟩
     case measure=>simp [intOf]
   ·go_wp2_with (fail)
    with_reducible refine HC.mono ?_
    rintro e w3 ⟨rfl,hb3,hk3⟩;have HB3:=lH hb3;have HK3:=lH (HK.out.trans hk3);clear hb3 hk3;cases ok with
    | false=>
     have HN:Hid (R=none):=lH Zt;go_wp2_with (fail);go_ret;refine⟨by rw [HN.out];rfl,fun p hp=>?_,HK3.out⟩;rw [HN.out] at hp;cases hp
    | true=>
     have HN:Hid (DA (4 - (3+1)) (str u).data.toList (p++[v])=R):=lH (by
      have h1:=HST.out;have h2:=HM.out;rw [if_pos rfl] at h1;rw [DM,show 4 - (3+1)=m by omega];exact h1)
     go_wp2_with (fail);go_roundw;case rel=>exact⟨3+1,str u,p++[v],by go_num,by omega,by rw [Ag,hp];rfl,by rw [CC];exact HL2.out,lH HA2.out,HN,HB3,HK3⟩
     case measure=>simp [intOf]
  ·obtain rfl:k=4:=by omega
   have hst:=HP.out;rw [show 4 - 4=0 from rfl,DA] at hst;have HST:=lH hst;clear hst;go_wp2_with (fail);go_ret;refine⟨by rw [← HST.out];rfl,fun p hp=>?_,HK.out⟩;rw [← HST.out] at hp;injection hp with hp
   subst hp;exact⟨t,HB.out⟩
end
end Go.Proofs.YtcjdkbgdahgjbaaGreatDoor
