/- Steps of the proof: AdrG, AdrH, PrtB, PrtC, PrtD, PrtE, AclP. -/
import Derived.Test.YtcjdkbgdahgjbaaGreatDoorK0
import Derived.Test.YtcjdkbgdahgjbaaGreatDoorKaa
import Derived.Test.YtcjdkbgdahgjbaaGreatDoorKae
import Derived.Test.YtcjdkbgdahgjbaaGreatDoorKag
import Derived.Test.YtcjdkbgdahgjbaaGreatDoorKak
import Derived.Deep.DeepCutAuto
set_option maxRecDepth 100000
set_option maxHeartbeats 8000000
set_option linter.all false
namespace Go.Proofs.YtcjdkbgdahgjbaaGreatDoor
open _root_.Array renaming getElem?_eq_some_iff→Aj,replicate_succ→Bc,replicate_zero→Bd
open _root_.Bool renaming and_eq_true→Af
open Ending renaming returned→dM
open Exit renaming noGoto_normal→AH
open Fence renaming wide→Ba
open IntKind renaming i64→dN
open Lib renaming toList_data→Ce
open _root_.List renaming append_toArray→B0,cons_append→A6,length_append→Ag,length_cons→Ao,length_nil→Eh,length_range→A8,nil_append→AX,push_toArray→By,range_succ→AY,range→A0,size_toArray→Cx
open _root_.Nat renaming le_refl→Ap,le_trans→As,zero_le→Cy
open Value renaming agg→dK,bool→dL,int→dH,pointer→dJ,string→CZ
section
open Go.RowKit Go.Shelf
attribute [local go_sem] Oper.semAt_some N5 N6 N3 N4
attribute [local go_sem ↓] Go.wp_at_zero Go.wp_at_succ
theorem N8(a b:Int)(h0:0≤a)(h1:a≤16777215)(h2:0≤b)(h3:b≤255):bits .or .i64 (a*256) b=a*256+b:=by
 obtain⟨x,rfl⟩:∃x:Nat,a=x:=⟨a.toNat,by omega⟩;obtain⟨y,rfl⟩:∃y:Nat,b=y:=⟨b.toNat,by omega⟩;have h:=RQ (x*256) y bB bB;have h4:x*256 ||| y=x*256+y:=by
  have:=Nat.two_pow_add_eq_or_of_lt (i:=8) (b:=y) bB x;rw [show(2:Nat) ^ 8=256 from rfl,Nat.mul_comm] at this;exact this.symm
 rw [h4] at h;rw [show((x:Int)*256)=((x*256:Nat):Int) by omega,h];omega
theorem XE(b0 b1 b2 b3:Int)(W:World):(Instr.index 457 (dK #[dH dN b0,dH dN b1,dH dN b2,dH dN b3]) (dH dN 0)).run Tryz.prog W = .ok (dH dN b0) W:=by kernel_rfl
theorem XF(b0 b1 b2 b3:Int)(W:World):(Instr.index 457 (dK #[dH dN b0,dH dN b1,dH dN b2,dH dN b3]) (dH dN 1)).run Tryz.prog W = .ok (dH dN b1) W:=by kernel_rfl
theorem XG(b0 b1 b2 b3:Int)(W:World):(Instr.index 457 (dK #[dH dN b0,dH dN b1,dH dN b2,dH dN b3]) (dH dN 2)).run Tryz.prog W = .ok (dH dN b2) W:=by kernel_rfl
theorem XH(b0 b1 b2 b3:Int)(W:World):(Instr.index 457 (dK #[dH dN b0,dH dN b1,dH dN b2,dH dN b3]) (dH dN 3)).run Tryz.prog W = .ok (dH dN b3) W:=by kernel_rfl
attribute [local go_sem ↓] XE XF XG XH
def TI:Option (List Int)→Int×Int
 | none=>(0,60)
 | some p=>(p.foldl (fun a b=>a*256+b) 0,0)
theorem Qq(s:ByteArray)(hs:s.size≤1000)(hasc:Dz s.data.toList)(w:World)(hT:Gp w)(hM:Iq w):
  Calls Tryz.prog 271 #[CZ s] w fun e w'=>e = dM (.tuple #[dH dN (Fs s.data.toList).1,dH dN (Fs s.data.toList).2])∧Aa [] w w':=by
 obtain⟨w0,hw0⟩:=eX ((w.alloc (.cells #[CZ s,dH dN 0,dH dN 0,dH dN 0,dH dN 0,dH dN 0] 459)).alloc (.cells #[.func (.func 314) #[dJ (some ⟨w,0,none⟩)] #[],.func (.func 314) #[dJ (some ⟨w,0,none⟩)] #[],.func (.func 314) #[dJ (some ⟨w,0,none⟩)] #[],.func (.func 314) #[dJ (some ⟨w,0,none⟩)] #[]] 37));obtain⟨R,hR⟩:=eX (DA 4 s.data.toList []);have HR:=lH hR;have hk0:Aa [] w w0:=by rw [← hw0];exact((Aa.refl [] w).alloc _).alloc _
 have hb0:Blk w0 w.heap.size 459 (VW s []):=by rw [← hw0];exact(Blk.new w _ _).alloc _
 have HA:=O6 w.heap.size (w.heap.size+1) 37 s hs hasc w w0 bB hk0 (Ap _) hT hM hb0 (by rw [← hw0];have:=Blk.new (w.alloc (.cells #[CZ s,dH dN 0,dH dN 0,dH dN 0,dH dN 0,dH dN 0] 459)) 37 #[.func (.func 314) #[dJ (some ⟨w,0,none⟩)] #[],.func (.func 314) #[dJ (some ⟨w,0,none⟩)] #[],.func (.func 314) #[dJ (some ⟨w,0,none⟩)] #[],.func (.func 314) #[dJ (some ⟨w,0,none⟩)] #[]];rwa [World.size_alloc] at this);rw [hR] at HA;have HK0:=lH hk0;obtain⟨V,hV⟩:=eX (Fs s.data.toList);have HV:Hid (V=TI R):=lH (by rw [← hV,← hR];unfold Fs TI;cases DA 4 s.data.toList []<;>rfl);rw [hV];clear hR hV hb0 hk0 hasc hT hM;go_enter Tryz.func271,Tryz.ntmps271;go_wp2_with (fail)
 with_reducible refine HA.mono ?_
 rintro e w1 ⟨rfl,hp,hk1⟩;have HK1:=lH (HK0.out.own hk1 bF);clear hk1;cases R with
 | none=>
  have HN:Hid (V=(0,60)):=lH HV.out;clear hp;simp only [Option.isSome_none];go_wp2_with (fail);go_ret2;exact⟨by rw [HN.out];rfl,HK1.out⟩
 | some p=>
  obtain⟨s',hb⟩:=hp p rfl;obtain⟨hin,hlen⟩:=MJ 4 _ _ _ HR.out bA
  match p,hlen with
  | [b0,b1,b2,b3],_=>
   have h0:=hin b0 bA;have h1:=hin b1 bA;have h2:=hin b2 bA;have h3:=hin b3 bA;have HN:Hid (V=(((b0*256+b1)*256+b2)*256+b3,0)):=lH (by rw [HV.out];simp [TI,List.foldl]);have q:=hb.rl;simp only [VW,XP,List.getD_cons_zero,List.getD_cons_succ] at q;have e0:bits .or .i64 (0*256) b0=b0:=by rw [N8 0 b0 bB bB h0.1 h0.2];omega
   have e0z:bits .or .i64 0 b0=b0:=by rw [show(0:Int)=0*256 from rfl];exact e0
   have e1:=N8 b0 b1 h0.1 bB h1.1 h1.2;have e2:=N8 (b0*256+b1) b2 bB bB h2.1 h2.2;have e3:=N8 ((b0*256+b1)*256+b2) b3 bB bB h3.1 h3.2;clear hp hb hin HV;simp only [Option.isSome_some];go_wp2_with (fail);go_loopw [26,6] (fun i a wr=>wr=w1∧((i = dH dN 0∧a = dH dN 0)∨(i = dH dN 1∧a = dH dN b0)∨(i = dH dN 2∧a = dH dN (b0*256+b1))∨(i = dH dN 3∧a = dH dN ((b0*256+b1)*256+b2))∨(i = dH dN 4∧a = dH dN (((b0*256+b1)*256+b2)*256+b3)))) (fun i _ _=>4 - (intOf i).toNat)
   case atStart=>exact⟨rfl,.inl ⟨rfl,rfl⟩⟩
   case round=>
    obtain⟨rfl,⟨rfl,rfl⟩ | ⟨rfl,rfl⟩ | ⟨rfl,rfl⟩ | ⟨rfl,rfl⟩ | ⟨rfl,rfl⟩⟩:=hrel
    ·have w1':IntKind.i64.wrap (0*256)=0*256:=IntWalk.i64_in _ bB
     go_wp2_with (fail);go_roundw;case rel=>exact⟨trivial,.inr (.inl ⟨rfl,rfl⟩)⟩
     case measure=>simp [intOf]
    ·have w1':IntKind.i64.wrap (b0*256)=b0*256:=IntWalk.i64_in _ bB
     go_wp2_with (fail);go_roundw;case rel=>exact⟨trivial,.inr (.inr (.inl ⟨rfl,rfl⟩))⟩
     case measure=>simp [intOf]
    ·have w1':IntKind.i64.wrap ((b0*256+b1)*256)=(b0*256+b1)*256:=IntWalk.i64_in _ bB
     go_wp2_with (fail);go_roundw;case rel=>exact⟨trivial,.inr (.inr (.inr (.inl ⟨rfl,rfl⟩)))⟩
     case measure=>simp [intOf]
    ·have w1':IntKind.i64.wrap (((b0*256+b1)*256+b2)*256)=((b0*256+b1)*256+b2)*256:=IntWalk.i64_in _ bB
     go_wp2_with (fail);go_roundw;case rel=>exact⟨trivial,.inr (.inr (.inr (.inr (⟨rfl,rfl⟩))))⟩
     case measure=>simp [intOf]
    ·go_wp2_with (fail)
     go_ret2;exact⟨by rw [HN.out];rfl,HK1.out⟩
theorem TH(s:List UInt8):(Fs s).2=0∨(Fs s).2=60:=by
 unfold Fs;split<;>simp
theorem JA(s:ByteArray)(hs:s.size≤1000)(hasc:Dz s.data.toList)(w:World)(hT:Gp w)(hM:Iq w):
  Calls Tryz.prog 230 #[CZ s] w fun e w'=>e = dM (.tuple #[dK #[dH dN (E0 s.data.toList).1.1,dH dN (E0 s.data.toList).1.2],dH dN (E0 s.data.toList).2])∧Aa [] w w':=by
 obtain⟨w0,hw0⟩:=eX (w.alloc (.cells #[dH dN 0,dH dN 0] 55));have hk0:Aa [] w w0:=by rw [← hw0];exact(Aa.refl [] w).alloc _
 have hb0:Blk w0 w.heap.size 55 #[dH dN 0,dH dN 0]:=by rw [← hw0];exact Blk.new w _ _
 have HCU:=Nt s 47 bB w0 (hM.keeps hk0);have hcm:=FY 47 s.data.toList;have hc1:=hasc.cut1 47;have hc2:=hasc.cut2 47;have hl:s.data.toList.length=s.size:=by simp
 obtain⟨V,hV⟩:=eX (E0 s.data.toList);rw [hV];unfold E0 at hV;obtain⟨p,hp⟩:=eX (C7 47 s.data.toList);rw [hp] at HCU hcm hc1 hc2 hV;obtain⟨p1,p2,p3⟩:=p;simp only [] at HCU hcm hc1 hc2 hV;have HNU:=fun W hW=>JR (str p2) 32 bB bB (by rw [CC];omega) (by rw [DM];exact hc2) W hW;have HPA:=fun W hW hW2=>Qq (str p1) (by rw [CC];omega) (by rw [DM];exact hc1) W hW hW2;rw [DM] at HNU HPA;obtain⟨n,ok,hn⟩:∃n ok,BS p2 32=(n,ok):=⟨_,_,rfl⟩;obtain⟨a,e,ha⟩:∃a e,Fs p1=(a,e):=⟨_,_,rfl⟩;have he:=TH p1;rw [ha] at he;rw [hn] at HNU hV;rw [ha] at HPA hV;simp only [] at HNU HPA hV he;have HT:=lH hT;have HM:=lH hM;have HK0:=lH hk0;have HV:=lH hV;have HNU:=lH HNU;have HPA:=lH HPA;have HB0:=lH hb0;clear hT hM hcm hc1 hc2 hn ha hp hl hV hk0 hasc hs hb0;go_enter Tryz.func230,Tryz.ntmps230;go_wp2_with (fail)
 with_reducible refine HCU.mono ?_
 rintro r w1 ⟨rfl,hk1⟩;have HK1:=lH (HK0.out.trans hk1);have HB1:=lH (HB0.out.keeps hk1 bA);clear hk1 hw0;go_wp2_with (fail);refine(HNU.out w1 (HT.out.keeps HK1.out)).mono ?_;rintro r w2 ⟨rfl,hk2⟩;have HK2:=lH (HK1.out.trans hk2);have HB2:=lH (HB1.out.keeps hk2 bA);clear hk2;go_wp2_with (fail);refine(HPA.out w2 (HT.out.keeps HK2.out) (HM.out.keeps HK2.out)).mono ?_;rintro r w3 ⟨rfl,hk3⟩;have HK3:=lH (HK2.out.trans hk3);have HB3:=lH (HB2.out.keeps hk3 bA);clear hk3;have r3:=HB3.out.rl;go_upto_region 5 with(fail)
 obtain⟨w4,hw4⟩:=eX (w3.alloc (.cells #[dH dN a,dH dN n] 55));have HB4:Hid (Blk w4 w.heap.size 55 #[dH dN 0,dH dN 0]):=lH (by rw [← hw4];exact HB3.out.alloc _);have HA4:Hid (Blk w4 w3.heap.size 55 #[dH dN a,dH dN n]):=lH (by rw [← hw4];exact Blk.new w3 _ _);have HK4:Hid (Aa [] w w4):=lH (by rw [← hw4];exact HK3.out.alloc _);have r4:=HB4.out.rl;have s4:=HA4.out.rl;rw [hw4];clear hw4 r3;cases ok with
 | false=>
  have HN:Hid (V=((0,0),61)):=lH (by rw [← HV.out];simp);go_wp2_with (fail);have f5:=(((HB4.out.set_ 0 (dH dN 0)).set_ 1 (dH dN 0))).cell;refine bodyPost_ret (v:=.tuple #[dK #[dH dN 0,dH dN 0],dH dN 61]) (by simp [results,Tryz.results230,go_sem,f5]) rfl ⟨by rw [HN.out],?_⟩;exact HK4.out.own (((Aa.refl [w.heap.size] _).setCell (.inl bA) _).setCell (.inl bA) _) bF
 | true=>
  rcases he with rfl | rfl
  ·obtain⟨b,hb⟩:=eX (EL a n)
   have HR:=I4 a n b hb w4;have HB:=lH hb;clear hb;go_wp2_with (fail)
   with_reducible refine HR.mono ?_
   rintro r w5 ⟨rfl,hk5⟩;have HB5:=lH (HB4.out.keeps hk5 bA);have HA5:=lH (HA4.out.keeps hk5 bA);have HK5:=lH (HK4.out.trans hk5);have r5:=HB5.out.rl;have s5:=HA5.out.rl;clear hk5 r4 s4;cases b with
   | false=>
    have HN:Hid (V=((0,0),61)):=lH (by rw [← HV.out];simp [HB.out]);go_wp2_with (fail);have f5:=(((HB5.out.set_ 0 (dH dN 0)).set_ 1 (dH dN 0))).cell;refine bodyPost_ret (v:=.tuple #[dK #[dH dN 0,dH dN 0],dH dN 61]) (by simp [results,Tryz.results230,go_sem,f5]) rfl ⟨by rw [HN.out],?_⟩;exact HK5.out.own (((Aa.refl [w.heap.size] _).setCell (.inl bA) _).setCell (.inl bA) _) bF
   | true=>
    have HN:Hid (V=((a,n),0)):=lH (by rw [← HV.out];simp [HB.out]);go_wp2_with (fail);have f5:=(((HB5.out.set_ 0 (dH dN a)).set_ 1 (dH dN n))).cell;refine bodyPost_ret (v:=.tuple #[dK #[dH dN a,dH dN n],dH dN 0]) (by simp [results,Tryz.results230,go_sem,f5]) rfl ⟨by rw [HN.out],?_⟩;exact HK5.out.own (((Aa.refl [w.heap.size] _).setCell (.inl bA) _).setCell (.inl bA) _) bF
  ·have f1:((60:Int) != 0)=true:=by decide
   have HN:Hid (V=((0,0),61)):=lH (by rw [← HV.out];simp);go_wp2_with (fail);have f5:=(((HB4.out.set_ 0 (dH dN 0)).set_ 1 (dH dN 0))).cell;refine bodyPost_ret (v:=.tuple #[dK #[dH dN 0,dH dN 0],dH dN 61]) (by simp [results,Tryz.results230,go_sem,f5]) rfl ⟨by rw [HN.out],?_⟩;exact HK4.out.own (((Aa.refl [w.heap.size] _).setCell (.inl bA) _).setCell (.inl bA) _) bF
theorem Hg(s:ByteArray)(hasc:Dz s.data.toList)(w:World):
  Calls Tryz.prog 343 #[dK #[CZ s]] w fun e w'=>e = dM (dH dN (FB s.data.toList 0))∧Aa [] w w':=by
 obtain⟨w0,hw0⟩:=eX (w.alloc (.cells #[CZ s] 462));have hk0:Aa [] w w0:=by rw [← hw0];exact(Aa.refl [] w).alloc _
 have hb0:Blk w0 w.heap.size 462 #[CZ s]:=by rw [← hw0];exact Blk.new w _ _
 have q0:=hb0.rl;obtain⟨R,hR⟩:=eX (FB s.data.toList 0);have HR:=lH hR;rw [hR];have HK0:=lH hk0;clear hR hb0 hk0;go_enter Tryz.func343,Tryz.ntmps343;go_wp2_with (fail);clear hw0 q0;go_loopw [3] (fun i w'=>∃(k:Nat) (n:Int),i = dH dN n∧k≤s.size∧w'=w0.iter s k∧0≤n∧n≤65535∧Hid (FB (s.data.toList.drop k) n=R)) (fun _ w'=>s.size - w'.iterPos w0.heap.size)
 case atStart=>exact⟨0,0,rfl,Cy _,rfl,by omega,by omega,HR⟩
 case round=>
  clear HR;obtain⟨k,n,rfl,hk,rfl,hn0,hn1,HD⟩:=hrel;by_cases hp:k<s.size
  ·obtain⟨c,hc⟩:=eX ((s[k]'hp))
   have ha:c.toNat<128:=by
    refine hasc c ?_;rw [← hc];exact List.getElem_mem YH
   have hnx:∀ty,(Instr.next (dJ (some ⟨w0,0,none⟩)) true ty).run Tryz.prog (w0.iter s k) = .ok (.tuple #[dL true,dH dN k,.int .i32 c.toNat]) (w0.iter s (k+1)):=fun ty=>by
    have:=run_next_ascii (P:=Tryz.prog) w0 s k ty hp (by rw [hc];exact ha);rw [hc] at this;exact this
   have hdr:s.data.toList.drop k=c::s.data.toList.drop (k+1):=by
    rw [List.drop_eq_getElem_cons YH];rw [← hc];rfl
   have hst:=HD.out;rw [hdr,FB] at hst;obtain⟨d,hd⟩:∃d:Int,(c.toNat:Int) - 48=d:=⟨_,rfl⟩;have hd9 : -48≤d∧d≤79:=by omega
   have e1:IntKind.i32.wrap ((c.toNat:Int) - 48)=d:=by rw [hd];exact IntWalk.i32_in _ bB
   have e2:IntKind.i64.wrap (n*10)=n*10:=IntWalk.i64_in _ bB;have e3:IntKind.i64.wrap (n*10+d)=n*10+d:=IntWalk.i64_in _ bB;rw [hd] at hst;have HST:=lH hst;obtain⟨m,hm⟩:=eX (n*10+d);rw [hm] at e3 HST;clear hst hdr hc hd HD;by_cases hbad:m<0∨65535<m
   ·have HR:Hid (R = -1):=lH (by have:=HST.out;rw [if_pos hbad] at this;exact this.symm)
    have hb3:(m<0)∨(¬(m<0)∧(65535:Int)<m):=by omega
    clear hbad;rcases hb3 with h1 | ⟨h1,h2⟩
    all_goals
     go_wp2_with (fail);go_ret;exact⟨by rw [HR.out];rfl,HK0.out.trans (El w0 s _)⟩
   ·have HD2:Hid (FB (s.data.toList.drop (k+1)) m=R):=lH (by have:=HST.out;rw [if_neg hbad] at this;exact this)
    have h1:¬m<0:=by omega
    have h2:¬(65535:Int)<m:=by omega
    have h3:0≤m:=by omega
    have h4:m≤65535:=by omega
    clear hbad;go_wp2_with (fail);go_roundw;case rel=>exact⟨k+1,m,rfl,by omega,rfl,h3,h4,HD2⟩
    case measure=>simp;omega
  ·obtain rfl:k=s.size:=by omega
   have hnx:∀ty,(Instr.next (dJ (some ⟨w0,0,none⟩)) true ty).run Tryz.prog (w0.iter s s.size)=_:=fun ty=>run_next_end w0 s s.size ty hp;have hst:=HD.out;rw [List.drop_of_length_le bA,FB] at hst;have HR:=lH hst;clear hst HD;go_wp2_with (fail);go_ret;exact⟨by rw [← HR.out];rfl,HK0.out.trans (El w0 s _)⟩
theorem OU(w:World):Calls Tryz.prog 320 #[] w fun e w'=>e = dM (dK #[dH dN 0,dH dN 65535])∧Aa [] w w':=by
 have HK:=lH ((Aa.refl [] w).alloc (.cells #[dH dN 0,dH dN 65535] 57));have f5:=(Blk.new w 57 #[dH dN 0,dH dN 65535]).cell;go_enter Tryz.func320,Tryz.ntmps320;go_wp2_with (fail);exact bodyPost_ret (v:=dK #[dH dN 0,dH dN 65535]) (by simp [results,Tryz.results320,go_sem,f5]) rfl ⟨rfl,HK.out⟩
theorem XO(a b x y:Int)(w:World):(binOp .eql 57 (dK #[dH dN a,dH dN x]) (dK #[dH dN b,dH dN y])).run Tryz.prog w = .ok (dL (decide ((a,x)=(b,y)))) w:=by
 have hS:Tryz.prog.underlying 57=some (.struct (Tryz.prog.fieldsOf 57)):=by kernel_rfl
 have hp:Tryz.prog.stoodInHeld 57=false:=by kernel_rfl
 rw [run_eql_struct,show(10000:Nat)=9999+1 from rfl,run_equalIn_agg w 9999 57 _ _ hS hp];simp only [Program.fieldsOf,Tryz.underlying57];go_simp;by_cases h1:a=b<;>by_cases h2:x=y<;>simp [h1,h2]
theorem Lr(f t:Int)(w:World)(hT:Gp w)(E:Nat→Addr)(hE:Ez w E):
  Calls Tryz.prog 273 #[dK #[dH dN f,dH dN t]] w fun e w'=>e = dM (.tuple #[CZ (str (Cu f t).1),dH dN (Cu f t).2])∧Aa [] w w':=by
 obtain⟨w0,hw0⟩:=eX (w.alloc (.cells #[dH dN f,dH dN t] 57));have hk0:Aa [] w w0:=by rw [← hw0];exact(Aa.refl [] w).alloc _
 have hb0:Blk w0 w.heap.size 57 #[dH dN f,dH dN t]:=by rw [← hw0];exact Blk.new w _ _
 obtain⟨V,hV⟩:=eX (Cu f t);rw [hV];unfold Cu at hV;obtain⟨b,hb⟩:=eX (FR f t);have HRI:=lH (Ls f t b hb);have HBB:=lH hb;rw [hb] at hV;have HV:=lH hV;have HK0:=lH hk0;have HB0:=lH hb0;have HT:=lH hT;have HE:=lH hE;have q0:=hb0.rl;clear hV hb hk0 hb0 hT hE;go_enter Tryz.func273,Tryz.ntmps273;go_wp2_with (fail);refine(HRI.out w0).mono ?_;rintro r w1 ⟨rfl,hk1⟩;have HK1:=lH (HK0.out.trans hk1);have HB1:=lH (HB0.out.keeps hk1 bA);have q1:=HB1.out.rl;clear hk1 q0 hw0;cases b with
 | false=>
  have HN:Hid (V=([],70)):=lH HV.out.symm;have e1:=(HE.out.keep HK1.out).cell 8 bA;go_wp2_with (fail);refine(Js w1 (HE.out.keep HK1.out)).mono ?_;rintro e w2 ⟨rfl,rfl⟩;go_wp2_with (fail);go_ret2;exact⟨by rw [HN.out];rfl,HK1.out⟩
 | true=>
  have hft:0≤f∧f≤t∧t≤65535:=by
   have:=HBB.out;unfold FR at this;simp only [Af,decide_eq_true_eq] at this;omega
  have HV2:=HV.out;rw [if_pos rfl] at HV2;replace HV2:=lH HV2;obtain⟨c,hc⟩:=eX (decide ((f,t)=((0:Int),(65535:Int))));have heq:∀W,(binOp .eql 57 (dK #[dH dN f,dH dN t]) (dK #[dH dN 0,dH dN 65535])).run Tryz.prog W = .ok (dL c) W:=fun W=>by rw [XO,hc]
  have HC:Hid (decide (f=0∧t=65535)=c):=lH (by rw [← hc];simp);clear hc;go_upto_region 3 with(fail)
  go_cut [10] (fun x wc=>x = dL c∧Hid (Aa [] w1 wc))
  case first=>
   refine wp_region_held_drew (S:=(Aa [] w1)) bC (by((try dsimp only);(first | exact(Aa.refl [] w1).drew | exact hkt))) (fun hHeld=>?_);refine rK 0 ?_;refine rC 1 fun K hK=>?_;go_simp;refine(OU _).mono ?_;rintro e wt ⟨rfl,hkt⟩;have hkt:Aa [] w1 wt:=hHeld.trans hkt
   (try clear rH);refine rP hK (by((try dsimp only);(first | exact(Aa.refl [] w1).drew | exact hkt))) fun rH hHeld=>?_;clear hK K
   refine rK 2 ?_;refine rK 3 ?_;refine wpAnyH_done bC ?_ _
   (go_wp2_with (fail);go_meet;exact⟨rfl,lH hkt⟩)
  obtain⟨rfl,HKT⟩:=hcut;have hkt:=HKT.out
  rename World=>w2
  have HK2:=lH (HK1.out.trans hkt);have HB2:=lH (HB1.out.keeps hkt bA);have q2:=HB2.out.rl;clear hkt HKT q1;cases c with
  | true=>
   have h0:=of_decide_eq_true HC.out;have HN:Hid (V=([42],0)):=lH (by rw [← HV2.out];simp [h0]);clear h0;go_wp2_with (fail);go_ret2;exact⟨by rw [HN.out];rfl,HK2.out⟩
  | false=>
   have h0:=of_decide_eq_false HC.out;have HIN:=lH (fun n (h0:(0:Int)≤n) (h1:n≤65535) (W:World) (hW:Aa [] w W)=>F0 n bB bB W (HT.out.keeps hW));by_cases hft2:f=t
   ·subst hft2
    have HN:Hid (V=(itoaL f,0)):=lH (by rw [← HV2.out];simp [h0]);clear h0;go_wp2_with (fail);refine(HIN.out f hft.1 hft.2.2 w2 HK2.out).mono ?_;rintro e w3 ⟨rfl,hk3⟩;have HK3:=lH (HK2.out.trans hk3);clear hk3;go_wp2_with (fail);go_ret2;exact⟨by rw [HN.out];rfl,HK3.out⟩
   ·have HN:Hid (V=(itoaL f++45::itoaL t,0)):=lH (by rw [← HV2.out];simp [h0,hft2])
    have f1:(f==t)=false:=by simpa using hft2
    obtain⟨x,hx⟩:=eX (AU f);obtain⟨y,hy⟩:=eX (AU t);have hxs:x.size≤22:=by rw [← hx,AU,CC];exact Dv f
    have hys:y.size≤22:=by rw [← hy,AU,CC];exact Dv t
    have hx1:¬9223372036854775807<x.size+1:=by omega
    have hx2:¬9223372036854775807<x.size+1+y.size:=by omega
    have HXY:Hid ((x++(⟨#[45]⟩:ByteArray))++y=str (itoaL f++45::itoaL t)):=lH (by
     rw [← hx,← hy,AU,AU,show(⟨#[45]⟩:ByteArray)=str [45] from rfl,FK,FK];simp)
    have hif:=HIN.out f hft.1 bB;have hit:=HIN.out t bB hft.2.2;rw [hx] at hif;rw [hy] at hit;have HIF:=lH hif;have HIT:=lH hit;clear h0 hft2 hx hy hif hit;go_upto_region 7 with(fail)
    refine wp_region_held_drew (S:=(Aa [] w2)) bC ZK (fun hHeld=>?_);refine rK 0 ?_;refine rK 1 ?_;refine rK 4 ?_;refine rK 5 ?_;refine rC 2 fun K hK=>?_;go_simp
    (refine(HIF.out _ (HK2.out.trans hHeld)).mono ?_;rintro e wt ⟨rfl,hkt⟩;have hkt:Aa [] w2 wt:=hHeld.trans hkt)
    (try clear rH);refine rP hK ZK fun rH hHeld=>?_;clear hK K
    refine rK 3 ?_;refine rC 6 fun K hK=>?_;go_simp
    (refine(HIT.out _ (HK2.out.trans hHeld)).mono ?_;rintro e wu ⟨rfl,hku⟩;have hku:Aa [] w2 wu:=hHeld.trans hku)
    (try clear rH);refine rP hK ZK fun rH hHeld=>?_;clear hK K
    refine rK 7 ?_;refine rK 8 ?_;refine rK 9 ?_;refine wpAnyH_done bC ?_ _
    (go_wp2_with (fail);go_ret2;exact⟨by rw [HN.out,← HXY.out];rfl,HK2.out.trans hku⟩)
theorem SR(s:ByteArray)(w:World):Calls Tryz.prog 317 #[dK #[CZ s]] w fun e w'=>e = dM (dK #[dH dN 0,dH dN 65535])∧Aa [] w w':=by
 go_enter Tryz.func317,Tryz.ntmps317;go_wp2_with (fail);refine(OU _).mono ?_;rintro e w1 ⟨rfl,hk1⟩;have hk0:Aa [] w ((w.alloc (.cells #[CZ s] 464)).alloc (.cells #[dH dN 0,dH dN 0] 57)):=((Aa.refl [] w).alloc _).alloc _;have hb1:=(Aq (w.alloc (.cells #[CZ s] 464)) 57 #[dH dN 0,dH dN 0] (w.heap.size+1) bA).keeps hk1 bA;have HK1:=lH (hk0.trans hk1);have HB1:=lH hb1;have r1:=hb1.rl;clear hb1 hk1 hk0;go_wp2_with (fail);have f5:=((HB1.out.set_ 0 (dH dN 0)).set_ 1 (dH dN 65535)).cell;refine bodyPost_ret (v:=dK #[dH dN 0,dH dN 65535]) (by simp [results,Tryz.results317,go_sem,f5]) rfl ⟨rfl,?_⟩;exact HK1.out.own (((Aa.refl [w.heap.size+1] _).setCell (.inl bA) _).setCell (.inl bA) _) bF
theorem Ve(s:ByteArray)(hasc:Dz s.data.toList)(w:World):Calls Tryz.prog 318 #[dK #[CZ s]] w fun e w'=>e = dM (dK #[dH dN (FB s.data.toList 0),dH dN (FB s.data.toList 0)])∧Aa [] w w':=by
 have HN:=lH (fun W=>Hg s hasc W);obtain⟨n,hn⟩:=eX (FB s.data.toList 0);rw [hn] at HN ⊢;obtain⟨w1,hw1⟩:=eX ((w.alloc (.cells #[CZ s] 464)).alloc (.cells #[dH dN 0,dH dN 0] 57));have HK1:Hid (Aa [] w w1):=lH (by rw [← hw1];exact((Aa.refl [] w).alloc _).alloc _);have HA1:Hid (Blk w1 w.heap.size 464 #[CZ s]):=lH (by rw [← hw1];exact(Blk.new w _ _).alloc _);have HB1:Hid (Blk w1 (w.heap.size+1) 57 #[dH dN 0,dH dN 0]):=lH (by rw [← hw1];exact Aq _ _ _ _ bA);have r1:=HA1.out.rl;have s1:=HB1.out.rl;clear hn hasc;go_enter Tryz.func318,Tryz.ntmps318;go_wp2_with (fail);clear hw1;refine wp_region_held_drew (S:=(Aa [w.heap.size+1] w1)) bC Zj (fun hHeld=>?_);refine rK 0 ?_;refine rK 1 ?_;refine rK 3 ?_;refine rK 4 ?_;refine rC 2 fun K hK=>?_;go_simp
 (refine(HN.out _).mono ?_;rintro e wt ⟨rfl,hkt0⟩;have hkt':=((Aa.refl [] w1).drew).trans hkt0;have hkt:Aa [w.heap.size+1] w1 wt:=hkt'.mono bA)
 (try clear rH);refine rP hK Zj fun rH hHeld=>?_;clear hK K
 refine rC 5 fun K hK=>?_;go_simp
 (refine(HN.out _).mono ?_;rintro e wu ⟨rfl,hku0⟩;have hku':=hkt'.trans hku0;have hku:Aa [w.heap.size+1] w1 wu:=hku'.mono bA;have ru:=(HB1.out.keeps hku' bA).rl)
 (try clear rH);refine rP hK Zj fun rH hHeld=>?_;clear hK K
 refine rK 6 ?_;refine rC 7 fun K hK=>?_;go_simp
 (try clear rH);refine rP hK Zj fun rH hHeld=>?_;clear hK K
 refine wpAnyH_done bC ?_ _
 (go_wp2_with (fail);have f5:=(((HB1.out.keeps hku' bA).set_ 0 (dH dN n)).set_ 1 (dH dN n)).cell;exact bodyPost_ret (v:=dK #[dH dN n,dH dN n]) (by simp [results,Tryz.results318,go_sem,f5]) rfl ⟨rfl,HK1.out.own (((hku.setCell (.inl bA) _).setCell (.inl bA) _)) bF⟩)
theorem Vg(s:ByteArray)(hs:s.size≤1000)(hasc:Dz s.data.toList)(w:World)(hM:Iq w):Calls Tryz.prog 319 #[dK #[CZ s]] w fun e w'=>e = dM (dK #[dH dN (FB (C7 45 s.data.toList).1 0),dH dN (FB (C7 45 s.data.toList).2.1 0)])∧Aa [] w w':=by
 have hc1:=hasc.cut1 45;have hc2:=hasc.cut2 45;obtain⟨w1,hw1⟩:=eX ((w.alloc (.cells #[CZ s] 464)).alloc (.cells #[dH dN 0,dH dN 0] 57));have hk1:Aa [] w w1:=by rw [← hw1];exact((Aa.refl [] w).alloc _).alloc _
 have HCU:=Nt s 45 bB w1 (hM.keeps hk1);obtain⟨p,hp⟩:=eX (C7 45 s.data.toList);rw [hp] at HCU hc1 hc2 ⊢;obtain⟨p1,p2,p3⟩:=p;simp only [] at HCU hc1 hc2 ⊢;have HN1:=fun W=>Hg (str p1) (by rw [DM];exact hc1) W;have HN2:=fun W=>Hg (str p2) (by rw [DM];exact hc2) W;rw [DM] at HN1 HN2;obtain⟨n,hn⟩:=eX (FB p1 0);obtain⟨m,hm⟩:=eX (FB p2 0);rw [hn] at HN1 ⊢;rw [hm] at HN2 ⊢;have HN1:=lH HN1;have HN2:=lH HN2;have HK1:=lH hk1;have HA1:Hid (Blk w1 w.heap.size 464 #[CZ s]):=lH (by rw [← hw1];exact(Blk.new w _ _).alloc _);have HB1:Hid (Blk w1 (w.heap.size+1) 57 #[dH dN 0,dH dN 0]):=lH (by rw [← hw1];exact Aq _ _ _ _ bA);have r1:=HA1.out.rl;have s1:=HB1.out.rl;clear hn hm hasc hp hc1 hc2 hk1 hM;go_enter Tryz.func319,Tryz.ntmps319;go_wp2_with (fail);clear hw1
 with_reducible refine HCU.mono ?_
 rintro e w2 ⟨rfl,hk2⟩;go_wp2_with (fail);refine(HN1.out _).mono ?_;rintro e w3 ⟨rfl,hk3⟩;go_wp2_with (fail);refine(HN2.out _).mono ?_;rintro e w4 ⟨rfl,hk4⟩;have hk14:=(hk2.trans hk3).trans hk4;have HB4:=lH (HB1.out.keeps hk14 bA);have HK4:=lH (HK1.out.trans hk14);have r4:=HB4.out.rl;clear r1 s1 hk2 hk3 hk4 hk14;go_wp2_with (fail);have f5:=((HB4.out.set_ 0 (dH dN n)).set_ 1 (dH dN m)).cell;refine bodyPost_ret (v:=dK #[dH dN n,dH dN m]) (by simp [results,Tryz.results319,go_sem,f5]) rfl ⟨rfl,?_⟩;exact HK4.out.own (((Aa.refl [w.heap.size+1] _).setCell (.inl bA) _).setCell (.inl bA) _) bF
def Ed(s:ByteArray)(k:Nat):Int×Int:=(Ib s.data.toList).getD k (0,0)
def M9(s:ByteArray)(k:Nat):Array Value:=#[dK #[dH dN (Ed s k).1,dH dN (Ed s k).2]]
theorem NE(s:ByteArray)(w:World):Calls Tryz.prog 272 #[CZ s] w fun e w'=>e = dM (.func (.func 316) #[] #[dJ (some ⟨w,0,none⟩)])∧w.alloc (.cells #[CZ s] 464)=w':=by
 go_enter Tryz.func272,Tryz.ntmps272;go_wp2;go_ret;exact⟨rfl,rfl⟩
theorem ND(n l pb:Nat)(s:ByteArray)(hs:s.size≤1000)(hasc:Dz s.data.toList)(J Jx:List Nat→World→Prop)(W:World)(hJ:Xa W.heap.size J)(hV:∀z A,J z A→A.cell? ⟨pb,0,none⟩=some (CZ s)∧Iq A)
 (hY:∀pre x W1,J pre W1→pre++[x] <+: A0 3→YieldAt Ba (n - 1) Tryz.prog l (M9 s x) W1 fun e W'=>
   (e = dM (dL true)∧J (pre++[x]) W'∧BZ W.heap.size W1 W')∨(e = dM (dL false)∧Jx (pre++[x]) W'))
 (h0:J [] W):
  CallsIn Ba n Tryz.prog 316 #[.func (.yield l) #[] #[],dJ (some ⟨pb,0,none⟩)] W fun e W'=>(∃v,e = dM v)∧
   (J (A0 3) W'∨(∃pre,pre <+: A0 3∧Jx pre W')):=by
 obtain⟨W1,hW1⟩:=eX (W.alloc (.cells #[.func (.func 317) #[dK #[CZ s]] #[],.func (.func 318) #[dK #[CZ s]] #[],.func (.func 319) #[dK #[CZ s]] #[]] 465));have HJ0:Hid (J (A0 0) W1):=lH (by rw [← hW1];exact hJ _ _ _ h0 ((Below.refl _ W).alloc (Ap _) _));have HB0:Hid (Blk W1 W.heap.size 465 #[.func (.func 317) #[dK #[CZ s]] #[],.func (.func 318) #[dK #[CZ s]] #[],.func (.func 319) #[dK #[CZ s]] #[]]):=lH (by rw [← hW1];exact Blk.new W _ _);have c0:=(hV _ _ h0).1;have hsz1:W.heap.size≤W1.heap.size:=by rw [← hW1];simp
 have HV:=lH hV;have HY:=lH hY;have HJ:=lH hJ;clear hV hY h0 hJ;have hn1:Fence.wide.depth.isSome=true→1≤n:=by intro h;cases h
 refine callsIn_of_wp Tryz.func316 rfl trivial ?_ rfl;simp only [Tryz.ntmps316,Cx,Ao,Eh,Nat.reduceAdd,Nat.reduceSub,Bc,Bd,By,B0,AX,A6];gi_wp2;refine Br (wpIn_seq (wpIn_label ?_));gi_wp2;clear hW1 c0
 gi_loopw [13] (fun i wr=>∃k:Nat,i = dH dN k∧k≤3∧Hid (J (A0 k) wr)∧Hid (Blk wr W.heap.size 465 #[.func (.func 317) #[dK #[CZ s]] #[],.func (.func 318) #[dK #[CZ s]] #[],.func (.func 319) #[dK #[CZ s]] #[]])∧W.heap.size≤wr.heap.size) (fun i _=>3 - (intOf i).toNat)
 case atStart=>exact⟨0,rfl,Cy _,HJ0,HB0,hsz1⟩
 case round=>
  clear HJ0 HB0;obtain⟨k,rfl,hk,HJs,HBs,hsz⟩:=hrel;by_cases hlt:k<3
  ·have hd:=HBs.out.rl
   have HM:=lH (HV.out _ _ HJs.out).2;have HNX:Hid (∀w3,Aa [] wr w3→J (A0 k) w3∧Blk w3 W.heap.size 465 #[.func (.func 317) #[dK #[CZ s]] #[],.func (.func 318) #[dK #[CZ s]] #[],.func (.func 319) #[dK #[CZ s]] #[]]∧W.heap.size≤w3.heap.size):=lH fun w3 h3=>
    ⟨HJ.out _ _ _ HJs.out (h3.below hsz (fun _ hk=>by cases hk)),HBs.out.keeps h3 bA,As hsz h3.size⟩
   have:k=0∨k=1∨k=2:=by omega
   rcases this with rfl | rfl | rfl
   ·gi_wp2_with (fail)
    refine⟨trivial,hn1,(callsIn_wide.2 (SR s wr)).mono ?_⟩;rintro e w3 ⟨rfl,hk3⟩;obtain⟨hJ3,hB3,hsz3⟩:=HNX.out w3 hk3;have hy0:=Cv (HY.out _ 0 w3 hJ3 (Bv hlt));rw [← AY] at hy0;obtain⟨fnn,tmps,assign,body,hy,hR⟩:=hy0;simp only [M9] at hy;rw [show Ed s 0=(0,65535) from rfl] at hy;have HB3:=lH hB3;clear hk3 hJ3 hB3 hd;gi_wp2;refine⟨hn1,?_⟩;refine hR.mono ?_;rintro e W3 ⟨g,rfl,hT,hF⟩;clear hR hy;cases g with
    | false=>
     have hJx:=lH (hF.out rfl);clear hT hF;gi_wp2;try rw [AH]
     go_end0
     exact⟨⟨_,rfl⟩,.inr ⟨_,by rw [AY];exact Bv hlt,hJx.out⟩⟩
    | true=>
     obtain⟨hJ3,hK3⟩:=hT.out rfl;have HJ3:=lH hJ3;have HB4:Hid (Blk W3 W.heap.size 465 #[.func (.func 317) #[dK #[CZ s]] #[],.func (.func 318) #[dK #[CZ s]] #[],.func (.func 319) #[dK #[CZ s]] #[]]):=lH ((hK3.2 _ (Ap _) HB3.out.lt).trans HB3.out);have hsz4:W.heap.size≤W3.heap.size:=As hsz3 hK3.1;clear hT hF hJ3 hK3;gi_wp2;go_roundw;case rel=>exact⟨0+1,by go_num,by omega,HJ3,HB4,hsz4⟩
     case measure=>simp [intOf]
   ·gi_wp2_with (fail)
    refine⟨trivial,hn1,(callsIn_wide.2 (Ve s hasc wr)).mono ?_⟩;rintro e w3 ⟨rfl,hk3⟩;obtain⟨hJ3,hB3,hsz3⟩:=HNX.out w3 hk3;have hy0:=Cv (HY.out _ 1 w3 hJ3 (Bv hlt));rw [← AY] at hy0;obtain⟨fnn,tmps,assign,body,hy,hR⟩:=hy0;simp only [M9] at hy;rw [show Ed s 1=(FB s.data.toList 0,FB s.data.toList 0) from rfl] at hy;have HB3:=lH hB3;clear hk3 hJ3 hB3 hd;gi_wp2;refine⟨hn1,?_⟩;refine hR.mono ?_;rintro e W3 ⟨g,rfl,hT,hF⟩;clear hR hy;cases g with
    | false=>
     have hJx:=lH (hF.out rfl);clear hT hF;gi_wp2;try rw [AH]
     go_end0
     exact⟨⟨_,rfl⟩,.inr ⟨_,by rw [AY];exact Bv hlt,hJx.out⟩⟩
    | true=>
     obtain⟨hJ3,hK3⟩:=hT.out rfl;have HJ3:=lH hJ3;have HB4:Hid (Blk W3 W.heap.size 465 #[.func (.func 317) #[dK #[CZ s]] #[],.func (.func 318) #[dK #[CZ s]] #[],.func (.func 319) #[dK #[CZ s]] #[]]):=lH ((hK3.2 _ (Ap _) HB3.out.lt).trans HB3.out);have hsz4:W.heap.size≤W3.heap.size:=As hsz3 hK3.1;clear hT hF hJ3 hK3;gi_wp2;go_roundw;case rel=>exact⟨1+1,by go_num,by omega,HJ3,HB4,hsz4⟩
     case measure=>simp [intOf]
   ·gi_wp2_with (fail)
    refine⟨trivial,hn1,(callsIn_wide.2 (Vg s hs hasc wr HM.out)).mono ?_⟩;rintro e w3 ⟨rfl,hk3⟩;obtain⟨hJ3,hB3,hsz3⟩:=HNX.out w3 hk3;have hy0:=Cv (HY.out _ 2 w3 hJ3 (Bv hlt));rw [← AY] at hy0;obtain⟨fnn,tmps,assign,body,hy,hR⟩:=hy0;simp only [M9] at hy;rw [show Ed s 2=(FB (C7 45 s.data.toList).1 0,FB (C7 45 s.data.toList).2.1 0) from rfl] at hy;have HB3:=lH hB3;clear hk3 hJ3 hB3 hd;gi_wp2;refine⟨hn1,?_⟩;refine hR.mono ?_;rintro e W3 ⟨g,rfl,hT,hF⟩;clear hR hy;cases g with
    | false=>
     have hJx:=lH (hF.out rfl);clear hT hF;gi_wp2;try rw [AH]
     go_end0
     exact⟨⟨_,rfl⟩,.inr ⟨_,by rw [AY];exact Bv hlt,hJx.out⟩⟩
    | true=>
     obtain⟨hJ3,hK3⟩:=hT.out rfl;have HJ3:=lH hJ3;have HB4:Hid (Blk W3 W.heap.size 465 #[.func (.func 317) #[dK #[CZ s]] #[],.func (.func 318) #[dK #[CZ s]] #[],.func (.func 319) #[dK #[CZ s]] #[]]):=lH ((hK3.2 _ (Ap _) HB3.out.lt).trans HB3.out);have hsz4:W.heap.size≤W3.heap.size:=As hsz3 hK3.1;clear hT hF hJ3 hK3;gi_wp2;go_roundw;case rel=>exact⟨2+1,by go_num,by omega,HJ3,HB4,hsz4⟩
     case measure=>simp [intOf]
  ·obtain rfl:k=3:=by omega
   gi_wp2;try rw [AH]
   go_end0
   exact⟨⟨_,rfl⟩,.inl HJs.out⟩
theorem NF(n pb:Nat)(s:ByteArray)(hs:s.size≤1000)(hasc:Dz s.data.toList)(w:World):
  Xp Ba n Tryz.prog 316 #[dJ (some ⟨pb,0,none⟩)] (M9 s) (A0 3) (fun A=>A.cell? ⟨pb,0,none⟩=some (CZ s)∧Iq A) w:=fun l J Jx W _ hJ _ hV hY h0=>
 ND n l pb s hs hasc J Jx W hJ hV hY h0
def Rd(s:ByteArray)(k:Nat):Prop:=∀j,j<k→Hh s.data.toList (Ed s j)=false
theorem Pa(s:ByteArray)(k:Nat)(hk:k<3)(h:Rd s k)(hh:Hh s.data.toList (Ed s k)=true):Ef s.data.toList=(Ed s k,0):=by
 have e:Ib s.data.toList = [Ed s 0,Ed s 1,Ed s 2]:=rfl;unfold Ef;rw [e];have:k=0∨k=1∨k=2:=by omega
 rcases this with rfl | rfl | rfl
 ·simp [List.find?,hh]
 ·simp [List.find?,hh,h 0 bB]
 ·simp [List.find?,hh,h 0 bB,h 1 bB]
theorem NA(s:ByteArray)(h:Rd s 3):Ef s.data.toList=((0,0),70):=by
 have e:Ib s.data.toList = [Ed s 0,Ed s 1,Ed s 2]:=rfl;unfold Ef;rw [e];simp [List.find?,h 0 bB,h 1 bB,h 2 bB]
structure Xm(w:World)(s:ByteArray)(p:Int×Int)(A:World):Prop where
 kw:Below w.heap.size w A
 b0:Blk A w.heap.size 9 #[CZ s]
 b1:Blk A (w.heap.size+1) 57 #[dH dN p.1,dH dN p.2]
 b2:Blk A (w.heap.size+1+1) 48 #[dH dN 0]
 b3:Blk A (w.heap.size+1+1+1) 464 #[CZ s]
theorem Xm.low{w:World}{s:ByteArray}{p:Int×Int}{A A':World}(h:Xm w s p A){B:Nat}(hB:w.heap.size+4≤B)(hb:Below B A A'):Xm w s p A':=
 ⟨h.kw.trans (hb.mono bB),(hb.block _ bB).trans h.b0,(hb.block _ bB).trans h.b1,(hb.block _ bB).trans h.b2,(hb.block _ bB).trans h.b3⟩
theorem Q9(s:ByteArray)(hs:s.size≤1000)(hasc:Dz s.data.toList)(w:World)(hT:Gp w)(hM:Iq w)(E:Nat→Addr)(hE:Ez w E):
  Calls Tryz.prog 231 #[CZ s] w fun e w'=>e = dM (.tuple #[dK #[dH dN (Ef s.data.toList).1.1,dH dN (Ef s.data.toList).1.2],dH dN (Ef s.data.toList).2])∧Aa [] w w':=by
 refine(callsIn_wide (n:=9)).1 ?_;have HT:=lH hT;have HM:=lH hM;have HE:=lH hE;clear hT hM hE;refine callsIn_of_wp_marks Tryz.func231 rfl trivial ?_ rfl;simp only [Tryz.ntmps231,Cx,Ao,Eh,Nat.reduceAdd,Nat.reduceSub,Bc,Bd,By,B0,AX,A6];gi_wp2_with (fail);refine⟨trivial,(callsIn_wide.2 (NE s _)).mono ?_⟩;rintro e w1 ⟨rfl,hw1⟩;gi_wp2_with (fail);have hsz:w1.heap.size=w.heap.size+4:=by rw [← hw1];simp
 have hI0:Xm w s (0,0) w1:=by
  have hk:Below w.heap.size w w1:=by rw [← hw1];exact((((Below.refl _ w).alloc (Ap _) _).alloc bA _).alloc bG _).alloc bG _
  refine⟨hk,?_,?_,?_,?_⟩<;>rw [← hw1]
  ·exact(((Blk.new w _ _).alloc _).alloc _).alloc _
  ·exact((Aq _ _ _ _ bA).alloc _).alloc _
  ·exact(Aq _ _ _ _ bA).alloc _
  ·exact Aq _ _ _ _ bA
 have HI0:=lH hI0;clear hI0 hw1;refine Ew rfl bB (gf:=316) (lb:=#[dJ (some ⟨w.heap.size+1+1+1,0,none⟩)]) rfl trivial (enters_of Tryz.func316 bC rfl) (NF 8 (w.heap.size+1+1+1) s hs hasc w1) (Below.refl _ _) (fun _=>rfl)
  (fun pre A=>Xm w s (0,0) A∧Rd s pre.length) (fun _ A=>∃p,Xm w s p A∧Ef s.data.toList=(p,0))
  (fun z A A' h hb=>⟨h.1.low bB hb,h.2⟩) (fun z A A' h hb=>by obtain⟨p,h1,h2⟩:=h;exact⟨p,h1.low bB hb,h2⟩)
  (fun z A h=>⟨h.1.b3.cell 0,HM.out.keeps (Aa.of_below h.1.kw [])⟩) ⟨HI0.out,fun j hj=>by simp at hj⟩
  (fun k b=>{ tmps:=#[CZ s,dJ (some ⟨w,0,none⟩),dJ (some ⟨w.heap.size+1,0,none⟩),dJ (some ⟨w.heap.size+1+1,0,none⟩),dJ (some ⟨b,0,none⟩),undef,undef,CZ s,.func (.func 316) #[] #[dJ (some ⟨w.heap.size+1+1+1,0,none⟩)],dK #[dH dN (Ed s k).1,dH dN (Ed s k).2],undef,undef,undef,undef,undef,undef,undef,undef,undef,undef,undef,undef,undef,undef,undef,undef],defers:=[] })
  (fun k=>.cells #[dH dN (Ed s k).1,dH dN (Ed s k).2] 57) ?assign ?body ?done ?stop
 case assign=>
  intro l k W K hK;unfold M9;gi_wp2;exact hK
 case body=>
  rintro l pre k b W ⟨hI,hno⟩ hpre hb hbx;obtain⟨rfl,hk3⟩:=DN hpre;rw [A8] at hno;have hbb:Blk W b 57 #[dH dN (Ed s k).1,dH dN (Ed s k).2]:=hbx;obtain⟨p,hp⟩:=eX (Ed s k);obtain⟨f,t⟩:=p;rw [hp] at hbb ⊢;have HPR:=Lr f t W (HT.out.keeps (Aa.of_below hI.kw [])) E (HE.out.keep (Aa.of_below hI.kw []));obtain⟨v,e,hv⟩:∃v e,Cu f t=(v,e):=⟨_,_,rfl⟩;rw [hv] at HPR;obtain⟨c,hc⟩:=eX (Hh s.data.toList (f,t));have HH:Hid ((e==0&&v==s.data.toList)=c):=lH (by rw [← hc];unfold Hh;rw [hv]);have HP:=lH hp;have HC:=lH hc;have hr:=hbb.rl;have HB:=lH hbb;have HI:=lH hI;have HNO:=lH hno;have hbge:w.heap.size+4≤b:=by omega
  clear hbx hI hpre hp hv hc hbb hb hno;simp only [] at HPR;gi_wp2_with (fail);refine⟨trivial,CallsIn.inRound l (callsIn_wide.2 (HPR.mono ?_))⟩;rintro x w3 ⟨rfl,hk⟩;have HK:=lH hk;have hr3:=(HB.out.keeps hk bA).rl;have HI3:Hid (Xm w s (0,0) w3):=lH ⟨HI.out.kw.trans (hk.below (HI.out.kw.size) (fun _ h=>by cases h)),HI.out.b0.keeps hk bA,HI.out.b1.keeps hk bA,HI.out.b2.keeps hk bA,HI.out.b3.keeps hk bA⟩;have r0:=HI3.out.b0.rl;have r1:=HI3.out.b1.rl;have r2:=HI3.out.b2.rl;clear hk hr;obtain⟨x,hx⟩:=eX (str v);have HX:Hid ((e==0&&(x.toList==s.toList))=c):=lH (by rw [← HH.out,← hx,Ce,Ce];rfl);rw [hx];clear hx;have HFK:Hid (BZ w1.heap.size W w3):=lH (BZ.of_keeps HK.out (fun _ h=>by cases h));obtain⟨b0,hb0⟩:=eX ((e==0));obtain⟨d,hd⟩:=eX ((x.toList==s.toList));have hbd:Hid ((b0&&d)=c):=lH (by rw [← hb0,← hd];exact HX.out);cases c with
  | true=>
   have hb1:b0=true:=by have:=hbd.out;simp only [Af] at this;exact this.1
   have hd1:d=true:=by have:=hbd.out;simp only [Af] at this;exact this.2
   subst hb1 hd1;gi_wp2_with (fail);refine⟨HFK.out.trans (((BZ.setCell (p:=⟨w.heap.size+1,0,none⟩) bH w3 _).trans (BZ.setCell (p:=⟨w.heap.size+1,1,none⟩) bH _ _)).trans (BZ.setCell (p:=⟨w.heap.size+1+1,0,none⟩) bH _ _)),(f,t),?_,?_⟩
   ·refine⟨((HI3.out.kw.setCell (p:=⟨w.heap.size+1,0,none⟩) bH _).setCell (p:=⟨w.heap.size+1,1,none⟩) bH _).setCell (p:=⟨w.heap.size+1+1,0,none⟩) bH _,?_,?_,?_,?_⟩
    ·exact((HI3.out.b0.far bH _).far bH _).far bH _
    ·exact((HI3.out.b1.set_ 0 _).set_ 1 _).far bH _
    ·exact((HI3.out.b2.far bH _).far bH _).set_ 0 _
    ·exact((HI3.out.b3.far bH _).far bH _).far bH _
   ·have:=Pa s k hk3 HNO.out (by rw [HP.out];exact HC.out)
    rw [this,HP.out]
  | false=>
   have HNX:Hid (Rd s (k+1)):=lH (fun j hj=>by
    by_cases h:j<k
    ·exact HNO.out j h
    ·obtain rfl:j=k:=by omega
     rw [HP.out];exact HC.out)
   cases b0 with
   | true=>
    have hd1:d=false:=by have:=hbd.out;simpa using this
    subst hd1;gi_wp2_with (fail);exact⟨HFK.out,HI3.out,by rw [Ag,A8];exact HNX.out⟩
   | false=>
    gi_wp2_with (fail);exact⟨HFK.out,HI3.out,by rw [Ag,A8];exact HNX.out⟩
 case done=>
  rintro D W hD ⟨hI,hno⟩ hK;have HV:=lH (NA s hno);have r1:=hI.b1.rl;have r2:=hI.b2.rl;have hEW:=HE.out.keep (Aa.of_below hI.kw []);have eP:=hEW.cell 8 bA;have HEW:=lH hEW;have HI:=lH hI;have hDlt:D<W.heap.size:=(Aj.1 hK).1;clear hI hno hEW;gi_wp2_with (fail);refine⟨trivial,(callsIn_wide.2 (Js _ HEW.out)).mono ?_⟩;rintro e w3 ⟨rfl,rfl⟩;gi_wp2_with (fail);have hW:Aa [w.heap.size+1,w.heap.size+1+1] W (((W.setCell ⟨w.heap.size+1,0,none⟩ (dH dN 0)).setCell ⟨w.heap.size+1,1,none⟩ (dH dN 0)).setCell ⟨w.heap.size+1+1,0,none⟩ (dH dN 70)):=(((Aa.refl _ W).setCell (.inl bA) _).setCell (.inl bA) _).setCell (.inl bA) _;have d1:Blk (((W.setCell ⟨w.heap.size+1,0,none⟩ (dH dN 0)).setCell ⟨w.heap.size+1,1,none⟩ (dH dN 0)).setCell ⟨w.heap.size+1+1,0,none⟩ (dH dN 70)) (w.heap.size+1) 57 #[dH dN 0,dH dN 0]:=((HI.out.b1.set_ 0 _).set_ 1 _).far bH _;have d2:Blk (((W.setCell ⟨w.heap.size+1,0,none⟩ (dH dN 0)).setCell ⟨w.heap.size+1,1,none⟩ (dH dN 0)).setCell ⟨w.heap.size+1+1,0,none⟩ (dH dN 70)) (w.heap.size+1+1) 48 #[dH dN 70]:=((HI.out.b2.far bH _).far bH _).set_ 0 _;obtain⟨WF,hWF⟩:=eX (((W.setCell ⟨w.heap.size+1,0,none⟩ (dH dN 0)).setCell ⟨w.heap.size+1,1,none⟩ (dH dN 0)).setCell ⟨w.heap.size+1+1,0,none⟩ (dH dN 70));rw [hWF] at hW d1 d2 ⊢;have hKF:WF.heap[D]? = some (.deferred (some [])):=(hW.block D hDlt bI).trans hK;clear hWF;refine⟨by simp,.inl ⟨_,_,rfl,run_takeDeferred hKF,?_⟩⟩;have hk4:=Az (S:=[D]) WF (.deferred none) (l:=D) bA;have e1:=(d1.keeps hk4 bG).cell;have e2:=(d2.keeps hk4 bG).cell;refine⟨.tuple #[dK #[dH dN 0,dH dN 0],dH dN 70],by simp [results,Tryz.results231,go_sem,e1,e2],by rw [HV.out],((Aa.of_below HI.out.kw []).own hW bF).own hk4 bF⟩
 case stop=>
  rintro D pre W hD _ ⟨p,hI,hp⟩ hK;have r1:=hI.b1.rl;have r2:=hI.b2.rl;have HP:=lH hp;have HI:=lH hI;have hDlt:D<W.heap.size:=(Aj.1 hK).1;clear hI hp;gi_wp2_with (fail);refine⟨by simp,.inl ⟨_,_,rfl,run_takeDeferred hK,?_⟩⟩;have hk4:=Az (S:=[D]) W (.deferred none) (l:=D) bA;have e1:=(HI.out.b1.keeps hk4 bG).cell;have e2:=(HI.out.b2.keeps hk4 bG).cell;refine⟨.tuple #[dK #[dH dN p.1,dH dN p.2],dH dN 0],by simp [results,Tryz.results231,go_sem,e1,e2],by rw [HP.out],(Aa.of_below HI.out.kw []).own hk4 bF⟩
theorem Mi(f t:Int):(Cu f t).1.length≤50:=by
 have h1:=Dv f;have h2:=Dv t;unfold Cu
 repeat' split
 all_goals simp
 all_goals omega
theorem Lw(a b:Int):(prefixText a b).length≤130:=by
 have h1:=Gq a;have h2:=Dv b;unfold prefixText;simp;omega
theorem PJ(r:EW)(w:World)(hT:Gp w)(E:Nat→Addr)(hE:Ez w E):
  Calls Tryz.prog 232 #[dK (L_ r)] w fun e w'=>e = dM (.tuple #[CZ (str (F6 r).1),dH dN (F6 r).2])∧Aa [] w w':=by
 obtain⟨b,hb⟩:=eX (Jj r);have HR:=lH (G2 r b hb);have HB:=lH hb;obtain⟨V,hV⟩:=eX (F6 r);rw [hV];unfold F6 at hV;rw [hb] at hV;have HV:=lH hV;obtain⟨w0,hw0⟩:=eX (w.alloc (.cells (L_ r) 59));have HK0:Hid (Aa [] w w0):=lH Zr;have HB0:Hid (Blk w0 w.heap.size 59 (L_ r)):=lH Y9;have q0:=HB0.out.rl;have HT:=lH hT;have HE:=lH hE;clear hb hV hT hE;go_enter Tryz.func232,Tryz.ntmps232;go_wp2_with (fail);refine(HR.out w0).mono ?_;rintro e w1 ⟨rfl,hk1⟩;have HK1:=lH (HK0.out.trans hk1);have HB1:=lH (HB0.out.keeps hk1 bA);have q1:=HB1.out.rl;clear hk1 q0 hw0;cases b with
 | false=>
  have HN:Hid (V=([],80)):=lH HV.out.symm;have e1:=(HE.out.keep HK1.out).cell 2 bA;go_wp2_with (fail);refine(Dd w1 (HE.out.keep HK1.out)).mono ?_;rintro e w2 ⟨rfl,rfl⟩;go_wp2_with (fail);go_ret2;exact⟨by rw [HN.out];rfl,HK1.out⟩
 | true=>
  have hpp:EL r.addr r.bits=true∧FR r.from_ r.to_=true:=by
   have:=HB.out;unfold Jj at this;simpa using this
  have HPX:=lH (fun W (hW:Aa [] w W)=>JB r.addr r.bits hpp.1 W (HT.out.keeps hW));have HPP:=lH (fun W (hW:Aa [] w W)=>Lr r.from_ r.to_ W (HT.out.keeps hW) E (HE.out.keep hW));obtain⟨x,hx⟩:=eX (str (prefixText r.addr r.bits));obtain⟨y,hy⟩:=eX (str (Cu r.from_ r.to_).1);have hxs:x.size≤130:=by rw [← hx,CC];exact Lw _ _
  have hys:y.size≤50:=by rw [← hy,CC];exact Mi _ _
  rw [hx] at HPX;rw [hy] at HPP;obtain⟨pe,hpe⟩:=eX ((Cu r.from_ r.to_).2);rw [hpe] at HPP;have HN:Hid ((str V.1,V.2)=((((str (if r.allow then Nh else Xf)++(⟨#[32]⟩:ByteArray))++x)++(⟨#[32]⟩:ByteArray))++y,0)):=lH (by
   rw [← HV.out,if_pos rfl,← hx,← hy,show(⟨#[32]⟩:ByteArray)=str [32] from rfl,FK,FK,FK,FK];simp)
  clear hx hy hpe hpp HV;obtain⟨al,hal⟩:=eX (r.allow);rw [hal] at q1 HN ⊢;have HAL:=lH hal;cases al with
  | true=>
   have hz1:¬9223372036854775807<6+x.size:=by omega
   have hz2:¬9223372036854775807<6+x.size+1:=by omega
   have hz3:¬9223372036854775807<6+x.size+1+y.size:=by omega
   go_wp2_with (fail);refine(HPX.out w1 HK1.out).mono ?_;rintro e w2 ⟨rfl,hk2⟩;have HK2:=lH (HK1.out.trans hk2);have q2:=(HB1.out.keeps hk2 bA).rl;have HB2:=lH (HB1.out.keeps hk2 bA);clear hk2 q1;go_wp2_with (fail);refine(HPP.out w2 HK2.out).mono ?_;rintro e w3 ⟨rfl,hk3⟩;have HK3:=lH (HK2.out.trans hk3);clear hk3;go_wp2_with (fail);go_ret2;have h:=HN.out;injection h with h1 h2
   exact⟨by rw [h1,h2];rfl,HK3.out⟩
  | false=>
   have hz1:¬9223372036854775807<5+x.size:=by omega
   have hz2:¬9223372036854775807<5+x.size+1:=by omega
   have hz3:¬9223372036854775807<5+x.size+1+y.size:=by omega
   go_wp2_with (fail);refine(HPX.out w1 HK1.out).mono ?_;rintro e w2 ⟨rfl,hk2⟩;have HK2:=lH (HK1.out.trans hk2);have q2:=(HB1.out.keeps hk2 bA).rl;have HB2:=lH (HB1.out.keeps hk2 bA);clear hk2 q1;go_wp2_with (fail);refine(HPP.out w2 HK2.out).mono ?_;rintro e w3 ⟨rfl,hk3⟩;have HK3:=lH (HK2.out.trans hk3);clear hk3;go_wp2_with (fail);go_ret2;have h:=HN.out;injection h with h1 h2
   exact⟨by rw [h1,h2];rfl,HK3.out⟩
end
end Go.Proofs.YtcjdkbgdahgjbaaGreatDoor
