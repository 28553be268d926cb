/- ControlLines: a line that is split, and printed again, asks the same: for every text. No condition beyond the card's. -/
import Derived.Test.YtcjdkbgdahgjbaaGreatDoorK0
import Derived.Test.YtcjdkbgdahgjbaaGreatDoorKae
import Derived.Test.YtcjdkbgdahgjbaaGreatDoorKak
import Derived.Test.YtcjdkbgdahgjbaaGreatDoorKaw
import Derived.Test.YtcjdkbgdahgjbaaGreatDoorKay
import Derived.Test.YtcjdkbgdahgjbaaGreatDoorKaz
import Derived.Test.YtcjdkbgdahgjbaaGreatDoorKbc
import Derived.Test.YtcjdkbgdahgjbaaGreatDoorKbe
import Derived.Test.YtcjdkbgdahgjbaaGreatDoorKbh
import Derived.KernelRfl
import Derived.Test.YtcjdkbgdahgjbaaGreatDoorTie
import Derived.Test.YtcjdkbgdahgjbaaGreatDoorCards
import Derived.LaidMore
import Derived.LaidHandle
import Derived.LaidSub
import Derived.Stop.Joined
import Derived.SevenTiedAt
import Derived.Shelf.Vars
import Derived.Lib.LaidTab
import Derived.Deep.Strs
set_option maxRecDepth 100000
set_option maxHeartbeats 8000000
set_option linter.all false
namespace Go.Proofs.YtcjdkbgdahgjbaaGreatDoor
open Act renaming put→BP
open Ending renaming returned→dM
open IntKind renaming i64→dN
open _root_.List renaming all_eq_true→BB,eq_nil_of_length_eq_zero→Er,getElem?_eq_getElem→Au,getElem?_eq_some_iff→Ad,length_cons→Ao,length_drop→Bi,length_map→BX,length_nil→Eh,map_cons→Cn,mem_cons→Ac,mem_singleton→Am,not_mem_nil→Ab,range→A0,take_append_drop→Bj
open _root_.Nat renaming le_refl→Ap,zero_add→BI
open _root_.Option renaming map_eq_some_iff→B6
open Region renaming wanted→BY
open Value renaming agg→dK,bool→dL,int→dH,pointer→dJ,string→CZ
section
open Go.RowKit Go.Shelf
attribute [local go_sem] Oper.semAt_some N5 N6 N3 N4
attribute [local go_sem ↓] Go.wp_at_zero Go.wp_at_succ
def T1(w:World)(R:D2×ByteArray):Ending→World→Prop:=fun r w'=>∃v,r = dM (.tuple #[dK (ctlA v),CZ R.2])∧Cm w' v R.1∧E9 w.heap.size v R.1∧Aa [] w w'
theorem Cm.put{w w':World}{B b:Nat}{v:CV}{c:D2}{t:TypeId}{cs:Array Value}(h:Cm w v c)(hn:E9 B v c)(hb:b<B)(hB:Blk w b t cs)(h1:t≠43)(h2:t≠9)(hk:Aa [b] w w'):Cm w' v c:=
 h.stay hn.1 hn.2 hk (fun y hy=>by obtain rfl:=Am.1 hy;exact hb) (Jy.blk hB h1 h2)
theorem IK(v:CV)(c:D2)(conn:Int)(line:ByteArray)(now:Int)(hline:line.size≤1000000)(w:World)(hE:Ip w)(h:Cm w v c):
  Calls Tryz.prog 17 #[dK (C_ v),dH dN conn,CZ line,dH dN now] w (T1 w (FA c conn line now)):=by
 obtain⟨w0,hw0⟩:=eX ((w.alloc (.cells (C_ v) 36)).alloc (.cells K3.k 36));have hk0:Aa [] w w0:=by rw [← hw0];exact((Aa.refl [] w).alloc _).alloc _
 have hs0:w0.heap.size=w.heap.size+2:=by rw [← hw0];simp
 have hb0:Blk w0 w.heap.size 36 (C_ v):=by rw [← hw0];exact(Blk.new w _ _).alloc _
 have HB1:Hid (Blk w0 (w.heap.size+1) 36 K3.k):=lH ZV;have q:=hb0.rl;have HB0:=lH hb0;have HK0:=lH hk0;have HS0:=lH hs0;have HE:Hid (∀W,Aa [] w W→Ip W):=lH fun W hk=>hE.keeps hk;have HC:=Sa v c conn line hline w0 (hE.keeps hk0).s.et (h.keeps hk0);obtain⟨R,hR⟩:=eX (FA c conn line now);rw [hR];unfold FA at hR;obtain⟨C,hC⟩:=eX (KF c conn line);rw [hC] at hR HC;obtain⟨C1,er⟩:=C;have HR:=lH hR;clear hk0 hb0 hs0 h hE hR hC;go_enter Tryz.func17,Tryz.ntmps17;go_wp2_with (fail);clear hw0;refine HC.mono ?_;rintro e w1 ⟨v1,rfl,hm1,hn1,hk1⟩;have HM1:=lH hm1;have HN1:=lH hn1;have HK1:=lH hk1;have HC0:=lH (HB0.out.keeps hk1 bA);have HC1:=lH (HB1.out.keeps hk1 bA);have hlt:w.heap.size<w0.heap.size∧w.heap.size+1<w0.heap.size:=by have:=HS0.out;omega
 have HLT:=lH hlt;clear hm1 hn1 hk1 HC q hlt;go_wp2_with (refine AD bD 36 _ _ bD w.heap.size (ctlA v1) bD bD 36 (C_ v) HC0.out rfl (AQ v1) (Bl v1) ?_;intro w2 hb2 hk2);have HB2:=lH hb2;have HK2:=lH hk2;have HM2:Hid (Cm w2 v1 C1):=lH (HM1.out.put HN1.out HLT.out.1 HC0.out bE bE hk2);have HC2:Hid (Blk w2 (w.heap.size+1) 36 K3.k):=lH (HC1.out.keeps hk2 bA);have HKW:Hid (Aa [] w w2):=lH ((HK0.out.trans HK1.out).own hk2 bF);clear hb2 hk2;go_loopw [11] (fun i wr=>∃(k:Nat) (vk:CV) (ck:D2),k≤6∧i = dH dN k∧Hid (Blk wr w.heap.size 36 (ctlA vk)∧Blk wr (w.heap.size+1) 36 K3.k)∧Hid (Cm wr vk ck∧E9 w0.heap.size vk ck)∧Hid ((if er=0 then Hv (6 - k) ck conn now else(ck,⟨#[]⟩))=R)∧Hid (Aa [] w wr)) (fun i _=>6 - (intOf i).toNat)
 case atStart=>exact⟨0,v1,C1,by omega,rfl,lH ⟨HB2.out,HC2.out⟩,lH ⟨HM2.out,HN1.out⟩,lH HR.out,HKW⟩
 case round=>
  obtain⟨k,vk,ck,hk,rfl,HBB,HMM,HRR,HKR⟩:=hrel;have HEX:Hid (∀W W9,Aa [] wr W→(ck,⟨#[]⟩)=R→Aa [w.heap.size+1] W W9→T1 w R (dM (.tuple #[dK (ctlA vk),CZ ⟨#[]⟩])) W9):=lH (fun W W9 hk hR hk9=>by
   rw [← hR];exact⟨vk,rfl,(HMM.out.1.keeps hk).put HMM.out.2 HLT.out.2 (HBB.out.2.keeps hk bA) bE bE hk9,HMM.out.2.down (by have:=HS0.out;omega),(HKR.out.trans hk).own hk9 bF⟩)
  have q:=(show Blk wr w.heap.size 36 (C_ vk) from HBB.out.1).rl;by_cases hlt:k<6;rotate_left
  ·obtain rfl:k=6:=by omega
   have hR:(ck,⟨#[]⟩)=R:=by have:=HRR.out;split at this<;>exact this
   have HRX:=lH hR;clear hR hk hlt;go_wp2_with (refine AD bD 36 _ _ bD (w.heap.size+1) (ctlA vk) bD bD 36 K3.k HBB.out.2 rfl (AQ vk) (Bl vk) ?_;intro w9 hb9 hk9);exact bodyPost_ret (v:=.tuple #[dK (ctlA vk),CZ ⟨#[]⟩]) (AA rfl _ _ (w.heap.size+1) 36 (ctlA vk) _ (CZ ⟨#[]⟩) rfl rfl hb9 Tryz.underlying36 rfl (AQ _)) rfl (HEX.out wr _ (Aa.refl _ _) HRX.out hk9)
  have i1:(k:Int)<6:=by omega
  by_cases he:er=0;rotate_left
  ·have f0:(er==0)=false:=by simpa using he
   have hR:(ck,⟨#[]⟩)=R:=by have:=HRR.out;rwa [if_neg he] at this
   have HRX:=lH hR;clear hR hk hlt he;go_wp2_with (refine AD bD 36 _ _ bD (w.heap.size+1) (ctlA vk) bD bD 36 K3.k HBB.out.2 rfl (AQ vk) (Bl vk) ?_;intro w9 hb9 hk9);exact bodyPost_ret (v:=.tuple #[dK (ctlA vk),CZ ⟨#[]⟩]) (AA rfl _ _ (w.heap.size+1) 36 (ctlA vk) _ (CZ ⟨#[]⟩) rfl rfl hb9 Tryz.underlying36 rfl (AQ _)) rfl (HEX.out wr _ (Aa.refl _ _) HRX.out hk9)
  ·have f0:(er==0)=true:=by simpa using he
   obtain⟨m,hm⟩:∃m,6 - k=m+1:=⟨5 - k,by omega⟩;obtain⟨S,hS⟩:=eX (Jn ck conn now 0);have HR2:Hid ((if S.2.2≠0 then(ck,⟨#[]⟩) else if S.2.1.kind=2 then(S.1,S.2.1.text) else Hv m S.1 conn now)=R):=lH (by
    have:=HRR.out;rw [if_pos he,hm] at this;rw [← this,← hS];rfl)
   have HM:=lH (show 6 - (k+1)=m∧k+1≤6 from⟨by omega,by omega⟩);have HEZ:=lH he;have HST:=Sc vk ck conn now 0 wr (HE.out _ HKR.out) HMM.out.1;rw [hS] at HST;clear hm hS hk hlt he;go_wp2_with (fail);refine HST.mono ?_;rintro e w3 ⟨vx,rfl,hm3,hn3,hk3⟩;have HM3:=lH hm3;have HN3:Hid (E9 w0.heap.size vx S.1):=lH (hn3.down (by have:=HBB.out.2.lt;have:=HS0.out;omega));have HK3:=lH hk3;clear hm3 hn3 hk3 HST q;go_upto_region 6 with(first | (refine AD bD 36 _ _ bD w3.heap.size (ctlA vx) bD bD 36 K3.k ((Blk.new w3 _ _).alloc _) rfl (AQ vx) (Bl vx) ?_;intro w4 hb4 hk4) | (refine AD bD 74 _ _ bD (w3.heap.size+1) (effA S.2.1) bD bD 74 #[dH dN 0,dH dN 0,dH dN 0,CZ ⟨#[]⟩] ((Aq _ _ _ _ bA).keeps hk4 bA) rfl (I0 _) (IT _) ?_;intro w5 hb5 hk5))
   try simp only [BP]
   have hk35:Aa [] w3 w5:=((((Aa.refl [] w3).alloc _).alloc _).own hk4 bF).own hk5 bF;have HKX:Hid (Aa [] wr w5):=lH (HK3.out.trans hk35);have HM5:=lH (HM3.out.keeps hk35);have HX4:Hid (Blk w5 w3.heap.size 36 (C_ vx)):=lH (hb4.keeps hk5 bA);have HX5:Hid (Blk w5 (w3.heap.size+1) 74 #[dH dN S.2.1.kind,dH dN S.2.1.slot,dH dN S.2.1.gen,CZ S.2.1.text]):=lH hb5;have HX0:Hid (Blk w5 w.heap.size 36 (C_ vk)):=lH (HBB.out.1.keeps HKX.out bA);have HX1:=lH (HBB.out.2.keeps HKX.out bA);have hsz:w.heap.size+1<w3.heap.size:=by have:=HBB.out.2.lt;have:=HK3.out.size;omega
   clear hk35 hb4 hk4 hb5 hk5;have q0:=HX0.out.rl;have q4:=HX4.out.rl;by_cases h2:S.2.2=0;rotate_left
   ·have f2:(S.2.2 != 0)=true:=by simpa using h2
    have hR:(ck,⟨#[]⟩)=R:=by have:=HR2.out;rwa [if_pos h2] at this
    have HRX:=lH hR;clear hR h2;go_wp2_with (refine AD bD 36 _ _ bD (w.heap.size+1) (ctlA vk) bD bD 36 K3.k HX1.out rfl (AQ vk) (Bl vk) ?_;intro w9 hb9 hk9);exact bodyPost_ret (v:=.tuple #[dK (ctlA vk),CZ ⟨#[]⟩]) (AA rfl _ _ (w.heap.size+1) 36 (ctlA vk) _ (CZ ⟨#[]⟩) rfl rfl hb9 Tryz.underlying36 rfl (AQ _)) rfl (HEX.out w5 _ HKX.out HRX.out hk9)
   ·have f2:(S.2.2 != 0)=false:=by simpa using h2
    have HR3:Hid ((if S.2.1.kind=2 then(S.1,S.2.1.text) else Hv m S.1 conn now)=R):=lH (by have:=HR2.out;rwa [if_neg (by simp [h2])] at this);clear h2;go_upto_region 9 with(refine AD bD 36 _ _ bD w.heap.size (ctlA vx) bD bD 36 (C_ vk) HX0.out rfl (AQ vx) (Bl vx) ?_;intro w6 hb6 hk6)
    try simp only [BP]
    have HB6:Hid (Blk w6 w.heap.size 36 (C_ vx)):=lH hb6;have HK6:Hid (Aa [] w w6):=lH ((HKR.out.trans HKX.out).own hk6 bF);have HM6:Hid (Cm w6 vx S.1):=lH (HM5.out.put HN3.out HLT.out.1 HX0.out bE bE hk6);have HY1:=lH (HX1.out.keeps hk6 bA);have HY5:=lH (HX5.out.keeps hk6 bG);clear q0 q4 hb6 hk6;have q0:=HB6.out.rl;have q5:=HY5.out.rl;by_cases h3:S.2.1.kind=2
    ·have f3:(S.2.1.kind==2)=true:=by simpa using h3
     have hR:(S.1,S.2.1.text)=R:=by have:=HR3.out;rwa [if_pos h3] at this
     have HRX:=lH hR;have hne:¬w3.heap.size=w.heap.size:=by omega
     clear hR h3;go_upto_region 10 with(fail)
     refine wp_region_held_drew (S:=(Aa [w.heap.size+1] w6)) bC (by((try dsimp only);(first | exact hkS' | exact(Aa.refl _ w6).drew))) (fun hHeld=>?_);refine rK 0 ?_;refine rK 1 ?_;refine rK 2 ?_;refine rC 3 fun K hK=>?_
     (refine E5 36 _ _ bD (w.heap.size+1) (ctlA vx) bD bD 36 K3.k (Blk.drew HY1.out) rfl (AQ _) (Bl _) ?_;intro wS HRB hkS;have hkS':Aa [w.heap.size+1] w6 wS:=((Aa.refl _ w6).drew).trans hkS)
     (try clear rH);refine rP hK (by((try dsimp only);(first | exact hkS' | exact(Aa.refl _ w6).drew))) fun rH hHeld=>?_;clear hK K
     refine rK 4 ?_;refine wpAnyH_done bC ?_ _
     (go_wp2_with (fail);exact bodyPost_ret (v:=.tuple #[dK (ctlA vx),CZ S.2.1.text]) (AA rfl _ _ (w.heap.size+1) 36 (ctlA vx) _ (CZ S.2.1.text) rfl rfl HRB Tryz.underlying36 rfl (AQ _)) rfl (by rw [← HRX.out];exact⟨vx,rfl,HM6.out.put HN3.out HLT.out.2 HY1.out bE bE hkS',HN3.out.down (by have:=HS0.out;omega),HK6.out.own hkS' bF⟩))
    ·have f3:(S.2.1.kind==2)=false:=by simpa using h3
     have HR4:Hid ((if er=0 then Hv (6 - (k+1)) S.1 conn now else(S.1,⟨#[]⟩))=R):=lH (by have:=HR3.out;rw [if_neg h3] at this;rw [if_pos HEZ.out,HM.out.1];exact this);clear h3;go_wp2_with (fail);go_roundw;case rel=>exact⟨k+1,vx,S.1,HM.out.2,by go_num,lH ⟨HB6.out,HY1.out⟩,lH ⟨HM6.out,HN3.out⟩,HR4,HK6⟩
     case measure=>have:=HM.out.2;simp [intOf];omega
def Vx:D2:=(SC [⟨⟨#[97,110,110]⟩,3⟩] 2).1
theorem XU:(SC [⟨⟨#[97,110,110]⟩,3⟩] 2).2=0:=by kernel_rfl
theorem XV:(FA Vx 0 ⟨#[97,110,110,32,49,32,99,114,101,97,116,101,32,97,99,109,101,32,107,32,49,48,48]⟩ 5).2=⟨#[111,107,32,49,32,49,32,48,32,49,32,49,32,49]⟩:=by kernel_rfl
theorem XW:(FA (FA Vx 0 ⟨#[97,110,110,32,49,32,99,114,101,97,116,101,32,97,99,109,101,32,107,32,49,48,48]⟩ 5).1 1 ⟨#[97,110,110,32,50,32,108,105,115,116,32,51]⟩ 5).2=⟨#[111,107,32,50,32,50,32,49,32,101,110,100,32,97,99,109,101]⟩:=by kernel_rfl
theorem Vy:(FA (FA (FA Vx 0 ⟨#[97,110,110,32,49,32,99,114,101,97,116,101,32,97,99,109,101,32,107,32,49,48,48]⟩ 5).1 1 ⟨#[97,110,110,32,50,32,108,105,115,116,32,51]⟩ 5).1 0 ⟨#[97,110,110,32,49,32,99,114,101,97,116,101,32,97,99,109,101,32,107,32,49,48,48]⟩ 5).2=⟨#[111,107,32,49,32,49,32,48,32,49,32,49,32,49]⟩:=by kernel_rfl
theorem WK:(FA (FA (FA (FA Vx 0 ⟨#[97,110,110,32,49,32,99,114,101,97,116,101,32,97,99,109,101,32,107,32,49,48,48]⟩ 5).1 1 ⟨#[97,110,110,32,50,32,108,105,115,116,32,51]⟩ 5).1 0 ⟨#[97,110,110,32,49,32,99,114,101,97,116,101,32,97,99,109,101,32,107,32,49,48,48]⟩ 5).1 0 ⟨#[98,111,98,32,51,32,115,104,111,119,32,97,99,109,101,32,48]⟩ 5).2=⟨#[101,114,114,111,114,32,51,32,49,50,48]⟩:=by kernel_rfl
theorem WJ:(FA (FA (FA (FA Vx 0 ⟨#[97,110,110,32,49,32,99,114,101,97,116,101,32,97,99,109,101,32,107,32,49,48,48]⟩ 5).1 1 ⟨#[97,110,110,32,50,32,108,105,115,116,32,51]⟩ 5).1 0 ⟨#[97,110,110,32,49,32,99,114,101,97,116,101,32,97,99,109,101,32,107,32,49,48,48]⟩ 5).1 0 ⟨#[119,104,97,116]⟩ 5).2=⟨#[101,114,114,111,114,32,48,32,49,57,51]⟩:=by kernel_rfl
theorem XT:∃C0 C1 C2 C3 C4 C5,SC [⟨⟨#[97,110,110]⟩,3⟩] 2=(C0,0)∧FA C0 0 ⟨#[97,110,110,32,49,32,99,114,101,97,116,101,32,97,99,109,101,32,107,32,49,48,48]⟩ 5=(C1,⟨#[111,107,32,49,32,49,32,48,32,49,32,49,32,49]⟩)∧FA C1 1 ⟨#[97,110,110,32,50,32,108,105,115,116,32,51]⟩ 5=(C2,⟨#[111,107,32,50,32,50,32,49,32,101,110,100,32,97,99,109,101]⟩)∧FA C2 0 ⟨#[97,110,110,32,49,32,99,114,101,97,116,101,32,97,99,109,101,32,107,32,49,48,48]⟩ 5=(C3,⟨#[111,107,32,49,32,49,32,48,32,49,32,49,32,49]⟩)∧FA C3 0 ⟨#[98,111,98,32,51,32,115,104,111,119,32,97,99,109,101,32,48]⟩ 5=(C4,⟨#[101,114,114,111,114,32,51,32,49,50,48]⟩)∧FA C3 0 ⟨#[119,104,97,116]⟩ 5=(C5,⟨#[101,114,114,111,114,32,48,32,49,57,51]⟩):=
 ⟨_,_,_,_,_,_,Prod.ext rfl XU,Prod.ext rfl XV,Prod.ext rfl XW,Prod.ext rfl Vy,Prod.ext rfl WK,Prod.ext rfl WJ⟩
theorem Rb(w:World)(hE:Ip w):Calls Tryz.prog 13 #[] w fun r w'=>r = dM (dL true)∧Aa [] w w':=by
 obtain⟨C0,C1,C2,C3,C4,C5,h0,h1,h2,h3,h4,h5⟩:=XT;have H1:=lH h1;have H2:=lH h2;have H3:=lH h3;have H4:=lH h4;have H5:=lH h5;have HE:Hid (∀W,Aa [] w W→Ip W):=lH fun W hk=>hE.keeps hk;obtain⟨wa,hwa⟩:=eX (w.alloc (.cells #[CZ ⟨#[97,110,110]⟩,dH dN 3] 40));have hka:Aa [] w wa:=by rw [← hwa];exact(Aa.refl [] w).alloc _
 have hop:Mo wa (some ⟨w,0,none⟩) 1 [⟨⟨#[97,110,110]⟩,3⟩]:=by rw [← hwa];exact AJ.one (enc:=Fw) w ⟨⟨#[97,110,110]⟩,3⟩ 40 (Gw _)
 have HN:=Ub (some ⟨w,0,none⟩) 1 [⟨⟨#[97,110,110]⟩,3⟩] 1 rfl bE bE 2 wa hop;rw [h0] at HN;have HKA:=lH hka;clear h0 h1 h2 h3 h4 h5 hE hka hop;go_enter Tryz.func13,Tryz.ntmps13;go_wp2_with (fail);clear hwa;refine HN.mono ?_;rintro r w0 ⟨v0,rfl,hm0,hn0,hk0⟩;have HM0:=lH hm0;have HK0:=lH (HKA.out.trans hk0);clear hm0 hn0 hk0 HN;go_upto_region 2 with(refine AD bD 36 _ _ bD w0.heap.size (ctlA v0) bD bD 36 K3.k (Blk.new w0 _ _) rfl (AQ v0) (Bl v0) ?_;intro u0 hb0 hkb)
 try simp only [BP]
 obtain⟨b1,hb1⟩:=eX (w0.heap.size);have HB0:Hid (Blk u0 b1 36 (C_ v0)):=lH (by rw [← hb1];exact hb0);have hk01:Aa [] w0 u0:=((Aa.refl [] w0).alloc _).own hkb Yd;have HKU:=lH (HK0.out.trans hk01);have HMU:=lH (HM0.out.keeps hk01);have HBB:Hid (w.heap.size≤b1):=lH (by rw [← hb1];exact HK0.out.size);rw [hb1];have q:=HB0.out.rl;clear hb1 hb0 hkb hk01;have HM0':=HMU;have HK0':=HKU;have HA:=IK v0 C0 0 ⟨#[97,110,110,32,49,32,99,114,101,97,116,101,32,97,99,109,101,32,107,32,49,48,48]⟩ 5 bE u0 (HE.out _ HK0'.out) HM0'.out;rw [H1.out] at HA;go_wp2_with (fail);refine HA.mono ?_;rintro r w1 ⟨v1,rfl,hm,hn,hk⟩;have HB:=lH (HB0.out.keeps hk bA);have HM:=lH hm;have HN:=lH hn;have HK:=lH hk;clear hm hn hk HA q;go_upto_region 5 with(refine AD bD 36 _ _ bD b1 (ctlA v1) bD bD 36 (C_ v0) HB.out rfl (AQ v1) (Bl v1) ?_;intro u1 hb1 hkb)
 try simp only [BP]
 have HB1:Hid (Blk u1 b1 36 (C_ v1)):=lH hb1;have HM1':Hid (Cm u1 v1 C1):=lH (HM.out.put HN.out HB0.out.lt HB.out bE bE hkb);have HK1':Hid (Aa [] w u1):=lH ((HK0'.out.trans HK.out).own hkb ZR);clear hb1 hkb HB HM HN HK;have q:=HB1.out.rl;have HA:=IK v1 C1 1 ⟨#[97,110,110,32,50,32,108,105,115,116,32,51]⟩ 5 bE u1 (HE.out _ HK1'.out) HM1'.out;rw [H2.out] at HA;go_wp2_with (fail);refine HA.mono ?_;rintro r w2 ⟨v2,rfl,hm,hn,hk⟩;have HB:=lH (HB1.out.keeps hk bA);have HM:=lH hm;have HN:=lH hn;have HK:=lH hk;clear hm hn hk HA q;go_upto_region 6 with(refine AD bD 36 _ _ bD b1 (ctlA v2) bD bD 36 (C_ v1) HB.out rfl (AQ v2) (Bl v2) ?_;intro u2 hb2 hkb)
 try simp only [BP]
 have HB2:Hid (Blk u2 b1 36 (C_ v2)):=lH hb2;have HM2':Hid (Cm u2 v2 C2):=lH (HM.out.put HN.out HB1.out.lt HB.out bE bE hkb);have HK2':Hid (Aa [] w u2):=lH ((HK1'.out.trans HK.out).own hkb ZR);clear hb2 hkb HB HM HN HK;have q:=HB2.out.rl;have HA:=IK v2 C2 0 ⟨#[97,110,110,32,49,32,99,114,101,97,116,101,32,97,99,109,101,32,107,32,49,48,48]⟩ 5 bE u2 (HE.out _ HK2'.out) HM2'.out;rw [H3.out] at HA;go_wp2_with (fail);refine HA.mono ?_;rintro r w3 ⟨v3,rfl,hm,hn,hk⟩;have HB:=lH (HB2.out.keeps hk bA);have HM:=lH hm;have HN:=lH hn;have HK:=lH hk;clear hm hn hk HA q;go_upto_region 7 with(refine AD bD 36 _ _ bD b1 (ctlA v3) bD bD 36 (C_ v2) HB.out rfl (AQ v3) (Bl v3) ?_;intro u3 hb3 hkb)
 try simp only [BP]
 have HB3:Hid (Blk u3 b1 36 (C_ v3)):=lH hb3;have HM3':Hid (Cm u3 v3 C3):=lH (HM.out.put HN.out HB2.out.lt HB.out bE bE hkb);have HK3':Hid (Aa [] w u3):=lH ((HK2'.out.trans HK.out).own hkb ZR);clear hb3 hkb HB HM HN HK;have q:=HB3.out.rl;have HA:=IK v3 C3 0 ⟨#[98,111,98,32,51,32,115,104,111,119,32,97,99,109,101,32,48]⟩ 5 bE u3 (HE.out _ HK3'.out) HM3'.out;rw [H4.out] at HA;go_wp2_with (fail);refine HA.mono ?_;rintro r w4 ⟨v4,rfl,hm,hn,hk⟩;have HK:=lH hk;clear hm hn hk HA q;go_upto_region 8 with(refine AD bD 36 _ _ bD w4.heap.size (ctlA v4) bD bD 36 K3.k (Blk.new w4 _ _) rfl (AQ v4) (Bl v4) ?_;intro u4 hb4 hkb)
 try simp only [BP]
 have hk4:Aa [] u3 u4:=HK.out.trans (((Aa.refl [] w4).alloc _).own hkb Yd);have HK4':=lH (HK3'.out.trans hk4);have HM4':=lH (HM3'.out.keeps hk4);have q:=(HB3.out.keeps hk4 bA).rl;clear hb4 hkb HK hk4;have HA:=IK v3 C3 0 ⟨#[119,104,97,116]⟩ 5 bE u4 (HE.out _ HK4'.out) HM4'.out;rw [H5.out] at HA;go_wp2_with (fail);refine HA.mono ?_;rintro r w5 ⟨v5,rfl,hm,hn,hk⟩;have HK:=lH hk;clear hm hn hk HA q;go_upto_region 9 with(refine AD bD 36 _ _ bD w5.heap.size (ctlA v5) bD bD 36 K3.k (Blk.new w5 _ _) rfl (AQ v5) (Bl v5) ?_;intro u5 hb5 hkb)
 try simp only [BP]
 have HK5':=lH ((HK4'.out.trans HK.out).trans (((Aa.refl [] w5).alloc _).own hkb Yd));clear hb5 hkb HK;go_wp2_with (fail);go_ret;exact⟨rfl,HK5'.out⟩
theorem Pl(q:PC)(w:World):(binOp .eql 63 (dK (reqA q)) (dK (reqA q))).run Tryz.prog w = .ok (dL true) w:=by
 have hS1:Tryz.prog.underlying 63=some (.struct (Tryz.prog.fieldsOf 63)):=by kernel_rfl
 have hp1:Tryz.prog.stoodInHeld 63=false:=by kernel_rfl
 have hS2:Tryz.prog.underlying 61=some (.struct (Tryz.prog.fieldsOf 61)):=by kernel_rfl
 have hp2:Tryz.prog.stoodInHeld 61=false:=by kernel_rfl
 have hS3:Tryz.prog.underlying 59=some (.struct (Tryz.prog.fieldsOf 59)):=by kernel_rfl
 have hp3:Tryz.prog.stoodInHeld 59=false:=by kernel_rfl
 have hS4:Tryz.prog.underlying 55=some (.struct (Tryz.prog.fieldsOf 55)):=by kernel_rfl
 have hp4:Tryz.prog.stoodInHeld 55=false:=by kernel_rfl
 have hS5:Tryz.prog.underlying 57=some (.struct (Tryz.prog.fieldsOf 57)):=by kernel_rfl
 have hp5:Tryz.prog.stoodInHeld 57=false:=by kernel_rfl
 have H:(Op.equalIn 10000 63 (dK (reqA q)) (dK (reqA q))).run Tryz.prog w = .ok true w:=by
  unfold reqA;rw [show(10000:Nat)=9999+1 from rfl,run_equalIn_agg w 9999 63 _ _ hS1 hp1];simp only [Program.fieldsOf,Tryz.underlying63,Tryz.underlying61,Tryz.underlying59,Tryz.underlying55,Tryz.underlying57];simp only [Program.fieldsOf,Tryz.underlying63,Tryz.underlying61,Tryz.underlying59,Tryz.underlying55,Tryz.underlying57] at hS1 hS2 hS3 hS4 hS5;simp [go_sem,Program.fieldsOf,Tryz.underlying63,Tryz.underlying61,Tryz.underlying59,Tryz.underlying55,Tryz.underlying57,hp2,hp3,hp4,hp5]
 rw [run_eql_struct,H];rfl
theorem Pb{L:List ByteArray}{t:ByteArray}(h:Hi L=(t,0))(h1:∀k,DB (L.map JP) = .error k→k≠0):DB (L.map JP) = .ok t.data.toList∧t.size≤300:=by
 unfold Hi at h;cases hp:DB (L.map JP) with
 | error k=>rw [hp] at h;injection h with _ h;exact absurd h (h1 k hp)
 | ok l=>
  rw [hp] at h;injection h with h _
  subst h;refine⟨by simp,?_⟩;unfold DB at hp;split at hp
  ·cases hp
  ·cases hw:Cd (L.map JP) with
   | error k=>rw [hw] at hp;cases hp
   | ok m=>
    rw [hw] at hp;simp only [Except.bind] at hp;split at hp
    ·cases hp
    ·injection hp with hp
     subst hp;show(DR m).toArray.size≤300;simp;omega
theorem P1{r r':Bw}{b:UInt8}{e:Bool}(h:r.step b e = .ok r'):r'.done.length≤r.done.length+1:=by
 unfold Bw.step Bw.bareS Bw.add Bw.shutW at h
 repeat' split at h
 all_goals first | (cases h;done) | (injection h with h;subst h;simp)
theorem R4:∀ {l:List UInt8} {r r':Bw},Da l r = .ok r'→r'.done.length≤r.done.length+l.length
 | [],r,r',h=>by injection h with h;subst h;simp
 | b::l,r,r',h=>by
  rw [Da] at h;cases hs:r.step b false with
  | error k=>rw [hs] at h;cases h
  | ok r1=>
   rw [hs] at h;have h1:=P1 hs;have h2:=R4 (l:=l) (r:=r1) h;rw [Ao];omega
theorem V5{s:List UInt8}{l:List (List UInt8)}(h:BG s = .ok l):l.length≤301:=by
 unfold BG at h;split at h
 ·cases h
 ·split at h
  ·cases h
  ·rename_i hl _
   cases hr:Da s .zero with
   | error k=>rw [hr] at h;cases h
   | ok r=>
    rw [hr] at h;simp only [Except.bind] at h;cases hs:r.step 0 true with
    | error k=>rw [hs] at h;cases h
    | ok r1=>
     rw [hs] at h;injection h with h
     subst h;have h1:=R4 hr;have h2:=P1 hs;simp only [Bw.zero,Eh] at h1;omega
theorem MY:∀ {l:List (List UInt8)} {k:Int},Cd l = .error k→k≠0
 | [],k,h=>by cases h
 | s::l,k,h=>by
  rw [Cd] at h;cases hw:EV s with
  | error k1=>
   rw [hw] at h;injection h with h
   subst h;unfold EV at hw;split at hw
   ·injection hw with hw;rw [← hw];decide
   ·split at hw
    ·injection hw with hw;rw [← hw];decide
    ·cases hw
  | ok t=>
   rw [hw] at h;simp only [Except.bind] at h;cases hm:Cd l with
   | error k1=>rw [hm] at h;injection h with h;rw [← h];exact MY hm
   | ok m=>rw [hm] at h;cases h
theorem SQ{l:List (List UInt8)}{k:Int}(h:DB l = .error k):k≠0:=by
 unfold DB at h;split at h
 ·injection h with h;rw [← h];decide
 ·cases hw:Cd l with
  | error k1=>rw [hw] at h;injection h with h;rw [← h];exact MY hw
  | ok m=>
   rw [hw] at h;simp only [Except.bind] at h;split at h
   ·injection h with h;rw [← h];decide
   ·cases h
theorem DO{P:Program}{ops:Array Oper}{rest:List Oper}{op:Oper}{a:Act}{w:World}{Q:Exit→Act→World→Prop}(hw:BY op (yielded ops a.tmps)=true)(ty:TypeId)(x:Operand)(ho:op.op = .load ty x)
 (b o:Nat)(hx:a.eval x = dJ (some ⟨b,o,none⟩))(cs:Array Value)(d:TypeDesc)(hc:w.rangeAt b o cs.toList)
 (hu:P.underlying ty=some d)(hd:d.isRow=true)(hi:(P.info? ty).map (·.size)=some cs.toList.length)
 (h:wpList P ops Q rest (a.put op.dst (.agg cs)) w):wpList P ops Q (op::rest) a w:=
 wpList_step fun K hK=>by
  rw [if_pos hw];unfold Oper.wp;rw [FP (P:=P) ty x ho b o hx cs d hc hu hd hi];exact hK _ _ h
theorem LP{P:Program}{ops:Array Oper}{rest:List Oper}{op:Oper}{a:Act}{w:World}{Q:Exit→Act→World→Prop}(hw:BY op (yielded ops a.tmps)=true)(ty:TypeId)(x y:Operand)(ho:op.op = .binOp .eql ty x y ty)(u v:Array Value)(r:Value)
 (hx:a.eval x = .agg u)(hy:a.eval y = .agg v)(hm:P.eqGuardType P.depth ty=false)(hr:(binOp .eql ty (.agg u) (.agg v)).run P w = .ok r w)(h:wpList P ops Q rest (a.put op.dst r) w):wpList P ops Q (op::rest) a w:=
 wpList_step fun K hK=>by
  rw [if_pos hw];unfold Oper.wp execOp;simp only [ho,hx,hy,run_eqGuard_agg (hm:=hm),Sem.run_bind,Sem.run_pure,Result.andThen_ok,hr];exact hK _ _ h
theorem VA(l:List (List UInt8)):(l.map CB).map JP=l:=by
 induction l with
 | nil=>rfl
 | cons x l ih=>rw [Cn,Cn,ih];rfl
theorem Ra(s:ByteArray)(w:World)(hE:Ip w):Calls Tryz.prog 4 #[CZ s] w fun r w'=>r = dM (dL true)∧Aa [] w w':=by
 obtain⟨t,ht⟩:=eX (Ul s);have hts:t.size≤310:=by rw [← ht];exact Sj s
 obtain⟨q,er,hq⟩:∃q er,Bk t=(q,er):=⟨_,_,rfl⟩;have HTS:=lH hts;have HT:=lH ht;have HPQ:=lH hq;have HE:Hid (∀W,Aa [] w W→Ip W):=lH fun W hk=>hE.keeps hk;have HSH:=Rb w hE;clear hts hq hE ht;go_enter Tryz.func4,Tryz.ntmps4;go_wp2_with (fail);refine HSH.mono ?_;rintro r w1 ⟨rfl,hk1⟩;have HK1:=lH hk1;clear hk1 HSH;go_wp2_with (fail);refine(VR s _).mono ?_;rintro r w2 ⟨rfl,rfl⟩;rw [HT.out];obtain⟨E,hC⟩:=(HE.out w1 HK1.out).c;have HP:=Iv E t (by have:=HTS.out;omega) w1 hC;rw [HPQ.out] at HP;clear hC;go_wp2_with (fail);refine HP.mono ?_;rintro r w3 ⟨rfl,hk3⟩;have HK3:=lH hk3;clear hk3 HP;go_upto_region 4 with(refine AD bD 63 _ _ bD w3.heap.size (reqA q) bD bD 63 Xt.k (Blk.new w3 _ _) rfl (B1 _) (CQ _) ?_;intro w4 hb4 hk4)
 try simp only [BP]
 obtain⟨qb,hqb⟩:=eX (w3.heap.size);rw [hqb] at hb4 ⊢;have HB4:Hid (Blk w4 qb 63 (Q_ q)):=lH hb4;have HK4:Hid (Aa [] w w4):=lH ((HK1.out.trans HK3.out).trans (((Aa.refl [] w3).alloc _).own hk4 Yd));clear hb4 hk4 hqb;have HS:=Ht t (by have:=HTS.out;omega) w4 (HE.out w4 HK4.out).s.et;unfold Ir at HS;cases hl:BG t.data.toList with
 | error k=>
  have hk0:=Ic hl;have hek:er=k:=by
   have:=HPQ.out;unfold Bk at this;rw [hl] at this;injection this with _ h;exact h.symm
  subst hek;rw [hl] at HS;have f1:(er != 0)=true:=by simpa using hk0
  have f2:(er==0)=false:=by simpa using hk0
  clear hl hk0;go_wp2_with (fail);refine HS.mono ?_;rintro r w5 ⟨rfl,hk5⟩;have HK5:=lH (HK4.out.trans hk5);clear hk5 HS;go_wp2_with (fail);refine(Jz none 0 0 [] rfl bE w5 (HE.out w5 HK5.out).s.et AJ.none_).mono ?_;rintro r w6 ⟨rfl,hk6⟩;have HK6:=lH (HK5.out.trans hk6);clear hk6;go_wp2_with (fail);go_ret;exact⟨rfl,HK6.out⟩
 | ok l=>
  rw [hl] at HS;have HL:=lH hl;clear hl;go_wp2_with (fail);refine HS.mono ?_;rintro r w5 ⟨a,k,rfl,hs5,hk5⟩;have HK5:=lH (HK4.out.trans hk5);have HB5:=lH (HB4.out.keeps hk5 bA);obtain⟨P,g,hP⟩:∃P g,Hi (l.map CB)=(P,g):=⟨_,_,rfl⟩;have HPR:=Jz a k l.length (l.map CB) bA (by have:=V5 HL.out;omega) w5 (HE.out w5 HK5.out).s.et hs5;rw [hP] at HPR;have HPP:=lH hP;clear hk5 HS hs5 hP;go_wp2_with (fail);refine HPR.mono ?_;rintro r w6 ⟨rfl,hk6⟩;have HK6:=lH (HK5.out.trans hk6);have HB6:=lH (HB5.out.keeps hk6 bA);clear hk6 HPR;by_cases hg:g=0;rotate_left
  ·have f1:(g != 0)=true:=by simpa using hg
   clear hg;go_wp2_with (fail);go_ret;exact⟨rfl,HK6.out⟩
  ·subst hg
   obtain⟨hpl,hps⟩:=Pb HPP.out (fun k hk=>SQ hk);rw [VA] at hpl;have hpp:Bk P=(q,er):=by rw [OV HL.out hpl];exact HPQ.out
   obtain⟨E,hC⟩:=(HE.out w6 HK6.out).c;have HP:=Iv E P bB w6 hC;rw [hpp] at HP;clear hpl hps hpp hC;go_wp2_with (fail);refine HP.mono ?_;rintro r w7 ⟨rfl,hk7⟩;have HB7:=lH (HB6.out.keeps hk7 bA);have HK7:=lH (HK6.out.trans hk7);clear hk7 HP;go_upto_region 9 with(refine AD bD 63 _ _ bD w7.heap.size (reqA q) bD bD 63 Xt.k (Blk.new w7 _ _) rfl (B1 _) (CQ _) ?_;intro w8 hb8 hk8)
   try simp only [BP]
   have HB8:Hid (Blk w8 qb 63 (Q_ q)):=lH ((HB7.out.keeps ((Aa.refl [] w7).alloc _) bA).keeps hk8 (by have:=HB7.out.lt;simp;omega));have HG1:=lH (Blk.rng (cs:=reqA q) HB8.out 0 (reqA q) (fun j x hx=>by rw [BI];simpa using hx));have HG2:=lH (hb8.rng 0 (reqA q) (fun j x hx=>by rw [BI];simpa using hx));have c1:w8.cell? ⟨qb,1,none⟩=some (dH dN q.id):=HB8.out.cell 1;have c2:w8.cell? ⟨qb,2,none⟩=some (dH dN q.com.verb):=HB8.out.cell 2;have HK8:=lH (HK7.out.trans (((Aa.refl [] w7).alloc _).own hk8 Yd));clear hb8 hk8;by_cases h0:er=0
   ·obtain⟨a1,a2,a3,a4⟩:=UZ (s:=t) (by rw [HPQ.out];exact h0)
    rw [HPQ.out] at a1 a2 a3 a4;dsimp only at a1 a2 a3 a4;have f1:(er != 0)=false:=by simpa using h0
    have g1:decide (q.id≥1)=true:=decide_eq_true a1;have g2:decide (q.id≤1000000)=true:=decide_eq_true a2;have g3:decide (q.com.verb≥1)=true:=decide_eq_true a3;have g4:decide (q.com.verb≤10)=true:=decide_eq_true a4;clear h0 a1 a2 a3 a4
    iterate 7 go_step
    refine DO bD 63 _ bD qb 0 bD (reqA q) _ HG1.out Tryz.underlying63 rfl (B1 q) ?_;refine DO bD 63 _ bD w7.heap.size 0 bD (reqA q) _ HG2.out Tryz.underlying63 rfl (B1 q) ?_;refine LP bD 63 _ _ bD (reqA q) (reqA q) (dL true) bD bD bC (Pl q _) ?_;go_wp2_with (fail);go_ret;exact⟨rfl,HK8.out⟩
   ·have f1:(er != 0)=true:=by simpa using h0
    clear h0
    iterate 7 go_step
    refine DO bD 63 _ bD qb 0 bD (reqA q) _ HG1.out Tryz.underlying63 rfl (B1 q) ?_;refine DO bD 63 _ bD w7.heap.size 0 bD (reqA q) _ HG2.out Tryz.underlying63 rfl (B1 q) ?_;refine LP bD 63 _ _ bD (reqA q) (reqA q) (dL true) bD bD bC (Pl q _) ?_;go_wp2_with (fail);go_ret;exact⟨rfl,HK8.out⟩
end
section
open Go.ChangeShapes Go.WideShapes Go.ChangeAt Go.RowKit Go.Deep
theorem own:ownKnob Tryz.prog.godebug=none:=by kernel_rfl
section
variable {H:Type} {enc:TypeId×Value→H}
theorem OL{a:Assume}{C:Checked}{os:Os}{f:FuncId}{fn:Func}{s:ChangeSpec}{conds:List PathCond}{apart fresh handsOn again:Bool}{X:World→Array Value→Prop}
 (hX:∀(w w':World) (args:Array Value),w.heap=w'.heap→X w args→X w' args)
 (own:ownKnob C.prog.godebug=none)(started:os.Started)(noInit:C.prog.inits.idxOf? f=none)(hfn:C.prog.funcs[f]? = some fn)
 (witness:∃(w:World) (tape:Tape) (i:Input),w.os=os∧(w.forCall tape i).Shaped C.prog∧i.vars = []∧Input.okWide C.prog (w.forCall tape i) .any w.heap.size f i∧
   ((s.pre enc C.prog fn conds apart (w.forCall tape i).memory i.args∧X (w.forCall tape i).memory i.args)∧sizedMet enc C.prog fn (OpenSpec.ofChange s) apart (w.forCall tape i).memory i.args)∧a.holds C.prog (lone (Frame.enter C.prog f i.args .normal) [] (w.forCall tape i)))
 (contract:∀(W:World) (base:Nat) (args:Array Value) (ds gs:List (DataW H)) (before:List MemPlace),
   (∀(j:Nat) t v,fn.params[j]? = some t→args[j]? = some v→Value.okWide C.prog W .any base t v)→
   DataW.Whole enc C.prog fn.params.toList s.vars apart W args.toList ds gs before→X W args→W.ShapedOpen C.prog→
   Calls C.prog f args W fun e W'=>∃v,e = dM v∧s.post enc C.prog fn apart fresh handsOn again W args v W'):
  ReturnsInHanded a C os f .any (fun w args=>(s.pre enc C.prog fn conds apart w args∧X w args)∧sizedMet enc C.prog fn (OpenSpec.ofChange s) apart w args) (s.post enc C.prog fn apart fresh handsOn again):=by
 refine returnsInHanded_of_calls own started noInit witness ?_;intro w tape i _ hsh _ hok hpre _;obtain⟨_,_,_,fn',hfn',_,_,_,_,hval⟩:=hok;have e:fn'=fn:=Option.some.inj (hfn'.symm.trans hfn);subst e;obtain⟨⟨⟨ds,gs,before,hw,_⟩,hx⟩,_⟩:=hpre;have hw':=DataW.Whole.of_heap (w':=w.forCall tape i) bD hw;refine(contract (w.forCall tape i) w.heap.size i.args ds gs before hval hw' (hX _ _ _ bD hx) hsh).mono fun e W' ⟨v,he,hp⟩=>?_;subst he;exact ChangeSpec.post_blind hp
end
theorem JD{P:Program}{W:World}{n:String}{d:DataW Unit}: ∀ {l:List (String×DataW Unit)} {ps:List MemPlace},DataW.LaidVars P W l ps→(n,d)∈l→
  ∃g t cs fuel p,P.globalNamed n=some g∧(P.globals[g]?).map (·.type)=some t∧W.var? P n=some cs∧DataW.trod (fun _=>()) P W 0 (fun _=>true) false fuel t cs.toList=some (d,p)
 | (_,_)::_,_,h,hm=>by
  obtain⟨g,t,cs,fuel,p,q,e1,e2,e3,e4,hr,_⟩:=h;rcases Ac.1 hm with e | hm
  ·cases e;exact⟨g,t,cs,fuel,p,e1,e2,e3,e4⟩
  ·exact JD hr hm
section
variable {P:Program} {W:World} {n:String}
theorem Qy{l:List (String×DataW Unit)}{ps:List MemPlace}(h:DataW.LaidVars P W l ps){nm:String}{d:DataW Unit}(hm:(n,DataW.iface nm d)∈l){g:Nat}{t:TypeId}{ms:Array (String×TypeId)}(hg:P.globalNamed n=some g)(ht:(P.globals[g]?).map (·.type)=some t)(hi:P.underlying t=some (.interface ms)):
  ∃u v,W.cell? ⟨g,0,none⟩=some (.iface u v):=by
 obtain⟨g',t',cs,fuel,p,e1,e2,e3,e4⟩:=JD h hm;obtain rfl:=Option.some.inj (hg.symm.trans e1);obtain rfl:=Option.some.inj (ht.symm.trans e2);obtain⟨_,u,v,hcs,_,_⟩:=iface_of_trod hi e4;refine⟨u,v,?_⟩;have:=World.var?_cell hg e3 0;obtain⟨cs⟩:=cs;simp only at hcs;subst hcs;simpa using this
theorem Rs{α:Type}{k:Nat}{en:α→List Value}: ∀(X:List α) (cs:List Value),cs.length=X.length*k→(∀i (h:i<X.length),(cs.drop (i*k)).take k=en X[i])→cs=X.flatMap en
 | [],cs,hl,_=>Er bb6
 | x::X,cs,hl,h=>by
  rw [List.flatMap_cons,← Bj k cs];have h0:=h 0 bA;rw [Nat.zero_mul,List.drop_zero] at h0
  congr 1
  rw [Ao,Nat.add_mul,Nat.one_mul] at hl;refine Rs (k:=k) X (cs.drop k) (by rw [Bi];omega) fun i hi=>?_;have:=h (i+1) (by simpa using hi);rw [Nat.add_mul,Nat.one_mul,Nat.add_comm,← List.drop_drop] at this;simpa using this
theorem NX{H:Type}{enc:TypeId×Value→H}{base:Nat}{sp:Nat→Bool}{held:Bool}{fuel:Nat}{t e:TypeId}{m k:Nat}{cs:List Value}{ds:List (DataW H)}{p:List MemPlace}(ht:P.underlying t=some (.array m e))(hce:P.cellsOf e=k)(hct:P.cellsOf t=m*k)
 (h:DataW.trod enc P W base sp held fuel t cs=some (.agg ds,p)):ds.length=m∧cs.length=m*k∧∀i d,ds[i]? = some d→∃fu p',DataW.trod enc P W base sp held fu e ((cs.drop (i*k)).take k)=some (d,p'):=by
 cases fuel with
 | zero=>simp [DataW.trod] at h
 | succ fuel=>
  simp only [DataW.trod,ht,hce,hct] at h;split at h
  ·rename_i hl
   obtain⟨xs,hm,hx⟩:=B6.1 h;have hds:xs.map (·.1)=ds:=by
    have:=congrArg Prod.fst hx;simpa using this
   have hxl:xs.length=m:=by simpa using Lib.mapM_length hm
   refine⟨by rw [← hds,BX];exact hxl,by simpa using hl,fun i d hd=>?_⟩;rw [← hds,List.getElem?_map] at hd;obtain⟨y,hy,rfl⟩:=B6.1 hd;have hi:i<m:=by rw [← hxl];exact(Ad.1 hy).1
   obtain⟨b,hb,hf⟩:=Lib.mapM_at hm i i (by simp [hi]);rw [hy] at hb;obtain rfl:=Option.some.inj hb;exact⟨fuel,y.2,by simpa using hf⟩
  ·cases h
end
section
variable {W:World}
def Z5:List (String×Nat×List UInt8):=[("wicketgate/ports.errPorts",8,[110,111,32,112,111,114,116,115]),("wicketgate/ports.errTarget",11,[110,111,32,116,97,114,103,101,116]),("wicketgate/acl.errRules",5,[110,111,32,114,117,108,101,115]),("wicketgate/acl.errRule",2,[110,111,32,114,117,108,101]),("wicketgate/acl.errPlace",6,[110,111,32,112,108,97,99,101]),("wicketgate/acl.errTarget",7,[110,111,32,116,97,114,103,101,116])]
def Z6:List (String×Nat×List UInt8):=[("wicketgate/snaps.errArg",13,[110,111,32,110,117,109,98,101,114]),("wicketgate/snaps.errPool",9,[110,111,32,112,111,111,108]),("wicketgate/snaps.errCursor",14,[110,111,32,99,117,114,115,111,114])]
theorem cC:((GM.filter fun x=>x.2.handleName?.isNone).filter fun x=>(Z5.map (·.1)).contains x.1)=Z5.map (Pq "*errors.errorString"):=by kernel_rfl
theorem cE:((GM.filter fun x=>x.2.handleName?.isNone).filter fun x=>(Z6.map (·.1)).contains x.1)=Z6.map (Pq "*errors.errorString"):=by kernel_rfl
theorem cH:((GM.filter fun x=>x.2.handleName?.isNone).filter fun x=>x.1 == "internal/strconv.uint64pow10") = [("internal/strconv.uint64pow10",Lib.tabData .u64 Lib.pow10Tab)]:=by kernel_rfl
noncomputable def Xi:DataW Unit:=.agg (Bb.map fun v=>.agg [.lit (.int .i64 v.1),.lit (.string v.2.1),.lit (.int .i64 (v.2.2:Nat))])
theorem cI:((GM.filter fun x=>x.2.handleName?.isNone).filter fun x=>x.1 == "wicketgate/roles.verbs") = [("wicketgate/roles.verbs",Xi)]:=by kernel_rfl
noncomputable def cJ(l:List UInt8):DataW Unit:=.iface "*errors.errorString" (.ptr (.agg [.lit (.string l)]))
theorem cG:((GM.filter fun x=>x.2.handleName?.isNone).filter fun x=>x.1 == "strconv.ErrSyntax") = [("strconv.ErrSyntax",Rows.laid_strconv_ErrSyntax)]:=by kernel_rfl
theorem cF:((GM.filter fun x=>x.2.handleName?.isNone).filter fun x=>x.1 == "strconv.ErrRange") = [("strconv.ErrRange",Rows.laid_strconv_ErrRange)]:=by kernel_rfl
theorem cD:(GM.filter fun x=>x.2.handleName?.isSome) = [("errors.errorType",Rows.laid_errors_errorType)]:=by kernel_rfl
theorem cK:Tryz.prog.globalNamed "errors.errorType" = some 0:=by kernel_rfl
theorem cL:(Tryz.prog.cutTypes.find? (·.1 == "internal/reflectlite.rtype")).map (·.2)=some 329:=by kernel_rfl
theorem VQ:((A0 Tryz.prog.types.size).filter fun t=>Tryz.prog.rowNamed t [101,114,114,111,114]) = [128]:=by kernel_rfl
theorem Qi(h:handlesMet Tryz.prog [("errors.errorType",Rows.laid_errors_errorType)] W):Et W:=by
 obtain⟨name,u,ty,e1,e2,e3,e4,e5⟩:=h _ (Am.2 rfl);have en:name = [101,114,114,111,114]:=(Option.some.inj e1).symm;subst en;obtain rfl:=Option.some.inj (cL.symm.trans e2);have hm:ty∈(A0 Tryz.prog.types.size).filter fun t=>Tryz.prog.rowNamed t [101,114,114,111,114]:=List.mem_filter.2 ⟨List.mem_range.2 e3,e4⟩;rw [VQ] at hm;obtain rfl:=Am.1 hm;have hh:typeHandle Tryz.prog 128 = dJ (some ⟨17,128,none⟩):=by kernel_rfl
 rw [hh] at e5;simpa [Et] using World.var?_cell cK e5 0
theorem YZ: "*" ++ "errors.errorString" = "*errors.errorString":=by decide
theorem WE(u:TypeId)(h:Tryz.prog.typeName? 3 u=some "*errors.errorString"):u=447:=
 typeName_ptr_named (nm:= "errors.errorString") (by rw [YZ];kernel_rfl) bC bE u (by rw [YZ];exact h)
theorem Ps{l:List (String×Nat×List UInt8)}(h:laidMet Tryz.prog (l.map (Pq "*errors.errorString")) W) (hg:∀x∈l,Tryz.prog.globalNamed x.1=some x.2.1∧(Tryz.prog.globals[x.2.1]?).map (·.type)=some 128) (hn:(l.map (·.2.1)).Nodup):∃e,Fe W 447 (l.map (·.2.1)) e:=
 OK h Tryz.underlying128 WE Tryz.underlying447 Tryz.underlying449 rfl rfl Tryz.underlying9 bC bC hg hn
theorem Fe.some_{gs gs':List Nat}{e:Nat→Addr}(h:Fe W 447 gs e)(hm:∀g∈gs',g∈gs):Fe W 447 gs' e:=⟨fun g hg=>h.cell g (hm g hg),fun g hg=>h.row g (hm g hg),fun g hg g' hg'=>h.ne g (hm g hg) g' (hm g' hg')⟩
theorem Rp{n:String}{g:Nat}{l:List UInt8}(hg:Tryz.prog.globalNamed n=some g)(ht:(Tryz.prog.globals[g]?).map (·.type)=some 128)(h:laidMet Tryz.prog [(n,cJ l)] W):∃ev,W.cell? ⟨g,0,none⟩=some ev∧(ev = .nilIface∨∃te pe,ev = .iface te pe):=by
 obtain⟨ps,h,_⟩:=h;obtain⟨u,v,hc⟩:=Qy h (Am.2 rfl) hg ht Tryz.underlying128;exact⟨_,hc,.inr ⟨u,v,rfl⟩⟩
theorem QX{fuel:Nat}{cs:List Value}{v:Int×List UInt8×Nat}{p:List MemPlace}(h:DataW.trod (fun _=>()) Tryz.prog W 0 (fun _=>true) false fuel 218 cs=some (.agg [.lit (.int .i64 v.1),.lit (.string v.2.1),.lit (.int .i64 (v.2.2:Nat))],p)):cs=Kk v:=by
 obtain⟨y0,y1,y2,n,hx,hl,h0,h1,h2⟩:=trod_struct3 Tryz.underlying218 h;have k0:Tryz.prog.cellsOf 3=1:=by kernel_rfl
 have k1:Tryz.prog.cellsOf 9=1:=by kernel_rfl
 have k3:Tryz.prog.cellsOf 218=3:=by kernel_rfl
 rw [k3] at hl;obtain⟨a,e0,x0,_⟩:=DataW.trod_int Tryz.underlying3 h0;obtain⟨s,e1,x1,_⟩:=DataW.trod_string Tryz.underlying9 h1;obtain⟨b,e2,x2,_⟩:=DataW.trod_int Tryz.underlying3 h2;rw [x0,x1,x2] at hx;simp only [Prod.mk.injEq,DataW.agg.injEq,List.cons.injEq,DataW.lit.injEq,Lit.int.injEq,Lit.string.injEq,true_and,and_true] at hx;obtain⟨⟨z0,z1,z2⟩,_⟩:=hx
 match cs,hl with
 | [c0,c1,c2],_=>
  obtain rfl:c0 = dH dN a:=by simpa [k0] using e0
  obtain rfl:c1 = CZ s:=by simpa [k1] using e1
  obtain rfl:c2 = dH dN b:=by simpa [k0] using e2
  unfold Kk;rw [z0,z1,z2]
theorem VO(h:laidMet Tryz.prog [("wicketgate/roles.verbs",Xi)] W):D5 W:=by
 obtain⟨ps,h,_⟩:=h;obtain⟨g,t,cs,fuel,p,e1,e2,e3,e4⟩:=JD h (Am.2 rfl);have hg:Tryz.prog.globalNamed "wicketgate/roles.verbs" = some 1:=by kernel_rfl
 have ht:(Tryz.prog.globals[(1:Nat)]?).map (·.type)=some 280:=by kernel_rfl
 obtain rfl:=Option.some.inj (hg.symm.trans e1);obtain rfl:=Option.some.inj (ht.symm.trans e2);obtain⟨h1,h2,h3⟩:=NX (k:=3) Tryz.underlying280 bC bC e4;have hc:cs.toList=Bb.flatMap Kk:=Rs (k:=3) Bb cs.toList h2 fun i hi=>by
  obtain⟨fu,p',hf⟩:=h3 i _ (by rw [List.getElem?_map,Au hi];rfl);exact QX hf
 intro j u hj;have:=World.var?_cell hg e3 j;rw [this,← Array.getElem?_toList,hc];exact hj
theorem Wp(h:laidMetH Tryz.prog GM W)(hs:W.ShapedOpen Tryz.prog):Ip W:=by
 obtain⟨hp,hh⟩:=laidMetH_iff.1 h;rw [cD] at hh;have et:=Qi hh;have hA:=hp.filter fun x=>(Z5.map (·.1)).contains x.1;have hN:=hp.filter fun x=>(Z6.map (·.1)).contains x.1;have hT:=hp.filter fun x=>x.1 == "internal/strconv.uint64pow10";have hV:=hp.filter fun x=>x.1 == "wicketgate/roles.verbs";have hS:=hp.filter fun x=>x.1 == "strconv.ErrSyntax";have hR:=hp.filter fun x=>x.1 == "strconv.ErrRange";rw [cC] at hA;rw [cE] at hN;rw [cH] at hT;rw [cI] at hV;rw [cG] at hS;rw [cF] at hR;obtain⟨E,sA⟩:=Ps hA (fun x hx=>by
  simp only [Z5,Ac,Ab,or_false] at hx;rcases hx with rfl | rfl | rfl | rfl | rfl | rfl<;>exact⟨by kernel_rfl,by kernel_rfl⟩) bE
 obtain⟨e,sN⟩:=Ps hN (fun x hx=>by
  simp only [Z6,Ac,Ab,or_false] at hx;rcases hx with rfl | rfl | rfl<;>exact⟨by kernel_rfl,by kernel_rfl⟩) bE
 have hsA:Ez W E:=sA.some_ bE;have hv:=VO hV;have htab:Gp W:=Lib.tabIs_of_head (g:=10) (t:=452) bC bC Tryz.underlying452 Tryz.underlying389 bC bC hT;have hes:RG W:=⟨Rp bC bC hS,Rp bC bC hR⟩;have hmx:Iq W:=cell_of_shapedOpen_int hs (g:=12) (t:=3) (zero:=#[dH dN 0]) (by rw [show Tryz.prog.globals.size=17 by kernel_rfl];decide) bC rfl bC bC Tryz.underlying3;exact⟨⟨E,⟨⟨et,htab,hmx,hsA⟩,hes⟩,hv⟩,⟨fun k=>if k=0 then e 9 else if k=1 then e 13 else e 14,e,sN.some_ bE,rfl,rfl,rfl⟩,⟨E,hv,hsA,et⟩⟩
end
end
section
open Go.RowKit
namespace controlLines
open Go.ChangeShapes Go.WideShapes Go.ChangeAt
open Go.ChangeMaps (open_string)
theorem lifted(os:Os)(started:os.Started)(H:Type)(enc:TypeId×Value→H):
  ReturnsInHanded {} Tryz.checked os 4 .any (fun w args=>(Rows.controlLinesSpec.pre enc Tryz.prog Tryz.f4 [] false w args∧laidMetH Tryz.prog GM w)∧sizedMet enc Tryz.prog Tryz.f4 (OpenSpec.ofChange Rows.controlLinesSpec) false w args)
   (Rows.controlLinesSpec.post enc Tryz.prog Tryz.f4 false true false false):=by
 refine OL (C:=Tryz.checked) (X:=fun w _=>laidMetH Tryz.prog GM w) (fun _ _ _ hh h=>h.of_heap hh) own started bC Tryz.func4
  (ChangeSpec.witness_shaped (enc:=enc) (C:=Tryz.checked) (os:=os) (X:=fun w _=>laidMetH Tryz.prog GM w) false (World.doorLaid Tryz.prog 400 os) #[CZ ByteArray.empty] 8 rfl (Pv os _) (aP _) (YX H enc _) (aT H enc _) (Ur os _)) ?_
 intro W base args ds gs before hval0 hW hL hsh;have hval:∀(j:Nat) t v,Tryz.f4.params[j]? = some t→args[j]? = some v→Value.okWide Tryz.prog W .any base t v:=hval0;have hW':=hW;obtain⟨p,q,hA0,hV,rfl,hfz,hnd⟩:=hW;have hA:DataW.TrodAll enc Tryz.prog W 0 (fun _=>true) true Tryz.f4.params.toList args.toList ds p:=hA0;rw [Tryz.params4] at hA hval;obtain⟨v0,vs0,d0,ds0,p0,q0,hargs,rfl,rfl,h0,r0⟩:=trodAll_cons hA;obtain⟨rfl,rfl,rfl⟩:=trodAll_nil r0;obtain rfl:args=#[v0]:=by cases args;simp_all
 obtain⟨rfl,rfl⟩:=trodVars_none hV;obtain⟨a0,rfl,rfl,rfl,w0⟩:=open_string Tryz.underlying9 (hval 0 9 v0 rfl rfl) h0;refine(Ra a0 W (Wp hL hsh)).mono fun e W' ⟨he,hk⟩=>?_;subst he;exact⟨_,rfl,UK Xg (by decide +kernel) rfl rfl Tryz.underlying4 hW' (hk.below (Ap _) bA) ⟨rfl,rfl,rfl⟩⟩
theorem cB:Rows.controlLinesRow.holds Tryz.pinned (OpenSpec.ofChange Rows.controlLinesSpec):=
 OpenClaim.holds_of_wide 4 Tryz.f4 rfl rfl rfl rfl rfl rfl rfl ⟨rfl,rfl,rfl,rfl,rfl⟩ rfl rfl rfl rfl rfl XA Tryz.func4 XJ
  (of_decide_eq_true bC) (by unfold Func.isWrapper;first | (rw [if_pos (by decide +kernel)];kernel_rfl) | (rw [if_neg (by decide +kernel)];exact⟨rfl,rfl⟩))
  (fun os started H enc _=>lifted os started H enc)
theorem proved:Rows.ControlLinesCardSaid:=
 Claim7.holds_tied_plain_at .later [] [.data,.data,.data,.handle,.sentinel,.sentinel,.sentinel,.sentinel,.sentinel,.sentinel,.sentinel,.sentinel,.data,.sentinel,.sentinel,.sentinel] true (true, "0f9566b8570ac9c117c6c298b8092e6a3c507f5e2cc2cf10fa5788a11bd9e403") true
  cB (fun _ h=>by cases h) bC (fun _ h=>by cases h) controlLines_row_tie rfl ⟨rfl,rfl⟩ YP rfl
  (fun f fn hf hfn=>by
   obtain rfl:f=4:=Option.some.inj (XA.symm.trans hf) |>.symm;obtain rfl:fn=Tryz.f4:=(Option.some.inj (Tryz.func4.symm.trans hfn)).symm;exact⟨YM,fun j t ht=>by
    rw [Tryz.params4] at ht;have hm:t∈[9]:=by simpa using Array.mem_of_getElem? ht
    have hall:([9].all fun u=>!Tryz.prog.wantsStandIn u)=true:=by kernel_rfl
    exact(show Tryz.prog.wantsStandIn t=false by simpa using BB.1 hall t hm)⟩)
  aK
end controlLines
end
end Go.Proofs.YtcjdkbgdahgjbaaGreatDoor
