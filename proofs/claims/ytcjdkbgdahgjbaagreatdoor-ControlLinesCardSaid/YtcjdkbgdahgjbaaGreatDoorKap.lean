/- Steps of the proof: OnceD, OnceE, RegL, Whole. -/
import Derived.Test.YtcjdkbgdahgjbaaGreatDoorK0
import Derived.Test.YtcjdkbgdahgjbaaGreatDoorKaa
import Derived.Test.YtcjdkbgdahgjbaaGreatDoorKac
import Derived.Test.YtcjdkbgdahgjbaaGreatDoorKak
import Derived.Test.YtcjdkbgdahgjbaaGreatDoorKbb
import Derived.Deep.Slices
import Derived.Deep.DeepCutAuto
import Derived.Deep.RegionHeld
import Derived.RangeFuncCalls
import Derived.Deep.MidRow
import Derived.Laws.ResultCell
import Derived.Deep.WholeRow
set_option maxRecDepth 100000
set_option maxHeartbeats 8000000
set_option linter.all false
namespace Go.Proofs.YtcjdkbgdahgjbaaGreatDoor
open _root_.And renaming intro→AZ
open _root_.Array renaming getElem?_eq_some_iff→Aj,getElem?_setIfInBounds→AL
open Builtin renaming append_→Bo,copy_→DH
open Ending renaming returned→dM
open Fence renaming wide→Ba
open IntKind renaming i64→dN
open _root_.List renaming all_eq_true→BB,append_assoc→CO,cons_append→A6,getElem?_eq_getElem→Au,getElem?_take→Ds,length_append→Ag,length_cons→Ao,length_nil→Eh,length_singleton→AW,mem_cons→Ac,mem_of_getElem?→Ex,nil_append→AX,not_mem_nil→Ab,set_cons_succ→Aw,take_of_length_le→Ax,take_succ_eq_append_getElem→AR
open _root_.Nat renaming add_assoc→CM,add_zero→CG,le_refl→Ap,le_trans→As,lt_of_lt_of_le→AT,min_eq_left→DP,zero_add→BI,zero_le→Cy
open Result renaming andThen→AI
open _root_.UInt8 renaming toNat_inj→Dr
open Value renaming bool→dL,int→dH,pointer→dJ,slice→dI,string→CZ
open World renaming ownsRow_nil→Bz
section
open Go.RowKit Go.Shelf
attribute [local go_sem] Oper.semAt_some N5 N6 N3 N4
attribute [local go_sem ↓] Go.wp_at_zero Go.wp_at_succ
def JI(w:World)(bb:Nat):Prop:=∃a b t c,Blk w bb 484 (EP a b (dI (some ⟨t,0,none⟩) 2 c))∧J3 w a 92 92∧J3 w b 92 34∧∃C fr,w.heap[t]? = some (.cells C 9 fr)∧C[0]? = some (CZ ⟨#[92]⟩)∧C[1]? = some (CZ ⟨#[34]⟩)
theorem RC.at_{w w':World}{bb:Nat}{a b v:Value}(h:RC w w' bb a b v 2):JI w' bb:=by
 obtain⟨h1,h2,-,-,h3,h4⟩:=h;rw [if_pos bE] at h3 h4;rcases h2.2 with⟨_,h0⟩ | ⟨g,c,cur,hv,_,hg,hle,_,hs,ht⟩
 ·simp [QK] at h0
 ·have e:(QK.take 2).length=2:=rfl
  rw [e] at hv ht;subst hv;refine⟨a,b,g,c,h1,h3,h4,cur,_,hg,?_,?_⟩
  ·have:=congrArg (·[0]?) ht
   simp only [Ds] at this;simpa [QK,Fg] using this
  ·have:=congrArg (·[1]?) ht
   simp only [Ds] at this;simpa [QK,Fg] using this
theorem Ks{w:World}{g h:Nat}{cs cs':Array Value}{t t':TypeId}{fr fr':Nat×Nat}(h1:w.heap[g]? = some (.cells cs t fr))(h2:w.heap[h]? = some (.cells cs' t' fr'))(hne:t≠t'):g≠h:=by
 rintro rfl;rw [h1] at h2;injection h2 with h2
 injection h2 with _ ht
 exact hne ht
theorem JI.keeps1{w w':World}{bb rb:Nat}{cs:Array Value}(h:JI w bb)(hr:Blk w rb 369 cs)(hk:Aa [rb] w w'):JI w' bb:=by
 obtain⟨a,b,t,c,h1,h2,h3,C,fr,h4,h5,h6⟩:=h;exact⟨a,b,t,c,h1.keeps hk (by simpa using Ks h1 hr bE),h2.keeps hk (fun q C fr hq=>by simpa using Ks hq hr bE),h3.keeps hk (fun q C fr hq=>by simpa using Ks hq hr bE),C,fr,
  (hk.block t (Aj.1 h4).1 (by simpa using Ks h4 hr bE)).trans h4,h5,h6⟩
def Lz(d s:Int)(u r o:Value):Array Value:=#[.int .u32 d,.int .i32 s,u,r,o]
theorem LY(rb og oo oc:Nat)(d s:Int)(u r:Value)(w:World)(hb:Blk w rb 369 (Lz d s u r (dI (some ⟨og,oo,none⟩) 4 oc)))
 (c0:w.cell? ⟨og,oo,none⟩=some (CZ ⟨#[34]⟩))(c1:w.cell? ⟨og,oo+1,none⟩=some (CZ ⟨#[92,34]⟩))(c2:w.cell? ⟨og,oo+2,none⟩=some (CZ ⟨#[92]⟩))(c3:w.cell? ⟨og,oo+3,none⟩=some (CZ ⟨#[92,92]⟩))(hog:og<w.heap.size):
  Calls Tryz.prog 235 #[dJ (some ⟨rb,0,none⟩)] w fun e w'=>e = dM (.tuple #[])∧∃bb,JI w' bb∧Blk w' rb 369 (Lz d s u (.iface 485 (dJ (some ⟨bb,0,none⟩))) (dI none 0 0))∧Aa [rb] w w':=by
 have HC:=RW rb og oo oc _ _ _ _ w hb c0 c1 c2 c3 hog;have HB:=lH hb;clear hb c0 c1 c2 c3;go_enter Tryz.func235,Tryz.ntmps235;go_wp2_with (fail);refine HC.mono ?_;rintro e w1 ⟨bb,a,b,v,rfl,hge,hI⟩;have hb1:=HB.out.keeps hI.2.2.1 bA;have q1:=hb1.rl;simp only [Lz] at q1;have HI:=lH (AZ hI (AZ hge hb1));clear hI hge hb1;go_wp2;obtain⟨hI,hge,hb1⟩:=HI.out
 go_end0
 have k2:=((Aa.refl [rb] w1).setCell (p:=⟨rb,3,none⟩) (.inl bA) (.iface 485 (dJ (some ⟨bb,0,none⟩)))).setCell (p:=⟨rb,4,none⟩) (.inl bA) (dI none 0 0);exact⟨rfl,bb,hI.at_.keeps1 hb1 k2,(hb1.set_ 3 _).set_ 4 _,(hI.2.2.1.mono bA).trans k2⟩
theorem V4(rb og oo oc:Nat)(r u:Value)(w:World)(hb:Blk w rb 369 (Lz 0 0 u r (dI (some ⟨og,oo,none⟩) 4 oc)))
 (c0:w.cell? ⟨og,oo,none⟩=some (CZ ⟨#[34]⟩))(c1:w.cell? ⟨og,oo+1,none⟩=some (CZ ⟨#[92,34]⟩))(c2:w.cell? ⟨og,oo+2,none⟩=some (CZ ⟨#[92]⟩))(c3:w.cell? ⟨og,oo+3,none⟩=some (CZ ⟨#[92,92]⟩))(hog:og<w.heap.size)(hne:og≠rb):
  Calls Tryz.prog 281 #[dJ (some ⟨rb,0,none⟩),.func (.func 235) #[dJ (some ⟨rb,0,none⟩)] #[]] w fun e w'=>e = dM (.tuple #[])∧∃bb,JI w' bb∧Blk w' rb 369 (Lz 1 0 u (.iface 485 (dJ (some ⟨bb,0,none⟩))) (dI none 0 0))∧Aa [rb] w w':=by
 obtain⟨w1,hw1⟩:=eX (w.setCell ⟨rb,1,none⟩ (.int .i32 1));have k1:Aa [rb] w w1:=by rw [← hw1];exact(Aa.refl [rb] w).setCell (.inl bA) _
 have b1:Blk w1 rb 369 (Lz 0 1 u r (dI (some ⟨og,oo,none⟩) 4 oc)):=by rw [← hw1];exact hb.set_ 1 _
 have hnot:∀(x:Bool) (w:World),(Op.unary .not (dL x)).run Tryz.prog w = .ok (dL (!x)) w:=fun _ _=>rfl;have HBO:=LY rb og oo oc 0 1 u r w1 b1 ((k1.cell (p:=⟨og,oo,none⟩) hog Wi).trans c0) ((k1.cell (p:=⟨og,oo+1,none⟩) hog Wi).trans c1) ((k1.cell (p:=⟨og,oo+2,none⟩) hog Wi).trans c2) ((k1.cell (p:=⟨og,oo+3,none⟩) hog Wi).trans c3) (AT hog k1.size);have HLK:=S9 rb 1 w (by rw [hb.cell];rfl) (hb.frozen 1);have HLD:=OM rb 0 0 w1 (by rw [b1.cell];rfl);rw [hw1] at HLK;clear c0 c1 c2 c3 hog hne hb b1 hw1
 go_enter_defers Tryz.func281,Tryz.ntmps281
 go_wp2_with (fail)
 with_reducible refine HLK.mono ?_
 rintro e w' ⟨rfl,rfl⟩;go_wp2_with (fail)
 with_reducible refine HLD.mono ?_
 rintro e w' ⟨rfl,rfl⟩;go_wp2_with (fail)
 with_reducible refine HBO.mono ?_
 rintro e w' ⟨rfl,bb,h1,h2,h3⟩;go_wp2_with (fail);have k4:Aa [rb] w' (((w'.drew.setCell ⟨rb,0,none⟩ (.int .u32 1))).setCell ⟨rb,1,none⟩ (.int .i32 0)):=(((Aa.refl [rb] w').drew).setCell (p:=⟨rb,0,none⟩) (.inl bA) _).setCell (p:=⟨rb,1,none⟩) (.inl bA) _;have b4:=(h2.drew.set_ 0 (.int .u32 1)).set_ 1 (.int .i32 0);have a4:=h1.keeps1 h2 k4;refine leaves_cons (f:=329) (args:=#[dJ (some ⟨rb,0,none⟩),dL true]) bA (by simp [go_sem]) ?_;refine(LH rb 0 (.int .u32 0) .returning _ (by rw [h2.cell];rfl) (h2.frozen 0)).mono ?_;rintro e u' w'' ⟨rfl,rfl,rfl⟩;refine leaves_cons (f:=328) (args:=#[dJ (some ⟨rb,1,none⟩)]) (by simp [settle]) (by simp [go_sem]) ?_;refine(Km rb 1 _ _ (by rw [(h2.drew.set_ 0 (.int .u32 1)).cell];rfl) ((h2.drew.set_ 0 (.int .u32 1)).frozen 1)).mono ?_;rintro e u' w'' ⟨rfl,rfl,rfl⟩;simp [Leaves,settle,results,Tryz.results281];exact⟨bb,a4,b4,(k1.trans h3).trans k4⟩
theorem Uo(rb og oo oc:Nat)(r u:Value)(w:World)(hb:Blk w rb 369 (Lz 0 0 u r (dI (some ⟨og,oo,none⟩) 4 oc)))
 (c0:w.cell? ⟨og,oo,none⟩=some (CZ ⟨#[34]⟩))(c1:w.cell? ⟨og,oo+1,none⟩=some (CZ ⟨#[92,34]⟩))(c2:w.cell? ⟨og,oo+2,none⟩=some (CZ ⟨#[92]⟩))(c3:w.cell? ⟨og,oo+3,none⟩=some (CZ ⟨#[92,92]⟩))(hog:og<w.heap.size)(hne:og≠rb):
  Calls Tryz.prog 234 #[dJ (some ⟨rb,0,none⟩),.func (.func 235) #[dJ (some ⟨rb,0,none⟩)] #[]] w fun e w'=>e = dM (.tuple #[])∧∃bb,JI w' bb∧Blk w' rb 369 (Lz 1 0 u (.iface 485 (dJ (some ⟨bb,0,none⟩))) (dI none 0 0))∧Aa [rb] w w':=by
 have hnot:∀(x:Bool) (w:World),(Op.unary .not (dL x)).run Tryz.prog w = .ok (dL (!x)) w:=fun _ _=>rfl;have HLD:=OM rb 0 0 w (by rw [hb.cell];rfl);have HS:=V4 rb og oo oc r u w hb c0 c1 c2 c3 hog hne;clear c0 c1 c2 c3 hog hne hb;go_enter Tryz.func234,Tryz.ntmps234;go_wp2_with (fail)
 with_reducible refine HLD.mono ?_
 rintro e w' ⟨rfl,rfl⟩;go_wp2_with (fail)
 with_reducible refine HS.mono ?_
 rintro e w' ⟨rfl,h⟩;go_wp2_with (fail)
 go_end0
 exact⟨rfl,h⟩
def Wy:List ByteArray:=[⟨#[34]⟩,⟨#[92,34]⟩,⟨#[92]⟩,⟨#[92,92]⟩]
theorem Li(p:Option Addr)(c:Nat)(w:World)(hS:AJ Fg 1 w p c Wy):
  Calls Tryz.prog 174 #[dI p 4 c] w fun e w'=>∃rb og oc,e = dM (dJ (some ⟨rb,0,none⟩))∧w.heap.size≤rb∧Blk w' rb 369 (Lz 0 0 (.int .u32 0) .nilIface (dI (some ⟨og,0,none⟩) 4 oc))∧AJ Fg 1 w' (some ⟨og,0,none⟩) oc Wy∧og≠rb∧Aa [] w w':=by
 obtain⟨i0,hi1,hi2,hi3,hi4⟩:=Ka;obtain⟨v,W,h1,h2,h3⟩:=AJ.app (ys:=([]:List ByteArray)) (enc:=Fg) (n:=1) (B:=w.heap.size) (v:=dI none 0 0) Tryz.prog Tryz.underlying41 hi1 hi2 hi3 hi4 rfl bE (fun _=>rfl) (fun x u hu=>by unfold Fg at hu;simp only [Ac,Ab,or_false] at hu;subst hu;rfl) (Bz _ _ _ _) (Ap _) hS bE bE 41;rw [AX] at h2;obtain⟨a,c2,rfl,hS2,hge⟩:=AJ.of_row (enc:=Fg) (n:=1) (fun _=>rfl) h2;obtain⟨og,off,rfl,hlt,hc⟩:=hS2.at_ bE;obtain rfl:off=0:=by
  rcases h2.2 with⟨e,_⟩ | ⟨g,cc,cur,e,_⟩
  ·cases e
  ·injection e with e;injection e with e;injection e
 have hk:Aa [] w W:=(Aa.refl [] w).grown h3 (fun k hk=>by cases hk);have hrun:(Bo #[41,41] 41 #[dI none 0 0,dI p 4 c]).run Tryz.prog w = .ok (dI (some ⟨og,0,none⟩) 4 c2) W:=h1;clear hi1 hi2 hi3 hi4 h1 h2 h3 hc;have HF:=lH (AZ hS2 (AZ hlt hk));clear hS2 hk hS hge;go_enter Tryz.func174,Tryz.ntmps174;go_wp2_with (at_builtin;refine Ar _ rfl _ _ 41 rfl rfl rfl hrun ?_);obtain⟨hS2,_,hk⟩:=HF.out;go_ret;exact⟨W,og,c2,rfl,hk.size,Blk.new W _ _,hS2.keeps ((Aa.refl [] W).alloc _),by omega,hk.alloc _⟩
end
section
open Go.RowKit Go.Shelf
attribute [local go_sem] Oper.semAt_some N5 N6 N3 N4 Rk Rj Oc Y4 Y3 dE dD TZ Ua
attribute [local go_sem ↓] Go.wp_at_zero Go.wp_at_succ
def qB(b:UInt8):Bool:=b==92||b==34
theorem M1:∀(l:List UInt8) (b:UInt8),Cj (l++[b])=Cj l++(if b=34 then [92,34] else if b=92 then [92,92] else [b])
 | [],b=>by simp only [AX,Cj]
 | x::l,b=>by
  rw [A6,Cj,Cj,M1 l b];split<;>(try split)<;>(try split)<;>(try split)<;>simp
theorem Ga:∀l:List UInt8,(Cj l).length=l.length+l.countP qB
 | []=>rfl
 | x::l=>by
  rw [Cj,List.countP_cons,Ao];have:=Ga l;by_cases h1:x=34
  ·subst h1;simp [qB];omega
  ·by_cases h2:x=92
   ·subst h2;simp [qB];omega
   ·rw [if_neg h1,if_neg h2,Ao,if_neg (by simp [qB,h1,h2])];omega
theorem M0:∀l:List UInt8,l.countP qB=0→Cj l=l
 | [],_=>rfl
 | x::l,h=>by
  rw [List.countP_cons] at h;have h0:¬qB x=true:=by intro hx;rw [if_pos hx] at h;omega
  have h1:¬x=34:=by rintro rfl;exact h0 rfl
  have h2:¬x=92:=by rintro rfl;exact h0 rfl
  rw [Cj,if_neg h1,if_neg h2,M0 l bB]
theorem Pg:∀l:List UInt8,l.countP qB=l.count 92+l.count 34
 | []=>rfl
 | x::l=>by
  rw [List.countP_cons,List.count_cons,List.count_cons,Pg l];by_cases h1:x=34
  ·subst h1;simp [qB];omega
  ·by_cases h2:x=92
   ·subst h2;simp [qB];omega
   ·simp [qB,h1,h2]
theorem KB(a b t:Value)(i:Nat)(h1:i≠92)(h2:i≠34)(h3:i<256):(EP a b t)[i]? = some (dI none 0 0):=by
 have:i<257:=by omega
 simp only [EP,AL];rw [if_neg bB,if_neg bB,if_neg bB,z257,Array.getElem?_replicate,if_pos this]
theorem MS(s:ByteArray)(k:Nat)(hk:k<s.size):s.data.toList.take (k+1)=s.data.toList.take k++[s[k]'hk]:=by
 rw [AR (by simpa using hk)];rfl
theorem Mx(w:World)(g j N q c:Nat)(cur:Array Value)(hb:Blk w g 5 cur)(hN:cur.size=N)(hj:j+2≤N)(x y:Int)(hx:w.cell? ⟨q,0,none⟩=some (.int .u8 x))(hy:w.cell? ⟨q,1,none⟩=some (.int .u8 y))(ty:TypeId):
  (DH #[193,193] ty #[dI (some ⟨g,j,none⟩) (N - j) (N - j),dI (some ⟨q,0,none⟩) 2 c]).run Tryz.prog w = .ok (goInt 2) ((w.setCell ⟨g,j,none⟩ (.int .u8 x)).setCell ⟨g,j+1,none⟩ (.int .u8 y)):=by
 refine run_copy_cells (P:=Tryz.prog) w 193 193 ty 5 g j (N - j) (N - j) ⟨q,0,none⟩ 2 c [.int .u8 x,.int .u8 y] Tryz.underlying193 bC ?_ ?_ ?_ (fun i hi=>hb.frozen _) ?_
 ·have:Nat.min 2 (N - j)=2:=DP bB
  simp [this]
 ·intro i v hv
  rw [Bn,BI]
  match i,hv with
  | 0,hv=>injection hv with hv;subst hv;exact hx
  | 1,hv=>injection hv with hv;subst hv;exact hy
  | i+2,hv=>simp at hv
 ·intro i hi
  simp only [Ao,Eh] at hi;rw [hb.cell,Array.getElem?_eq_getElem bB];rfl
 ·intro v hv
  simp only [Ac,Ab,or_false] at hv;rcases hv with rfl | rfl<;>rfl
def aI(b:UInt8):Value:=.int .u8 (b.toNat:Int)
def K0(wr:World)(g N:Nat)(l:List UInt8):Prop:=∃cur:Array Value,Blk wr g 5 cur∧cur.size=N∧cur.toList.take l.length=l.map aI∧l.length≤N
theorem Pt{α:Type}(v:α):∀(l:List α) (o:Nat),o<l.length→(l.set o v).take (o+1)=l.take o++[v]
 | [],_,h=>by simp at h
 | x::l,0,_=>by simp
 | x::l,o+1,h=>by rw [Aw,List.take_succ_cons,Pt v l o bK];rfl
theorem K0.put{wr:World}{g N:Nat}{l:List UInt8}(h:K0 wr g N l)(b:UInt8)(hN:l.length<N):K0 (wr.setCell ⟨g,l.length,none⟩ (aI b)) g N (l++[b]):=by
 obtain⟨cur,h1,h2,h3,h4⟩:=h;refine⟨_,h1.set_ _ _,by simpa using h2,?_,by simp;omega⟩;rw [Ag,AW,Array.toList_setIfInBounds,Pt _ _ _ (by simpa [h2] using hN),h3,List.map_append];rfl
theorem K0.drew{wr:World}{g N:Nat}{l:List UInt8}(h:K0 wr g N l):K0 wr.drew g N l:=h
theorem LX(HCT:∀(s:ByteArray) (c:UInt8) (w:World),Calls Tryz.prog 431 #[CZ s,CZ ⟨#[c]⟩] w fun e w'=>e = dM (dH dN (s.data.toList.count c:Nat))∧w'=w)
 (bb:Nat)(s:ByteArray)(hs:s.size≤1000)(w:World)(h:JI w bb):
  Calls Tryz.prog 429 #[dJ (some ⟨bb,0,none⟩),CZ s] w fun e w'=>e = dM (CZ ⟨(Cj s.data.toList).toArray⟩)∧Aa [] w w':=by
 obtain⟨a,b,t,c,hb,ha92,hb34,C,fr,ht,hC0,hC1⟩:=h;have q:=hb.rl;have t0:=(cell_of_row w t 0 C _ fr ht).trans hC0;have t1:=(cell_of_row w t 1 C _ fr ht).trans hC1;have tl:t<w.heap.size:=(Aj.1 ht).1;obtain⟨qa,ca,rfl,la,a0,a1⟩:=ha92.cells;obtain⟨qb,cb,rfl,lb,b0,b1⟩:=hb34.cells;obtain⟨L,hL⟩:=eX (s.data.toList);have hLs:L.length=s.size:=by rw [← hL];simp
 obtain⟨P,hP⟩:=eX (L.countP qB);have hP1:P≤s.size:=by rw [← hP,← hLs];exact List.countP_le_length
 have HF:=lH (AZ hb (AZ ht (AZ hC0 hC1)));have HA:=lH (AZ ha92 hb34);clear hb ht hC0 hC1 ha92 hb34;go_enter Tryz.func429,Tryz.ntmps429;go_upto_region 2 with(fail)
 go_cut [6] (fun y wr=>y = dL false∧w=wr)
 case first=>
  go_wp2_with (fail);go_meet;exact⟨rfl,rfl⟩
 obtain⟨rfl,rfl⟩:=hcut;go_step;go_step;go_cut [5,6] (fun n y wr=>n = dH dN ((s.size+P:Nat):Int)∧y = dL (decide (0<P))∧Hid (Aa [] w wr))
 case first=>
  by_cases h16:(16:Int)≤(s.size:Int)
  ·have HC:=lH (HCT s)
   rw [hL] at HC;clear HCT hL;obtain⟨x,hx⟩:=eX (L.count 92);obtain⟨y,hy⟩:=eX (L.count 34);have hxy:x+y=P:=by rw [← hx,← hy,← hP,Pg]
   go_wp2_with (fail);go_loopw [32,5,6] (fun i n z wr=>(i = dH dN 0∧n = dH dN s.size∧z = dL false∧Hid (Aa [] w wr))∨(i = dH dN 1∧n = dH dN ((s.size+x:Nat):Int)∧z = dL (decide (0<x))∧Hid (Aa [] w wr))∨(i = dH dN 2∧n = dH dN ((s.size+x+y:Nat):Int)∧z = dL (decide (0<x)||decide (0<y))∧Hid (Aa [] w wr))) (fun i _ _ _=>(2 - intOf i).toNat)
   case atStart=>exact .inl ⟨rfl,rfl,rfl,lH (Aa.refl [] w)⟩
   case round=>
    obtain⟨rfl,rfl,rfl,HK⟩ | ⟨rfl,rfl,rfl,HK⟩ | ⟨rfl,rfl,rfl,HK⟩:=hrel
    ·have kr:=HK.out.rl
     have HC1:=HC.out 92 wr;rw [hx] at HC1;by_cases h0:x=0
     ·subst h0
      go_wp2_with (with_reducible refine HC1.mono ?_;rintro e w' ⟨rfl,rfl⟩);go_roundw;case rel=>exact .inr (.inl ⟨rfl,by go_num,rfl,HK⟩)
      case measure=>simp [intOf]
     ·have h1:((x:Nat):Int) != 0:=by simpa using h0
      have h1':(((x:Nat):Int) != 0)=true:=h1;have hv:x≤s.size:=by omega
      go_wp2_with (with_reducible refine HC1.mono ?_;rintro e w' ⟨rfl,rfl⟩);go_region;go_wp2_with (fail);go_roundw;case rel=>exact .inr (.inl ⟨rfl,by go_num,by simp;omega,lH HK.out.drew⟩)
      case measure=>simp [intOf]
    ·have kr:=HK.out.rl
     have HC1:=HC.out 34 wr;rw [hy] at HC1;by_cases h0:y=0
     ·subst h0
      go_wp2_with (with_reducible refine HC1.mono ?_;rintro e w' ⟨rfl,rfl⟩);go_roundw;case rel=>exact .inr (.inr ⟨rfl,by go_num,by simp,HK⟩)
      case measure=>simp [intOf]
     ·have h1:((y:Nat):Int) != 0:=by simpa using h0
      have h1':(((y:Nat):Int) != 0)=true:=h1;have hv:y≤s.size:=by omega
      go_wp2_with (with_reducible refine HC1.mono ?_;rintro e w' ⟨rfl,rfl⟩);go_region;go_wp2_with (fail);go_roundw;case rel=>exact .inr (.inr ⟨rfl,by go_num,by simp;omega,lH HK.out.drew⟩)
      case measure=>simp [intOf]
    ·go_wp2_with (fail)
     go_meet;refine⟨by rw [CM,hxy],?_,HK⟩;rw [← hxy];by_cases h1:0<x<;>by_cases h2:0<y<;>simp [h1,h2]<;>omega
  ·go_wp2_with (fail)
   clear HCT;go_loopw [10,5,6] (fun i n y wr=>∃k:Nat,i = dH dN k∧k≤s.size∧n = dH dN ((s.size+(L.take k).countP qB:Nat):Int)∧y = dL (decide (0<(L.take k).countP qB))∧w=wr) (fun i _ _ _=>s.size - (intOf i).toNat)
   case atStart=>exact⟨0,rfl,Cy _,rfl,rfl,rfl⟩
   case round=>
    obtain⟨k,rfl,hk,rfl,rfl,rfl⟩:=hrel;by_cases hlt:k<s.size
    ·obtain⟨x,hx⟩:=eX ((s[k]'hlt))
     have hsn:(L.take (k+1)).countP qB=(L.take k).countP qB+(if qB x then 1 else 0):=by
      rw [← hL,MS s k hlt,hx,List.countP_append,List.countP_singleton]
     obtain⟨m,hm⟩:=eX ((L.take k).countP qB);have hm1:m≤k:=by rw [← hm];exact As List.countP_le_length aF
     rw [hm] at hsn ⊢;have i1:(0:Int)≤(k:Int):=by omega
     have i2:(k:Int)<(s.size:Int):=by omega
     obtain⟨z,hz⟩:=eX (s.size+m);have hz1:z≤2000:=by omega
     rw [hz];have hx256:(x.toNat:Int)<256:=by have:=x.toNat_lt;omega
     have HSN:=lH (AZ hsn (AZ hz hm));have HLT:=lH hlt;clear hsn hz hm hL;by_cases h92:x=92
     ·subst h92
      go_wp2_with (fail);go_roundw;case rel=>
       obtain⟨h1,h2,h3⟩:=HSN.out;rw [show qB 92=true from rfl,if_pos rfl] at h1;exact⟨k+1,by go_num,by omega,by rw [h1];go_num,by rw [h1];simp,trivial⟩
      case measure=>simp [intOf];omega
     ·by_cases h34:x=34
      ·subst h34
       clear h92;go_wp2_with (fail);go_roundw;case rel=>
        obtain⟨h1,h2,h3⟩:=HSN.out;rw [show qB 34=true from rfl,if_pos rfl] at h1;exact⟨k+1,by go_num,by omega,by rw [h1];go_num,by rw [h1];simp,trivial⟩
       case measure=>simp [intOf];omega
      ·have hq:qB x=false:=by simp [qB,h92,h34]
       have hcl:(EP (dI (some ⟨qa,0,none⟩) 2 ca) (dI (some ⟨qb,0,none⟩) 2 cb) (dI (some ⟨t,0,none⟩) 2 c))[x.toNat]? = some (dI none 0 0):=KB _ _ _ _ (fun h=>h92 (Dr.1 h)) (fun h=>h34 (Dr.1 h)) x.toNat_lt;have HQ:=lH hq;clear h92 h34 hq;go_wp2_with (fail);go_roundw;case rel=>
        obtain⟨h1,h2,h3⟩:=HSN.out;rw [HQ.out,if_neg bE,CG] at h1;exact⟨k+1,by go_num,by omega,by rw [h1];go_num,by simp [h1],trivial⟩
       case measure=>simp [intOf];omega
    ·obtain rfl:k=s.size:=by omega
     go_wp2_with (fail);go_meet;rw [Ax bB,hP];exact⟨rfl,rfl,lH (Aa.refl [] w)⟩
 case rest=>
  obtain⟨rfl,rfl,HK⟩:=hcut
  rename World=>wc
  clear HCT;by_cases h0:P=0
  ·subst h0
   have hsame:Hid ((⟨(Cj s.data.toList).toArray⟩:ByteArray)=s):=lH (by rw [hL,M0 L hP,← hL]);go_wp2_with (fail);go_ret;exact⟨by rw [hsame.out];rfl,HK.out⟩
  ·have hd:decide (0<P)=true:=by simp;omega
   rw [hd];obtain⟨N,hN⟩:=eX (s.size+P);have hN2:N≤2000:=by omega
   rw [hN];have HTOT:Hid ((Cj L).length=N):=lH (by rw [Ga,hP,hLs,hN]);obtain⟨iu,hu1,hu2,hu3,hu4⟩:∃i,Tryz.prog.info? 5=some i∧i.zero=some (.int .u8 0)∧i.size=1∧i.bytes=1:=by
    have h:(Tryz.prog.info? 5).map (fun i=>(i.zero,i.size,i.bytes))=some (some (.int .u8 0),1,1):=by kernel_rfl
    cases hq:Tryz.prog.info? 5 with
    | none=>rw [hq] at h;cases h
    | some i=>rw [hq] at h;simp at h;exact⟨i,rfl,h.1,h.2.1,h.2.2⟩
   have hmk:=FT (P:=Tryz.prog) 193 5 iu (.int .u8 0) Tryz.underlying193 hu1 hu2 .i64 .i64 N N (Ap _) (by rw [hu4];omega) bB wc;rw [hu3,Nat.mul_one] at hmk;have HSZ:Hid ((Tryz.prog.info? 5).map (·.size)=some 1):=lH (by rw [hu1];simp [hu3]);have HO:Hid (K0 (wc.alloc (.cells (madeCells (dH .u8 0).cells N) 5)) wc.heap.size N []):=lH ⟨_,Blk.new wc _ _,size_madeCells _ _,rfl,Cy _⟩;have HK2:=lH (HK.out.alloc (.cells (madeCells (dH .u8 0).cells N) 5));obtain⟨cells,hcells⟩:=eX (madeCells (dH .u8 0).cells N);rw [hcells] at hmk HO HK2;have HGE:Hid (w.heap.size≤wc.heap.size):=lH HK.out.size;clear hcells HK hu2 hu4 hd;go_wp2_with (fail);go_loopw [14,13] (fun i z wr=>∃k:Nat,i = dH dN k∧k≤s.size∧z = dH dN ((Cj (L.take k)).length:Nat)∧Hid (K0 wr wc.heap.size N (Cj (L.take k)))∧Hid (Aa [] w wr)) (fun i _ _=>s.size - (intOf i).toNat)
   case atStart=>exact⟨0,rfl,Cy _,rfl,HO,HK2⟩
   case round=>
    clear HO HK2 hmk;obtain⟨k,rfl,hk,rfl,HO,HK⟩:=hrel;by_cases hlt:k<s.size
    ·obtain⟨x,hx⟩:=eX ((s[k]'hlt))
     have hsn:Cj (L.take (k+1))=Cj (L.take k)++(if x=34 then [92,34] else if x=92 then [92,92] else [x]):=by
      rw [← hL,MS s k hlt,hx,M1]
     have hle:(Cj (L.take (k+1))).length≤N:=by
      rw [← HTOT.out,Ga,Ga];have h1:((L.take (k+1)).countP qB)≤L.countP qB:=(List.take_sublist _ _).countP_le;have h2:=List.length_take_le (k+1) L;omega
     obtain⟨l,hl⟩:=eX (Cj (L.take k));rw [hl] at hsn HO ⊢;obtain⟨j,hj⟩:=eX (l.length);rw [hj];have kr:=HK.out.rl;have i1:(0:Int)≤(k:Int):=by omega
     have i2:(k:Int)<(s.size:Int):=by omega
     have hx256:(x.toNat:Int)<256:=by have:=x.toNat_lt;omega
     obtain⟨cur,b1',b2',b3',b4'⟩:=HO.out;have g:=b1'.rl;by_cases h92:x=92
     ·subst h92
      have hj2:j+2≤N:=by rw [hsn] at hle;simp at hle;omega
      have hjN:¬N=j:=by omega
      have hcp:∀ty,(DH #[193,193] ty #[dI (some ⟨wc,j,none⟩) (N - j) (N - j),dI (some ⟨qa,0,none⟩) 2 ca]).run Tryz.prog wr.drew = .ok (dH dN 2) ((wr.setCell ⟨wc,j,none⟩ (.int .u8 92)).setCell ⟨wc,j+1,none⟩ (.int .u8 92)).drew:=Mx wr.drew wc.heap.size j N qa ca cur b1' b2' hj2 _ _ ((kr.1 qa 0 bB bA).trans a0) ((kr.1 qa 1 bB bA).trans a1);have HN:Hid (K0 ((wr.setCell ⟨wc,j,none⟩ (.int .u8 92)).setCell ⟨wc,j+1,none⟩ (.int .u8 92)).drew wc.heap.size N (Cj (L.take (k+1)))):=lH (by
       rw [hsn,show(if(92:UInt8)=34 then [92,34] else if(92:UInt8)=92 then [92,92] else [92]) = [92]++[(92:UInt8)] from rfl,← CO];subst hj;have h1:=HO.out.put 92 bB;have h2:=h1.put 92 bG;rw [Ag,AW] at h2;exact h2.drew)
      have HKN:Hid (Aa [] w ((wr.setCell ⟨wc,j,none⟩ (.int .u8 92)).setCell ⟨wc,j+1,none⟩ (.int .u8 92)).drew):=lH (((HK.out.setCell (p:=⟨wc,j,none⟩) (.inr HGE.out) _).setCell (p:=⟨wc,j+1,none⟩) (.inr HGE.out) _).drew);have HL2:Hid ((Cj (L.take (k+1))).length=j+2):=lH ZZ;clear hsn hj hl hle b1' b2' b3' b4' HO HK;go_wp2_with (fail);go_region;go_wp2_with (fail);go_roundw;case rel=>exact⟨k+1,by go_num,by omega,by rw [HL2.out];go_num,HN,HKN⟩
      case measure=>simp [intOf];omega
     ·by_cases h34:x=34
      ·subst h34
       have hj2:j+2≤N:=by rw [hsn] at hle;simp at hle;omega
       have hjN:¬N=j:=by omega
       have hcp:∀ty,(DH #[193,193] ty #[dI (some ⟨wc,j,none⟩) (N - j) (N - j),dI (some ⟨qb,0,none⟩) 2 cb]).run Tryz.prog wr.drew = .ok (dH dN 2) ((wr.setCell ⟨wc,j,none⟩ (.int .u8 92)).setCell ⟨wc,j+1,none⟩ (.int .u8 34)).drew:=Mx wr.drew wc.heap.size j N qb cb cur b1' b2' hj2 _ _ ((kr.1 qb 0 bB bA).trans b0) ((kr.1 qb 1 bB bA).trans b1);have HN:Hid (K0 ((wr.setCell ⟨wc,j,none⟩ (.int .u8 92)).setCell ⟨wc,j+1,none⟩ (.int .u8 34)).drew wc.heap.size N (Cj (L.take (k+1)))):=lH (by
        rw [hsn,show(if(34:UInt8)=34 then [92,34] else if(34:UInt8)=92 then [92,92] else [34]) = [92]++[(34:UInt8)] from rfl,← CO];subst hj;have h1:=HO.out.put 92 bB;have h2:=h1.put 34 bG;rw [Ag,AW] at h2;exact h2.drew)
       have HKN:Hid (Aa [] w ((wr.setCell ⟨wc,j,none⟩ (.int .u8 92)).setCell ⟨wc,j+1,none⟩ (.int .u8 34)).drew):=lH (((HK.out.setCell (p:=⟨wc,j,none⟩) (.inr HGE.out) _).setCell (p:=⟨wc,j+1,none⟩) (.inr HGE.out) _).drew);have HL2:Hid ((Cj (L.take (k+1))).length=j+2):=lH ZZ;clear hsn hj hl hle b1' b2' b3' b4' HO HK;go_wp2_with (fail);go_region;go_wp2_with (fail);go_roundw;case rel=>exact⟨k+1,by go_num,by omega,by rw [HL2.out];go_num,HN,HKN⟩
       case measure=>simp [intOf];omega
      ·have hcl:(EP (dI (some ⟨qa,0,none⟩) 2 ca) (dI (some ⟨qb,0,none⟩) 2 cb) (dI (some ⟨t,0,none⟩) 2 c))[x.toNat]? = some (dI none 0 0):=KB _ _ _ _ (fun h=>h92 (Dr.1 h)) (fun h=>h34 (Dr.1 h)) x.toNat_lt
       rw [if_neg h34,if_neg h92] at hsn;have hj1:j<N:=by rw [hsn] at hle;simp at hle;omega
       have i3:(j:Int)<(N:Int):=by omega
       have hcj:∃v,cur[j]? = some v:=⟨_,Array.getElem?_eq_getElem bB⟩;obtain⟨vj,hvj⟩:=hcj;have HN:Hid (K0 (wr.setCell ⟨wc,j,none⟩ (.int .u8 x.toNat)) wc.heap.size N (Cj (L.take (k+1)))):=lH (by
        rw [hsn];subst hj;exact HO.out.put x hj1)
       have HKN:Hid (Aa [] w (wr.setCell ⟨wc,j,none⟩ (.int .u8 x.toNat))):=lH (HK.out.setCell (p:=⟨wc,j,none⟩) (.inr HGE.out) _);have HL2:Hid ((Cj (L.take (k+1))).length=j+1):=lH ZZ;clear hsn hj hl hle b1' b2' b3' b4' HO HK h92 h34;go_wp2_with (fail);go_roundw;case rel=>exact⟨k+1,by go_num,by omega,by rw [HL2.out];go_num,HN,HKN⟩
       case measure=>simp [intOf];omega
    ·obtain rfl:k=s.size:=by omega
     rw [Ax bB] at HO ⊢;rw [HTOT.out];have hfin:(convert 193 9 (dI (some ⟨wc,0,none⟩) N N)).run Tryz.prog wr = .ok (CZ ⟨(Cj s.data.toList).toArray⟩) wr:=by
      obtain⟨cur,b1,b2,b3,b4⟩:=HO.out;rw [hL];have:=run_convert_bytes_back (P:=Tryz.prog) wr 193 9 5 ⟨wc,0,none⟩ N (Cj L) Tryz.underlying193 Tryz.underlying5 Tryz.underlying9 (fun j hj=>by
       rw [Bn,b1.cell,BI];have h:=congrArg (·[j]?) b3;simp only [Ds,if_pos hj,List.getElem?_map,Au hj,Option.map_some] at h;simpa [aI] using h)
      rw [HTOT.out] at this;exact this
     clear hL;go_wp2_with (fail);go_ret;exact⟨rfl,HK.out⟩
end
section
open Go
theorem QV{l n:Nat}{P:Program}{o:Oper}{a:Act}{next next':Act→World→Prop}{Q:Exit→Act→World→Prop}(hn:∀a w,next a w→next' a w):
  ∀(r:Result Next),o.upon P a next Q r→o.uponIn (Fence.wide.inRound l) n P a next' Q r:=by
 intro r h;cases r with
 | ok v w=>
  cases v with
  | value v=>exact hn _ _ h
  | skip=>exact hn _ _ h
  | defer d=>exact hn _ _ h
  | enter f args=>
   refine⟨(fun e=>by cases e),CallsIn.inRound l (callsIn_wide.2 (Calls.mono h ?_))⟩;intro e w' he;cases e with
   | returned v=>exact hn _ _ he
   | panicked ch=>exact he
   | outgrown=>exact he
  | row row args=>
   refine⟨(fun e=>by cases e),fun c cs _=>?_⟩;obtain⟨v,w',hr,hs⟩:=h c cs;exact⟨v,w',hn _ _ hr,stepsIn_wide.2 hs⟩
  | _=>exact h.elim
 | halt x w=>
  cases x<;>first | exact h | exact h.elim
theorem FN{l n:Nat}{P:Program}{ops:Array Oper}{Q:Exit→Act→World→Prop}(hd:∀(i:Nat) (o:Oper),ops[i]? = some o→∀c,o.op≠Op.defer c)(hQ:∀a w,¬Q .outgrown a w):
  ∀(is:List Nat) (a:Act) (w:World),wpOps P ops Q is a w→wpOpsIn (Fence.wide.inRound l) n P ops Q is a w
 | [],_,_,h=>h
 | i::is,a,w,h=>by
  unfold wpOps at h;unfold wpOpsIn;split at h
  ·rename_i h0
   simp only [h0];exact FN hd hQ is a w h
  ·rename_i o h0
   simp only [h0];split at h
   ·rename_i hw
    rw [if_pos hw];rcases h with h | ⟨_,a',w',h⟩
    ·refine⟨fun _ _=>trivial,?_⟩
     show o.uponIn _ n P a _ Q ((o.semAt (some l) a.eval).run P w);rw [Oper.semAt_some l _ _ (hd i o h0)];exact QV (fun a w=>FN hd hQ is a w) _ h
    ·exact absurd h (hQ a' w')
   ·rename_i hw
    rw [if_neg hw];exact⟨fun _ _=>trivial,FN hd hQ is _ w h⟩
def N7(ops:Array Oper):Bool:=ops.toList.all fun(o:Oper)=>match o.op with | Op.defer _=>false | _=>true
theorem Jb{ops:Array Oper}(h:N7 ops=true):∀(i:Nat) (o:Oper),ops[i]? = some o→∀c,o.op≠Op.defer c:=fun i o ho c hc=>by
 have h1:=BB.1 h o (by
  rw [← Array.getElem?_toList] at ho;exact Ex ho)
 rw [hc] at h1;cases h1
theorem Be{l n:Nat}{P:Program}{ops:Array Oper}{Q:Exit→Act→World→Prop}{S:World→Prop}{id:Nat}{a:Act}{w:World}(hm:P.follows .mixedOrders=true)(hd:N7 ops=true)(hQ:∀a w,¬Q .outgrown a w)(hS:S w.drew)
 (h:S w.drew→wpAnyH P .any ops Q S ops.size (Array.replicate ops.size false) a w.drew):(Code.region id ops true).wpIn (Fence.wide.inRound l) n P Q a w:=
 wpIn_region_draw fun t=>by
  simp only [Region.schedule,hm,Bool.true_or,if_true];exact FN (Jb hd) hQ _ _ _ (wpAny_sound ops.size t _ a _ (wpAny_of_held _ _ _ _ (h hS)))
theorem Tq{n:Nat}{P:Program}{o:Oper}{a:Act}{next next':Act→World→Prop}{Q:Exit→Act→World→Prop}(hn:∀a w,next a w→next' a w):
  ∀(r:Result Next),o.upon P a next Q r→o.uponIn Ba n P a next' Q r:=by
 intro r h;cases r with
 | ok v w=>
  cases v with
  | value v=>exact hn _ _ h
  | skip=>exact hn _ _ h
  | defer d=>exact hn _ _ h
  | enter f args=>
   refine⟨(fun e=>by cases e),callsIn_wide.2 (Calls.mono h ?_)⟩;intro e w' he;cases e with
   | returned v=>exact hn _ _ he
   | panicked ch=>exact he
   | outgrown=>exact he
  | row row args=>
   refine⟨(fun e=>by cases e),fun c cs _=>?_⟩;obtain⟨v,w',hr,hs⟩:=h c cs;exact⟨v,w',hn _ _ hr,stepsIn_wide.2 hs⟩
  | _=>exact h.elim
 | halt x w=>
  cases x<;>first | exact h | exact h.elim
theorem G7{n:Nat}{P:Program}{ops:Array Oper}{Q:Exit→Act→World→Prop}(hd:∀(i:Nat) (o:Oper),ops[i]? = some o→∀c,o.op≠Op.defer c)(hQ:∀a w,¬Q .outgrown a w):
  ∀(is:List Nat) (a:Act) (w:World),wpOps P ops Q is a w→wpOpsIn Ba n P ops Q is a w
 | [],_,_,h=>h
 | i::is,a,w,h=>by
  unfold wpOps at h;unfold wpOpsIn;split at h
  ·rename_i h0
   simp only [h0];exact G7 hd hQ is a w h
  ·rename_i o h0
   simp only [h0];split at h
   ·rename_i hw
    rw [if_pos hw];rcases h with h | ⟨_,a',w',h⟩
    ·refine⟨fun _ _=>trivial,?_⟩
     show o.uponIn _ n P a _ Q ((o.semAt Fence.wide.round a.eval).run P w);rw [Oper.semAt_plain Ba _ _ (hd i o h0)];exact Tq (fun a w=>G7 hd hQ is a w) _ h
    ·exact absurd h (hQ a' w')
   ·rename_i hw
    rw [if_neg hw];exact⟨fun _ _=>trivial,G7 hd hQ is _ w h⟩
def UP(Q:Exit→Act→World→Prop):Exit→Act→World→Prop
 | .normal,a,w=>Q .normal a w
 | _,_,_=>False
theorem G6{n:Nat}{P:Program}{ops:Array Oper}{Q:Exit→Act→World→Prop}{S:World→Prop}{id:Nat}{a:Act}{w:World}(hm:P.follows .mixedOrders=true)(hd:N7 ops=true)(hS:S w.drew)
 (h:S w.drew→wpAnyH P .any ops (UP Q) S ops.size (Array.replicate ops.size false) a w.drew):(Code.region id ops true).wpIn Ba n P Q a w:=
 wpIn_mono (Q:=UP Q) (wpIn_region_draw fun t=>by
  simp only [Region.schedule,hm,Bool.true_or,if_true];exact G7 (Jb hd) (fun _ _ h=>h) _ _ _ (wpAny_sound ops.size t _ a _ (wpAny_of_held _ _ _ _ (h hS)))) (fun e a w h=>by
  cases e<;>first | exact h | exact h.elim)
end
section
open Go.RowKit
theorem Blk.row{w:World}{g:Nat}{t:TypeId}{old:Array Value}(h:Blk w g t old)(cs:Array Value):Blk (w.setRow g cs) g t cs:=setRow_heap w g old cs t (0,0) h
theorem Bh(w:World)(g:Nat)(cs:Array Value):Aa [g] w (w.setRow g cs):=
 ⟨rfl,rfl,rfl,by simp,fun i _ hn=>setRow_other w g i cs (fun e=>hn (by simp [e]))⟩
variable {P:Program}
theorem BV{ops:Array Oper}{rest:List Oper}{op:Oper}{a:Act}{w:World}{Q:Exit→Act→World→Prop}(hgd:op.guard=none)(ty:TypeId)(x:Operand)(ho:op.op = .load ty x)
 (b o:Nat)(hx:a.eval x = dJ (some ⟨b,o,none⟩))(cs:Array Value)(d:TypeDesc)(hc:w.rangeAt b o cs.toList)
 (hu:P.underlying ty=some d)(hd:d.isRow=true)(hi:(P.info? ty).map (·.size)=some cs.toList.length)
 (h:wpList P ops Q rest (a.put op.dst (.agg cs)) w):wpList P ops Q (op::rest) a w:=
 wpList_load_mid hgd ty x ho b o hx cs.toList d hc hu hd hi (by rw [Array.toArray_toList];exact h)
theorem Blk.rng{w:World}{g:Nat}{t:TypeId}{cs:Array Value}(h:Blk w g t cs)(o:Nat)(ds:Array Value)(hd:∀j v,ds.toList[j]? = some v→cs[o+j]? = some v):w.rangeAt g o ds.toList:=fun j v hv=>by
 rw [h.cell];exact hd j v hv
theorem AA{fn:Func}{p u:Tmp}{ty:TypeId}(h:fn.results=#[.cell p ty,.tmp u])(tmps:Array Value)(w:World)(g:Nat)(t:TypeId)(cs:Array Value)(d:TypeDesc)(y:Value)
 (hp:tmps.getD p undef = dJ (some ⟨g,0,none⟩))(hy:tmps.getD u undef=y)(hb:Blk w g t cs)(hu:P.underlying ty=some d)(hd:(match d with | .struct _ | .array _ _=>true | _=>false)=true)(hi:(P.info? ty).map (·.size)=some cs.size):
  (results fn tmps).run P w = .ok (.tuple #[.agg cs,y]) w:=by
 rw [results_cell_tmp h,hp,hy];simp [asAddr,run_loadVar_row w g t ty cs (0,0) d hb hu hd hi,AI]
theorem E4{F:Fence}{nF:Nat}{ops:Array Oper}{rest:List Oper}{op:Oper}{a:Act}{w:World}{Q:Exit→Act→World→Prop}(hgd:op.guard=none)(ty:TypeId)(x:Operand)(ho:op.op = .load ty x)
 (b o:Nat)(hx:a.eval x = dJ (some ⟨b,o,none⟩))(cs:Array Value)(d:TypeDesc)(hc:w.rangeAt b o cs.toList)
 (hu:P.underlying ty=some d)(hd:d.isRow=true)(hi:(P.info? ty).map (·.size)=some cs.toList.length)
 (h:wpListIn F nF P ops Q rest (a.put op.dst (.agg cs)) w):wpListIn F nF P ops Q (op::rest) a w:=by
 refine wpListIn_plain hgd fun K hK=>?_;unfold Oper.wpIn;refine⟨by simp [Oper.about,ho],?_⟩;rw [Oper.semAt_plain F _ _ Zw];have hr:=run_loadAt_mid (P:=P) w b o ty cs.toList d hc hu hd hi;rw [Array.toArray_toList] at hr;simp [execOp,ho,hx,hr,AI];exact hK _ _ h
theorem Ep{F:Fence}{nF:Nat}{ops:Array Oper}{rest:List Oper}{o:Oper}{a:Act}{w:World}{Q:Exit→Act→World→Prop}(hgd:o.guard=none)(ty:TypeId)(x y:Operand)(ho:o.op = .store ty x y)
 (g:Nat)(cells:Array Value)(hx:a.eval x = dJ (some ⟨g,0,none⟩))(hy:a.eval y = .agg cells)
 (t:TypeId)(old:Array Value)(hg:w.heap[g]? = some (.cells old t (0,0)))(hi:(P.info? ty).map (·.size)=some cells.size)
 (hold:old.size=cells.size)(h1:cells.all (·.oneCell')=true)
 (h:wpListIn F nF P ops Q rest (a.put o.dst undef) (w.setRow g cells)):wpListIn F nF P ops Q (o::rest) a w:=by
 refine wpListIn_plain hgd fun K hK=>?_;unfold Oper.wpIn;refine⟨by simp [Oper.about,ho],?_⟩;rw [Oper.semAt_plain F _ _ Zw];have hr:=run_storeVar_row (P:=P) w g t ty old cells hg hi hold h1;simp [execOp,ho,hx,hy,Instr.storeAt,Instr.sureAddr,hr,AI];exact hK _ _ h
end
end Go.Proofs.YtcjdkbgdahgjbaaGreatDoor
