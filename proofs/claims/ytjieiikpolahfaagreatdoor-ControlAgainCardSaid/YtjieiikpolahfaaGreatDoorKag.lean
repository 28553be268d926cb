/- Steps. -/
import Derived.Test.YtjieiikpolahfaaGreatDoorKaf
import Derived.Deep.DeepCutAuto
import Derived.Deep.QuietTactic
import Derived.BigQuiet
import Derived.Defers
import Derived.Laws.Pointers
import Derived.Laws.LoneSync
import Derived.RegionCalls
import Derived.ChangeAlike
import Derived.Laws.IdiomStrings
import Derived.Deep.WholeRow
import Derived.Lib.SliceRun
set_option maxRecDepth 100000
set_option maxHeartbeats 8000000
set_option linter.all false
namespace Go.Proofs.YtjieiikpolahfaaGreatDoor
open Tryz
open _root_.Go renaming undef→UD
open _root_.And renaming intro→Bl
open _root_.Array renaming getElem?_eq_some_iff→Ai,getElem?_setIfInBounds→Bj,replicate_succ→Bt,replicate_zero→Bu
open _root_.Bool renaming and_eq_true→Af
open Builtin renaming append_→BI
open Ending renaming returned→pJ
open Instr renaming slice→AV
open IntKind renaming i64→pK
open Lib renaming run_eql_slice_nil→AK
open _root_.List renaming append_toArray→BD,cons_append→AL,eq_nil_of_length_eq_zero→Ds,getElem?_eq_getElem→Aq,getElem?_eq_some_iff→Ad,getElem_mem→pS,length_append→Al,length_cons→Av,length_drop→B1,length_nil→D4,length_singleton→Bp,length_take→Ax,map_append→pO,mem_append→AQ,mem_cons→Ac,mem_map→BO,mem_singleton→Ag,nil_append→BH,not_mem_nil→Ab,push_toArray→Cd,size_toArray→Cz,take_append_drop→Dn,take_of_length_le→Ak
open _root_.Nat renaming add_assoc→EA,le_refl→Aw,le_trans→A8,lt_of_lt_of_le→BS,lt_or_ge→pP,min_eq_left→DE,reduceAdd→pL,reduceSub→pM,zero_le→Ba
open Oper renaming semAt_some→pN
open Value renaming agg→pH,bool→pI,int→pE,ownBlock→EZ,pointer→pG,slice→pF,string→Dz
open World renaming block_lt_of_cell?→Be,cell?_of_block→BL,ownsRow_nil→BQ
section
open Go.RowKit Go.Shelf
attribute [local go_sem ↓] wp_at_zero wp_at_succ
theorem Oz{α:Type}(p:α->Bool)(l:List α):(l.filter p).length<=l.length:=List.length_filter_le p l
theorem BP.keepsS{S:List Nat}{w w':World}{a:Option Addr}{c:Nat}{V:List SV}{p:Po}(h:BP w a c V p)(hk:Aa S w w')(hS:∀k∈S,∃cs,Blk w k 32 cs/\32≠9/\32≠147):BP w' a c V p:=by
 have D:∀k∈S,∀(cs:Array Value) (t:TypeId) (B:Nat×Nat),w.heap[k]? = some (Obj.cells cs t B)->t=32:=fun k hk cs t B h=>by
  obtain⟨E,hb,_⟩:=hS k hk;have F:w.heap[k]? = some (Obj.cells E 32 (0,0)):=hb;rw [F] at h;injection h with h
  injection h with _ h3 _
  exact h3.symm
 exact⟨h.le,h.small,h.row.keepsS hk (fun k hm cs B hb=>by
  obtain⟨_,_,_,hne⟩:=hS k hm;exact hne (D k hm cs _ B hb).symm),h.mt.keepsS hk (fun k hm cs B hb=>by
  obtain⟨_,_,hne,_⟩:=hS k hm;exact hne (D k hm cs _ B hb).symm)⟩
theorem Va{w A E:World}{B:Nat}{U:Value}{F:List SV}{L:List Sn}{x now:Int}{G:Option Addr}{T m:Nat}{xs:List ByteArray}{a:Option Addr}{n c:Nat}
 (hs:Da E B U (F++[⟨x,G,m,T,now⟩]))(hk:D7 B A E)(hM:Mt A F L)(hS:Cy A G T xs)(hm:xs.length=m)(hl:F.length<=1000)(hw:Aa [] w A)
 (h0:Blk A w 32 #[pF a n c,I_ x])(h2:Blk A (w+1+1) 32 #[pF none 0 0,I_ 0])(hz:w.heap.size+1+1<B)(_:B<=A.heap.size)(N:∀z∈F,SO w z)(M:Fr w G m):
  ∃a9 k9 c9 V9,U = pF a9 k9 c9/\Hi (V9.length=k9)/\Hi (BP E a9 c9 V9 ⟨L++[⟨x,xs,now⟩],x+1⟩)/\Hi (Aa [] w E)/\Hi (Blk E w 32 #[pF a n c,I_ x])/\Hi (Blk E (w+1+1) 32 #[pF none 0 0,I_ 0])/\Hi (∀z∈V9,SO w z):=by
 obtain⟨a9,c9,rfl,J,O⟩:=hs.row;refine⟨a9,_,c9,_,rfl,lH rfl,lH ⟨J,by rw [Al,Bp];omega,O,?_⟩,lH (Aa.of_below ((hw.below (Aw _) bA).trans (hk.low.mono bB)) []),lH ((hk.low.block _ bB).trans h0),lH ((hk.low.block _ hz).trans h2),lH (fun z D=>by
  rcases AQ.1 D with D | D
  ·exact N z D
  ·obtain rfl:=Ag.1 D
   exact M)⟩
 exact(hM.strK hk).app ⟨⟨rfl,rfl,hm.symm,hS.strK hk⟩,trivial⟩
theorem dL(a:Option Addr)(c:Nat)(V:List SV)(p:Po)(n:Nat)(hn:V.length=n)(ia:Option Addr)(ic m:Nat)(xs:List ByteArray)(hm:xs.length=m)(now:Int)(w:World)(hP:BP w a c V p)(hI:Cy w ia ic xs)(e:Nat->Addr)(he:M1 w e)
 (hy:Db p now=true)(hz:Dd xs=true)(hx:p.next<1000000000000):
  Calls prog 166 #[pH #[pF a n c,I_ p.next],pF ia m ic,I_ now] w (OA w ⟨JO p.l now++[⟨p.next,xs,now⟩],p.next+1⟩ p.next 0):=by
 have ah:=Ik hy;obtain⟨be,an,bu⟩:=LX hy;obtain⟨x,a0⟩:=eX p.next;have hn3:n<=3:=by rw [<- hn,hP.mt.len];exact ah.1
 have hx1:1<=x:=by rw [<- a0];exact ah.2.1
 have aw:=fun W (hk:Aa [] w W)=>L6 a c V p n hn now W (hP.keeps hk) e (he.keep hk) true hy;have ax:=fun W (hk:Aa [] w W)=>Gk ia ic xs true hz W (hI.at_.keeps hk) hI.small hI.size;have ba:=fun W (hk:Aa [] w W)=>YZ a c V p.l n hn bB W (hP.row.keeps hk) (hP.mt.keeps hk);rw [hm] at ax;rw [a0] at aw hx ⊢;have hx2:¬(1000000000000:Int)<=x:=bB;have bj:=lH aw;have bl:=lH ax;have HCO:=lH ba;have HI:=lH hI;have HM:=lH hm;have HT:=lH be;have HNO:=lH an;have HLN:Hi (p.l.length=n):=lH (by rw [<- hn,hP.mt.len]);have HB0:=lH ((((Blk.new w 32 #[pF a n c,I_ x]).alloc (.cells #[pE pK now] 3)).alloc (.cells #[pF none 0 0,I_ 0] 32)));have HB1:=lH ((Ar (w.alloc (.cells #[pF a n c,I_ x] 32)) 3 #[pE pK now] (w+1) bA).alloc (.cells #[pF none 0 0,I_ 0] 32));have HB2:=lH (Ar ((w.alloc (.cells #[pF a n c,I_ x] 32)).alloc (.cells #[pE pK now] 3)) 32 #[pF none 0 0,I_ 0] (w+1+1) bA);have HK:=lH ((((Aa.refl [] w).alloc (.cells #[pF a n c,I_ x] 32)).alloc (.cells #[pE pK now] 3)).alloc (.cells #[pF none 0 0,I_ 0] 32));clear aw ax ba he hP hI a0 hn hm ah be an hy hz;go_enter func166,ntmps166;go_wp2_with fail;refine(bj.o _ HK.o).mono ?_;rintro r w1 ⟨rfl,hk⟩;have HB0:=lH (HB0.o.keeps hk bA);have HB1:=lH (HB1.o.keeps hk bA);have HB2:=lH (HB2.o.keeps hk bA);have HK:=lH (HK.o.trans hk);clear hk;unfold Jj;go_wp2_with fail;refine(bl.o _ HK.o).mono ?_;rintro r w2 ⟨rfl,hk⟩;have HB0:=lH (HB0.o.keeps hk bA);have HB1:=lH (HB1.o.keeps hk bA);have HB2:=lH (HB2.o.keeps hk bA);have HK:=lH (HK.o.trans hk);clear hk;have HSZ:Hi (w.heap.size+1+1<w2.heap.size):=lH HB2.o.lt;have p0:_=some (pF a n c):=HB0.o.cell 0;have p1:_=some (pE .i64 x):=HB0.o.cell 1;go_wp2_with fail;refine(HCO.o _ HK.o).mono ?_;rintro r w3 ⟨v0,V0,rfl,bd,al,hb0,bb⟩;have bm:Hi (∀z∈V0,SO w z):=lH (fun z hz=>Fr.down (bb z hz) HK.o.size);clear bb;have hk:=Aa.of_below hb0 [];have HB0:=lH (HB0.o.keeps hk bA);have HB1:=lH (HB1.o.keeps hk bA);have HB2:=lH (HB2.o.keeps hk bA);have HK:=lH (HK.o.trans hk);have a3:=lH (PW v0 V0 w2 (by rw [al.len,HLN.o];omega) now HNO.o (Mt.used al HT.o) (w+1) w3 hb0.size bP (HB1.o.cell 0) bd);have bo:=lH al;have bp:=lH hb0.size;clear hk bd al hb0 p0 p1;go_wp2_with fail;refine a3.o.mono ?_;clear a3;rintro r w4 ⟨v1,rfl,hs1,hk1⟩;obtain⟨F,hF⟩:=eX (V0.filter (Ei now));have ay:Mt w4 F (p.l.filter (Fs now)):=by rw [<- hF];exact(bo.o.strK hk1).filter now
 have a4:Hi (∀z∈F,SO w z):=lH (fun z hz=>bm.o z (List.mem_filter.1 (by rw [<- hF] at hz;exact hz)).1);rw [hF] at hs1;have ab:∀ {g:Nat} {ty:TypeId} {cs:Array Value},Blk w3 g ty cs->g<w2.heap.size->Blk w4 g ty cs:=fun h hg=>(hk1.low.block _ hg).trans h;have HB0:=lH (ab HB0.o bP);have HB1:=lH (ab HB1.o bP);have HB2:=lH (ab HB2.o HSZ.o);have HK4:Hi (Aa [] w w4):=lH (Aa.of_below ((HK.o.below (Aw _) bA).trans (hk1.low.mono bP)) []);have ad:Hi (Cy w4 ia ic xs):=lH (HI.o.keeps HK4.o);have HSB:Hi (w2.heap.size<=w4.heap.size):=lH (A8 bp.o hk1.low.size);have bt:F.length<=3:=by rw [ay.len];exact A8 (Oz _ _) (by rw [HLN.o];exact hn3)
 obtain⟨k,hk⟩:=eX F.length;have HKF:=lH hk;have ak:=lH ay;have pn:w4.cell? (A_ w 1)=some (I_ x):=HB0.o.cell 1;have pw:w4.cell? (A1 w 0)=some (I_ now):=HB1.o.cell 0;obtain⟨a1,c1,bf,av,-⟩:=hs1.row;rw [hk] at bf av bt;subst bf;clear ay hF hk;by_cases hk3:k=3
 ·subst hk3
  obtain⟨g,off,cap,hv,bs,az⟩:=hs1.tail (by rw [HKF.o];omega);injection hv with e1 e2 e3
  subst e1;subst e3;clear e2;have b2:(AV 30 (pF (some (A_ g off)) 3 c1) (some (I_ 1)) none none).run prog w4 = .ok (pF (some (A_ g (off+3))) 2 (c1 - 1)) w4:=by
   have:=Fw w4 g off 3 c1 1 bB bs;simpa using this
  have ae:Hi (Da w4 w2 (pF (some (A_ g (off+3))) 2 (c1 - 1)) (F.drop 1)):=lH (by rw [HKF.o] at az;simpa using az);have HM4:Hi (Mt w4 (F.drop 1) (JO p.l now)):=lH (by unfold JO;rw [<- ak.o.len,HKF.o,if_pos rfl];exact ak.o.drop 1);have Y:Hi ((F.drop 1).length<=1000):=lH (by rw [B1,HKF.o];omega);have aj:Hi (∀z∈F.drop 1,SO w z):=lH (fun z hz=>a4.o z (List.mem_of_mem_drop hz));obtain⟨F2,a7⟩:=eX (F.drop 1);rw [a7] at ae HM4 Y aj;clear hs1 az av hk1 a7;go_wp2;have ai:∀w':World,w'.heap[w.heap.size]? = w4.heap[w.heap.size]?->w'.heap[w.heap.size+1]? = w4.heap[w.heap.size+1]?->(w'.cell? (A_ w 1)=some (I_ x)/\w'.cell? (A1 w 0)=some (I_ now)):=fun w' h0 h1=>⟨(BL (a:=A_ w 1) h0).trans pn,(BL (a:=A1 w 0) h1).trans pw⟩;have HSS:=lH ai;clear ai pn pw ab;go_cut [11] (fun v wx=>∃M O N V9,v = pF M O N/\Hi (V9.length=O)/\Hi (BP wx M N V9 ⟨JO p.l now++[⟨x,xs,now⟩],x+1⟩)/\Hi (Aa [] w wx)/\Hi (Blk wx w 32 #[pF a n c,I_ x])/\Hi (Blk wx (w+1+1) 32 #[pF none 0 0,I_ 0])/\Hi (∀z∈V9,SO w z))
  case first=>
   refine wp_region_held_drew (S:=(fun w':World=>w'.cell? (A_ w 1)=some (I_ x)/\w'.cell? (A1 w 0)=some (I_ now))) bC fB (fun hHeld=>?_);refine rQ 0 ?_;refine rQ 1 ?_;refine rQ 2 ?_;refine rQ 3 ?_;refine rQ 5 ?_;refine rC 4 fun K hK=>?_;go_simp
   (first | ((with_reducible refine(Gy ia ic xs m HM.o _ (ad.o.keeps ((Aa.refl [] w4).drew))).mono ?_);rintro e5 w5 ⟨T,c5,rfl,G,hk5,E⟩;have X:Hi (Fr w T m):=lH (E.down HK4.o.size);have HK5:=lH (((Aa.refl [] w4).drew).trans hk5);have aa:=lH G;have hS5:=HSS.o w5 (HK5.o.block _ HB0.o.lt bA) (HK5.o.block _ HB1.o.lt bA);have hS5a:=fun o=>HSS.o (w5.alloc o) ((HK5.o.alloc o).block _ HB0.o.lt bA) ((HK5.o.alloc o).block _ HB1.o.lt bA);clear G hk5 E) | (obtain⟨v9,w9,D,J,hk9⟩:=Da.push ((ae.o.keeps HK5.o).keeps ((Aa.refl [] w5).alloc (.cells (SV.arr (⟨x,T,m,c5,now⟩:SV)) 147))) Y.o iU w5 (⟨x,T,m,c5,now⟩:SV) (Blk.new w5 147 (SV.arr (⟨x,T,m,c5,now⟩:SV))) 30;simp only [SV.arr] at D;refine Cf _ _ 30 bD bD bD bD D ?_;have hS9:=HSS.o w9 ((hk9.low.block _ bP).trans ((HK5.o.alloc _).block _ HB0.o.lt bA)) ((hk9.low.block _ bP).trans ((HK5.o.alloc _).block _ HB1.o.lt bA));have af:=lH J;have HK9:=lH hk9;clear J hk9 D))
   refine rO hK fB fun hHeld=>?_;clear hK K;refine rQ 6 ?_;refine rC 7 fun K hK=>?_;go_simp;refine rO hK fB fun hHeld=>?_;clear hK K;refine rC 8 fun K hK=>?_
   (first | ((with_reducible refine(Gy ia ic xs m HM.o _ (ad.o.keeps ((Aa.refl [] w4).drew))).mono ?_);rintro e5 w5 ⟨T,c5,rfl,G,hk5,E⟩;have X:Hi (Fr w T m):=lH (E.down HK4.o.size);have HK5:=lH (((Aa.refl [] w4).drew).trans hk5);have aa:=lH G;have hS5:=HSS.o w5 (HK5.o.block _ HB0.o.lt bA) (HK5.o.block _ HB1.o.lt bA);have hS5a:=fun o=>HSS.o (w5.alloc o) ((HK5.o.alloc o).block _ HB0.o.lt bA) ((HK5.o.alloc o).block _ HB1.o.lt bA);clear G hk5 E) | (obtain⟨v9,w9,D,J,hk9⟩:=Da.push ((ae.o.keeps HK5.o).keeps ((Aa.refl [] w5).alloc (.cells (SV.arr (⟨x,T,m,c5,now⟩:SV)) 147))) Y.o iU w5 (⟨x,T,m,c5,now⟩:SV) (Blk.new w5 147 (SV.arr (⟨x,T,m,c5,now⟩:SV))) 30;simp only [SV.arr] at D;refine Cf _ _ 30 bD bD bD bD D ?_;have hS9:=HSS.o w9 ((hk9.low.block _ bP).trans ((HK5.o.alloc _).block _ HB0.o.lt bA)) ((hk9.low.block _ bP).trans ((HK5.o.alloc _).block _ HB1.o.lt bA));have af:=lH J;have HK9:=lH hk9;clear J hk9 D))
   refine rO hK fB fun hHeld=>?_;clear hK K;refine rQ 9 ?_;refine wpAnyH_done bC ?_ _
   (go_wp2_with fail;go_meet;exact Va af.o HK9.o (HM4.o.keeps (HK5.o.alloc _)) (aa.o.keeps ((Aa.refl [] w5).alloc _)) HM.o Y.o ((HK4.o.trans HK5.o).alloc _) ((HB0.o.keeps HK5.o bA).alloc _) ((HB2.o.keeps HK5.o bA).alloc _) HSZ.o iU aj.o X.o)
  case rest=>
   obtain⟨M,O,N,V9,rfl,au,ar,HK9,U,B,aq⟩:=hcut;have pn:wc.cell? (A_ w 1)=some (I_ x):=U.o.cell 1;have q0:wc.cell? (A2 w 0)=some (pF none 0 0):=B.o.cell 0;have q1:wc.cell? (A2 w 1)=some (I_ 0):=B.o.cell 1;have f0:=B.o.frozen 0;have f1:=B.o.frozen 1;have bv:IntKind.i64.wrap (x+1)=x+1:=IntWalk.i64_in _ bB;have hw1:∀u v,((wc.drew.setCell (A2 w 0) u).setCell (A2 w 1) v).cell? (A_ w 1)=some (I_ x):=fun u v=>(((U.o.drew).far (p:=A2 w 0) bH u).far (p:=A2 w 1) bH v).cell 1;have HW1:=lH hw1;have HBF:=lH (Bl (B.o.set_ 0 (pF M O N)) ((B.o.set_ 0 (pF M O N)).set_ 1 (I_ (x+1))));have HKF:=lH ((HK9.o.drew.setCell (p:=A2 w 0) (.inr bH) (pF M O N)).setCell (p:=A2 w 1) (.inr bH) (I_ (x+1)));have HPF:=lH ((ar.o.keepsS (Aa.drew (Aa.refl [w.heap.size+1+1] wc) |>.setCell (p:=A2 w 0) (.inl bA) (pF M O N) |>.setCell (p:=A2 w 1) (.inl bA) (I_ (x+1))) (fun k hk=>by simp at hk;subst hk;exact⟨_,B.o,by decide,by decide⟩)));clear hw1;go_wp2_with fail;refine wp_region_held_drew (S:=(fun w':World=>w'.cell? (A_ w 1)=some (I_ x))) bC lK (fun hHeld=>?_);refine rQ 0 ?_;refine rQ 1 ?_;refine rQ 2 ?_;refine rQ 3 ?_;refine rQ 4 ?_;refine rQ 5 ?_;refine rQ 6 ?_;refine rC 7 fun K hK=>?_;go_simp;refine rO hK lK fun hHeld=>?_;clear hK K;refine rQ 8 ?_;refine rQ 9 ?_;refine wpAnyH_done bC ?_ _
   (go_wp2;refine bodyPost_ret (v:=.tuple #[pH #[pF M O N,I_ (x+1)],I_ x,I_ 0]) (by have q0:_=some (pF M O N):=HBF.o.1.cell 0;have q1:_=some (pE .i64 (x+1)):=HBF.o.2.cell 1;simp [results,results166,go_sem,q0,q1]) rfl ?_;exact⟨M,O,N,V9,rfl,au.o,HPF.o,HKF.o,aq.o⟩)
 ·have bx:((k:Int)==3)=false:=by simp;omega
  have ae:Hi (Da w4 w2 (pF a1 k c1) F):=lH hs1;have HM4:Hi (Mt w4 F (JO p.l now)):=lH (by unfold JO;rw [<- ak.o.len,HKF.o,if_neg hk3];exact ak.o);have aj:=a4;have Y:Hi (F.length<=1000):=lH (by rw [HKF.o];omega);clear hs1 av hk1;go_wp2;have ai:∀w':World,w'.heap[w.heap.size]? = w4.heap[w.heap.size]?->w'.heap[w.heap.size+1]? = w4.heap[w.heap.size+1]?->(w'.cell? (A_ w 1)=some (I_ x)/\w'.cell? (A1 w 0)=some (I_ now)):=fun w' h0 h1=>⟨(BL (a:=A_ w 1) h0).trans pn,(BL (a:=A1 w 0) h1).trans pw⟩;have HSS:=lH ai;clear ai pn pw ab;go_cut [11] (fun v wx=>∃M O N V9,v = pF M O N/\Hi (V9.length=O)/\Hi (BP wx M N V9 ⟨JO p.l now++[⟨x,xs,now⟩],x+1⟩)/\Hi (Aa [] w wx)/\Hi (Blk wx w 32 #[pF a n c,I_ x])/\Hi (Blk wx (w+1+1) 32 #[pF none 0 0,I_ 0])/\Hi (∀z∈V9,SO w z))
  case first=>
   refine wp_region_held_drew (S:=(fun w':World=>w'.cell? (A_ w 1)=some (I_ x)/\w'.cell? (A1 w 0)=some (I_ now))) bC fB (fun hHeld=>?_);refine rQ 0 ?_;refine rQ 1 ?_;refine rQ 2 ?_;refine rQ 3 ?_;refine rQ 5 ?_;refine rC 4 fun K hK=>?_;go_simp
   (first | ((with_reducible refine(Gy ia ic xs m HM.o _ (ad.o.keeps ((Aa.refl [] w4).drew))).mono ?_);rintro e5 w5 ⟨T,c5,rfl,G,hk5,E⟩;have X:Hi (Fr w T m):=lH (E.down HK4.o.size);have HK5:=lH (((Aa.refl [] w4).drew).trans hk5);have aa:=lH G;have hS5:=HSS.o w5 (HK5.o.block _ HB0.o.lt bA) (HK5.o.block _ HB1.o.lt bA);have hS5a:=fun o=>HSS.o (w5.alloc o) ((HK5.o.alloc o).block _ HB0.o.lt bA) ((HK5.o.alloc o).block _ HB1.o.lt bA);clear G hk5 E) | (obtain⟨v9,w9,D,J,hk9⟩:=Da.push ((ae.o.keeps HK5.o).keeps ((Aa.refl [] w5).alloc (.cells (SV.arr (⟨x,T,m,c5,now⟩:SV)) 147))) Y.o iU w5 (⟨x,T,m,c5,now⟩:SV) (Blk.new w5 147 (SV.arr (⟨x,T,m,c5,now⟩:SV))) 30;simp only [SV.arr] at D;refine Cf _ _ 30 bD bD bD bD D ?_;have hS9:=HSS.o w9 ((hk9.low.block _ bP).trans ((HK5.o.alloc _).block _ HB0.o.lt bA)) ((hk9.low.block _ bP).trans ((HK5.o.alloc _).block _ HB1.o.lt bA));have af:=lH J;have HK9:=lH hk9;clear J hk9 D))
   refine rO hK fB fun hHeld=>?_;clear hK K;refine rQ 6 ?_;refine rC 7 fun K hK=>?_;go_simp;refine rO hK fB fun hHeld=>?_;clear hK K;refine rC 8 fun K hK=>?_
   (first | ((with_reducible refine(Gy ia ic xs m HM.o _ (ad.o.keeps ((Aa.refl [] w4).drew))).mono ?_);rintro e5 w5 ⟨T,c5,rfl,G,hk5,E⟩;have X:Hi (Fr w T m):=lH (E.down HK4.o.size);have HK5:=lH (((Aa.refl [] w4).drew).trans hk5);have aa:=lH G;have hS5:=HSS.o w5 (HK5.o.block _ HB0.o.lt bA) (HK5.o.block _ HB1.o.lt bA);have hS5a:=fun o=>HSS.o (w5.alloc o) ((HK5.o.alloc o).block _ HB0.o.lt bA) ((HK5.o.alloc o).block _ HB1.o.lt bA);clear G hk5 E) | (obtain⟨v9,w9,D,J,hk9⟩:=Da.push ((ae.o.keeps HK5.o).keeps ((Aa.refl [] w5).alloc (.cells (SV.arr (⟨x,T,m,c5,now⟩:SV)) 147))) Y.o iU w5 (⟨x,T,m,c5,now⟩:SV) (Blk.new w5 147 (SV.arr (⟨x,T,m,c5,now⟩:SV))) 30;simp only [SV.arr] at D;refine Cf _ _ 30 bD bD bD bD D ?_;have hS9:=HSS.o w9 ((hk9.low.block _ bP).trans ((HK5.o.alloc _).block _ HB0.o.lt bA)) ((hk9.low.block _ bP).trans ((HK5.o.alloc _).block _ HB1.o.lt bA));have af:=lH J;have HK9:=lH hk9;clear J hk9 D))
   refine rO hK fB fun hHeld=>?_;clear hK K;refine rQ 9 ?_;refine wpAnyH_done bC ?_ _
   (go_wp2_with fail;go_meet;exact Va af.o HK9.o (HM4.o.keeps (HK5.o.alloc _)) (aa.o.keeps ((Aa.refl [] w5).alloc _)) HM.o Y.o ((HK4.o.trans HK5.o).alloc _) ((HB0.o.keeps HK5.o bA).alloc _) ((HB2.o.keeps HK5.o bA).alloc _) HSZ.o iU aj.o X.o)
  case rest=>
   obtain⟨M,O,N,V9,rfl,au,ar,HK9,U,B,aq⟩:=hcut;have pn:wc.cell? (A_ w 1)=some (I_ x):=U.o.cell 1;have q0:wc.cell? (A2 w 0)=some (pF none 0 0):=B.o.cell 0;have q1:wc.cell? (A2 w 1)=some (I_ 0):=B.o.cell 1;have f0:=B.o.frozen 0;have f1:=B.o.frozen 1;have bv:IntKind.i64.wrap (x+1)=x+1:=IntWalk.i64_in _ bB;have hw1:∀u v,((wc.drew.setCell (A2 w 0) u).setCell (A2 w 1) v).cell? (A_ w 1)=some (I_ x):=fun u v=>(((U.o.drew).far (p:=A2 w 0) bH u).far (p:=A2 w 1) bH v).cell 1;have HW1:=lH hw1;have HBF:=lH (Bl (B.o.set_ 0 (pF M O N)) ((B.o.set_ 0 (pF M O N)).set_ 1 (I_ (x+1))));have HKF:=lH ((HK9.o.drew.setCell (p:=A2 w 0) (.inr bH) (pF M O N)).setCell (p:=A2 w 1) (.inr bH) (I_ (x+1)));have HPF:=lH ((ar.o.keepsS (Aa.drew (Aa.refl [w.heap.size+1+1] wc) |>.setCell (p:=A2 w 0) (.inl bA) (pF M O N) |>.setCell (p:=A2 w 1) (.inl bA) (I_ (x+1))) (fun k hk=>by simp at hk;subst hk;exact⟨_,B.o,by decide,by decide⟩)));clear hw1;go_wp2_with fail;refine wp_region_held_drew (S:=(fun w':World=>w'.cell? (A_ w 1)=some (I_ x))) bC lK (fun hHeld=>?_);refine rQ 0 ?_;refine rQ 1 ?_;refine rQ 2 ?_;refine rQ 3 ?_;refine rQ 4 ?_;refine rQ 5 ?_;refine rQ 6 ?_;refine rC 7 fun K hK=>?_;go_simp;refine rO hK lK fun hHeld=>?_;clear hK K;refine rQ 8 ?_;refine rQ 9 ?_;refine wpAnyH_done bC ?_ _
   (go_wp2;refine bodyPost_ret (v:=.tuple #[pH #[pF M O N,I_ (x+1)],I_ x,I_ 0]) (by have q0:_=some (pF M O N):=HBF.o.1.cell 0;have q1:_=some (pE .i64 (x+1)):=HBF.o.2.cell 1;simp [results,results166,go_sem,q0,q1]) rfl ?_;exact⟨M,O,N,V9,rfl,au.o,HPF.o,HKF.o,aq.o⟩)
end
section
open Go.RowKit Go.Shelf
attribute [local go_sem] pN
attribute [local go_sem ↓] wp_at_zero wp_at_succ
theorem iC(a:Option Addr)(c:Nat)(V:List SV)(p:Po)(n:Nat)(hn:V.length=n)(B:Option Addr)(D m:Nat)(xs:List ByteArray)(hm:xs.length=m)(now:Int)(w:World)(hP:BP w a c V p)(hI:Cy w B D xs)(e:Nat->Addr)(he:M1 w e)
 (q:Po)(cur err:Int)(hA:IV p xs now=(q,cur,err)):
  Calls prog 166 #[pH #[pF a n c,I_ p.next],pF B m D,I_ now] w (OA w q cur err):=by
 cases hc:(Db p now&&Dd xs&&decide (p.next<1000000000000)) with
 | false=>
  rw [Zj hc] at hA;cases hA;exact(dK a c V p n hn B D m xs hm now w hP hI e he hc).mono fun _ _ h=>h.fresh0
 | true=>
  rw [dJ hc] at hA;cases hA;simp only [Af,decide_eq_true_eq] at hc;exact dL a c V p n hn B D m xs hm now w hP hI e he hc.1.1 hc.1.2 hc.2
def Jk(p:Po)(cursor from_ n now:Int):Int×Option Nat:=
 if Db p now then(if n<1\/10<n then(0,some 1) else match CN (Ga cursor from_ now) p.l with
  | none=>(0,some 2)
  | some i=>(i,none)) else(0,some 0)
theorem Nd{f:Sn->Bool}: ∀ {l:List Sn} (s:Sn),CN f l=none->CN f (l++[s])=if f s then some l.length else none
 | [],s,_=>by simp only [BH,CN];split<;>rfl
 | x::l,s,h=>by
  unfold CN at h;split at h
  ·cases h
  ·rename_i hx
   have h2:CN f l=none:=by
    cases hf:CN f l with
    | none=>rfl
    | some i=>rw [hf] at h;cases h
   rw [AL,CN,if_neg hx,Nd s h2];split<;>rfl
theorem OW{f:Sn->Bool}{k:Nat}: ∀ {l:List Sn} (m:List Sn),CN f l=some k->CN f (l++m)=some k
 | [],_,h=>by cases h
 | x::l,m,h=>by
  unfold CN at h;rw [AL,CN];split at h
  ·rename_i hx;rw [if_pos hx];exact h
  ·rename_i hx
   rw [if_neg hx];cases hf:CN f l with
   | none=>rw [hf] at h;cases h
   | some i=>
    rw [hf] at h;rw [OW m hf];exact h
theorem Nf{f:Sn->Bool}{L:List Sn}{k:Nat}{s:Sn}(h:L[k]? = some s)(hn:CN f (L.take k)=none):CN f (L.take (k+1))=if f s then some k else none:=by
 rw [DS h,Nd s hn];have:(L.take k).length=k:=by rw [Ax];have:=(Ad.1 h).1;omega
 rw [this]
theorem Wd{f:Sn->Bool}{L:List Sn}{k:Nat}{s:Sn}(h:L[k]? = some s)(hn:CN f (L.take k)=none)(hf:f s=true):CN f L=some k:=by
 have:=Nf h hn;rw [if_pos hf] at this;have h2:=OW (L.drop (k+1)) this
 rwa [Dn] at h2
structure LR(w A:World)(a:Option Addr)(n c:Nat)(x cursor from_ now:Int):Prop where
 b0:Blk A w.heap.size 32 #[pF a n c,pE pK x]
 b1:Blk A (w.heap.size+1) 3 #[pE pK cursor]
 b2:Blk A (w.heap.size+1+1) 3 #[pE pK from_]
 b3:Blk A (w.heap.size+1+1+1) 3 #[pE pK now]
 b4:Blk A (w.heap.size+1+1+1+1) 3 #[pE pK 0]
 b5:Blk A (w.heap.size+1+1+1+1+1) 95 #[.nilIface]
theorem LR.keeps{w A A':World}{a:Option Addr}{n c:Nat}{x cursor from_ now:Int}(h:LR w A a n c x cursor from_ now)(hk:Aa [] A A'):LR w A' a n c x cursor from_ now:=
 ⟨h.b0.keeps hk bA,h.b1.keeps hk bA,h.b2.keeps hk bA,h.b3.keeps hk bA,h.b4.keeps hk bA,h.b5.keeps hk bA⟩
theorem LR.low{B:Nat}{w A A':World}{a:Option Addr}{n c:Nat}{x cursor from_ now:Int}(h:LR w A a n c x cursor from_ now)(hB:w.heap.size+6<=B)(hk:Below B A A'):LR w A' a n c x cursor from_ now:=
 ⟨Df h.b0 bB hk,Df h.b1 bB hk,Df h.b2 bB hk,Df h.b3 bB hk,Df h.b4 bB hk,Df h.b5 bB hk⟩
theorem Wc(w:World)(a:Option Addr)(n c:Nat)(x cursor from_ now:Int):
  LR w ((((((w.alloc (.cells #[pF a n c,I_ x] 32)).alloc (.cells #[pE pK cursor] 3)).alloc (.cells #[pE pK from_] 3)).alloc (.cells #[pE pK now] 3)).alloc (.cells #[pE pK 0] 3)).alloc (.cells #[.nilIface] 95)) a n c x cursor from_ now:=
 ⟨((((((Ar _ _ _ _ rfl).alloc _).alloc _).alloc _).alloc _).alloc _),((((Ar _ _ _ _ bA).alloc _).alloc _).alloc _).alloc _,(((Ar _ _ _ _ bA).alloc _).alloc _).alloc _,((Ar _ _ _ _ bA).alloc _).alloc _,(Ar _ _ _ _ bA).alloc _,Ar _ _ _ _ bA⟩
theorem RC(a:Option Addr)(c:Nat)(V:List SV)(p:Po)(n:Nat)(hn:V.length=n)(cursor from_ num now:Int)(w:World)(hP:BP w a c V p)(e:Nat->Addr)(he:M1 w e)
 (i:Int)(o:Option Nat)(hA:Jk p cursor from_ num now=(i,o)):
  Calls prog 211 #[pH #[pF a n c,pE pK p.next],pE pK cursor,pE pK from_,pE pK num,pE pK now] w fun r w'=>r = pJ (.tuple #[pE pK i,Jj e o])/\Aa [] w w':=by
 refine(callsIn_wide (n:=9)).1 ?_;obtain⟨x,hx⟩:=eX (p.next);obtain⟨y,hy⟩:=eX (Db p now);have ak:=fun W (hk:Aa [] w W)=>L6 a c V p n hn now W (hP.keeps hk) e (he.keep hk) y hy;rw [hx] at ak ⊢;have a7:n<=1000000:=by rw [<- hn];exact hP.small
 have az:=lH ak;have HE:=lH he;have HP:=lH hP;have HN:=lH hn;have HA:=lH hA;have HY:=lH hy;have HB:=lH (Wc w a n c x cursor from_ now);have HK:=lH ((((((Aa.refl [] w).alloc (.cells #[pF a n c,pE pK x] 32)).alloc (.cells #[pE pK cursor] 3)).alloc (.cells #[pE pK from_] 3)).alloc (.cells #[pE pK now] 3)).alloc (.cells #[pE pK 0] 3) |>.alloc (.cells #[.nilIface] 95));clear ak he hP hx hn hA hy;refine callsIn_of_wp_marks func211 rfl trivial ?_ rfl;simp only [ntmps211,Cz,Av,D4,pL,pM,Bt,Bu,Cd,BD,BH,AL];gi_wp2_with (fail);refine⟨trivial,(callsIn_wide.2 (az.o _ HK.o)).mono ?_⟩;rintro r w1 ⟨rfl,hk⟩;have HB:=lH (HB.o.keeps hk);have HK:=lH (HK.o.trans hk);clear hk;have r0:w1.cell? (A4 w 0)=some (pE pK 0):=HB.o.b4.cell 0;have r1:w1.cell? (A5 w 0)=some .nilIface:=HB.o.b5.cell 0;have g0:=HB.o.b4.frozen 0;have g1:=HB.o.b5.frozen 0;have hst:∀u,Hi (Aa [] w ((w1.setCell (A4 w 0) (pE pK 0)).setCell (A5 w 0) u)):=fun u=>lH ((HK.o.setCell (p:=A4 w 0) (.inr bH) (pE pK 0)).setCell (p:=A5 w 0) (.inr bH) u);have HST:=lH hst;clear hst;cases y with
 | false=>
  have hA:=HA.o;unfold Jk at hA;rw [HY.o] at hA;cases hA;unfold Jj;gi_wp2;have q0:_=some (pE .i64 0):=((HB.o.b4.set_ 0 (pE pK 0)).far (p:=A5 w 0) bH (.iface 402 (pG (some (e 0))))).cell 0;have q1:_=some (Value.iface 402 (pG (some (e 0)))):=((HB.o.b5.far (p:=A4 w 0) bH (pE pK 0)).set_ 0 (.iface 402 (pG (some (e 0))))).cell 0;exact⟨.tuple #[pE pK 0,.iface 402 (pG (some (e 0)))],by simp [results,results211,go_sem,q0,q1],rfl,(HST.o _).out⟩
 | true=>
  unfold Jj;have e1:=(HE.o.keep HK.o).c1;have ah:=Be w _ (HE.o.c1);have bg:¬w.heap.size+1+1+1+1=10:=by dsimp only at ah;omega
  have bi:¬w.heap.size+1+1+1+1+1=10:=by dsimp only at ah;omega
  by_cases hnn:num<1\/10<num
  ·have hA:=HA.o
   unfold Jk at hA;rw [HY.o,if_pos rfl,if_pos hnn] at hA;cases hA;rcases(show num<1\/(¬num<1/\10<num) by omega) with h1 | ⟨h1,h2⟩
   all_goals
    clear hnn;gi_wp2;gi_region;gi_wp2;have q0:_=some (pE .i64 0):=(HB.o.b4.set_ 0 (pE pK 0)).cell 0;have q1:_=some (Value.iface 402 (pG (some (e 1)))):=((HB.o.b5.far (p:=A4 w 0) bH (pE pK 0)).set_ 0 (.iface 402 (pG (some (e 1))))).cell 0;exact⟨.tuple #[pE pK 0,.iface 402 (pG (some (e 1)))],by simp [results,results211,go_sem,q0,q1],rfl,(HST.o _).out.drew⟩
  ·have h1:¬num<1:=by omega
   have h2:¬10<num:=by omega
   have hA:=HA.o;unfold Jk at hA;rw [HY.o,if_pos rfl,if_neg hnn] at hA;have HA:=lH hA;have p0:w1.cell? (A_ w 0)=some (pF a n c):=HB.o.b0.cell 0;have p1:w1.cell? (A_ w 1)=some (pE pK x):=HB.o.b0.cell 1;clear hnn hA r0 r1 g0 g1 e1;gi_wp2_with (fail);refine⟨trivial,(callsIn_wide.2 (Hv _ _ _ _ _)).mono ?_⟩;rintro r w2 ⟨rfl,rfl⟩;gi_wp2_with (fail);obtain⟨W0,T⟩:=eX (w1.alloc (.cells #[pF a n c,pE pK x] 170));have an:W0.heap.size=w1.heap.size+1:=by rw [<- T];simp
   have ba:w.heap.size+6<=w1.heap.size:=HB.o.b5.lt;have am:Aa [] w1 W0:=by rw [<- T];exact(Aa.refl [] w1).alloc _
   have aa:Below w w W0:=(HK.o.trans am).below (Aw _) bA;have ab:=HB.o.keeps am;have bp:W0.cell? (A_ w1 0)=some (pF a V.length c):=by
    rw [<- T,HN.o];exact(Blk.new w1 170 _).cell 0
   rw [T];have a3:=lH (LX HY.o);clear T am p0 p1;refine Fn rfl bB (gf:=179) (lb:=#[pG (some (A_ w1 0))]) rfl trivial (enters_of func179 bC rfl) (Hw 8 w1 a c V (by rw [HN.o];exact a7) W0 bp) (Below.refl _ _) (fun _=>rfl)
    (fun F A=>Below w w A/\LR w A a n c x cursor from_ now/\CN (Ga cursor from_ now) (p.l.take F.length)=none)
    (fun _ A=>Below w w A/\∃k:Nat,Blk A (w+1+1+1+1) 3 #[pE pK (k:Int)]/\Blk A (w+1+1+1+1+1) 95 #[.nilIface]/\CN (Ga cursor from_ now) p.l=some k)
    (fun s A A' h hb=>⟨h.1.trans (hb.mono bB),h.2.1.low bB hb,h.2.2⟩)
    (fun s A A' h hb=>by
     obtain⟨h1,k,h2,h3,h4⟩:=h;exact⟨h1.trans (hb.mono bB),k,Df h2 bB hb,Df h3 bB hb,h4⟩)
    (fun s A h=>HP.o.row.keeps (Aa.of_below h.1 [])) ⟨aa,ab,rfl⟩
    (fun x' b=>{ tmps:=#[pH #[pF a n c,pE pK x],pE pK cursor,pE pK from_,pE pK num,pE pK now,pG (some (A_ w 0)),pG (some (A1 w 0)),pG (some (A2 w 0)),UD,pG (some (A3 w 0)),pG (some (A4 w 0)),pG (some (A5 w 0)),.nilIface,pE pK (x'.2:Int),pG (some (A_ b 0)),pH #[pF a n c,pE pK x],pE pK now,.nilIface,.nilIface,pI false,UD,pE pK num,pI (decide (num<1)),pI (decide (num<1)),pE pK num,pI (decide (10<num)),pI (decide (num<1)||decide (10<num)),UD,pH #[pF a n c,pE pK x],pH #[pF a n c,pE pK x],.func (.func 179) #[] #[pG (some (A_ w1 0))],pE pK (x'.2:Int),pH (N_ x'.1),UD,UD,UD,UD,UD,UD,UD,UD,UD,UD,UD,UD,UD,UD,UD,UD,UD,UD,UD,UD,UD,UD,UD,UD],defers:=[] })
    (fun x'=>.cells (N_ x'.1) 147) ?assign ?body ?done ?stop
   case assign=>
    intro l x' W K hK;unfold Mf;gi_wp2;exact hK
   case body=>
    rintro l F x' b W ⟨Y,hF,hI⟩ ag hb av;obtain⟨hk,a6,rfl⟩:=MB ag;obtain⟨k,hkk⟩:=eX (F.length);have hkL:k<p.l.length:=by rw [<- HP.o.mt.len,<- hkk];exact hk
    have ac:=HP.o.mt.get F.length hk lU;obtain⟨y,hy⟩:=eX (V[F.length]);obtain⟨s,hs⟩:=eX (p.l[k]);have hm:Oh w y s:=by
     simp only [hkk] at ac hy;rw [hy,hs] at ac;exact ac
    have hb2:Blk W b 147 (N_ y):=by
     have:=av;simp only [hy] at this;exact this
    simp only [hy];have a1:Hi ((F++[(y,F.length)]).length=k+1):=lH (by rw [Al,hkk];rfl);have HS:Hi (p.l[k]? = some s):=lH kF;have a0:=lH hkk;have HNO:Hi (CN (Ga cursor from_ now) (p.l.take k)=none):=lH (by rw [<- hkk];exact hI);obtain⟨u0,ao⟩:=eX (y.cur);obtain⟨u2,ap⟩:=eX (y.used);obtain⟨il,al⟩:=eX (y.il);have d0:W.cell? (A_ b 0)=some (pE pK u0):=by rw [<- ao];exact hb2.cell 0
    have d1:W.cell? (A_ b 1)=some (pF y.ia il y.ic):=by rw [<- al];exact hb2.cell 1
    have d2:W.cell? (A_ b 2)=some (pE pK u2):=by rw [<- ap];exact hb2.cell 2
    have e1:W.cell? (A1 w 0)=some (pE pK cursor):=hF.b1.cell 0;have e2:W.cell? (A2 w 0)=some (pE pK from_):=hF.b2.cell 0;have e3:W.cell? (A3 w 0)=some (pE pK now):=hF.b3.cell 0;have r0:W.cell? (A4 w 0)=some (pE pK 0):=hF.b4.cell 0;have r1:W.cell? (A5 w 0)=some .nilIface:=hF.b5.cell 0;have g0:=hF.b4.frozen 0;have g1:=hF.b5.frozen 0;have N:Hi (s.cur=u0):=lH (by rw [<- ao];exact hm.1.symm);have O:Hi (s.used=u2):=lH (by rw [<- ap];exact hm.2.1.symm);have X:Hi (s.items.length=il):=lH (by rw [<- al];exact hm.2.2.1.symm);have hwr:IntKind.i64.wrap (now - u2)=now - u2:=by
     obtain⟨a9,⟨n1,n2⟩,_⟩:=a3.o;obtain⟨t1,t2⟩:=a9 s (by rw [<- hs];exact pS _);rw [O.o] at t1 t2;exact IntWalk.i64_in _ bB
    have M:=lH Y;have J:=lH hF;have hs1:w.heap.size+7<=W0.heap.size:=by omega
    clear hs a6 hk ag hkL hy hkk an aa bp ac hm hb2 av Y hF hI ab ao ap al ba;have U:Ga cursor from_ now s=false->CN (Ga cursor from_ now) (p.l.take (F++[(y,F.length)]).length)=none:=fun hh=>by
     rw [a1.o,Nf HS.o HNO.o,if_neg (by rw [hh];simp)]
    have G:=lH U;clear U;by_cases c1:u0=cursor
    ·subst c1
     by_cases c2:now - u2<1000
     ·by_cases c3:0<=from_
      ·by_cases c4:from_<=(il:Int)
       ·have af:Ga u0 from_ now s=true:=by unfold Ga Fs;rw [N.o,O.o,X.o];simp;omega
        have ar:=lH (Wd HS.o HNO.o af);have HKV:Hi (((F.length:Nat):Int)=(k:Int)):=lH (by rw [a0.o]);clear af;gi_wp2;refine⟨(CA.setCell (p:=A4 w 0) bH W _).trans (CA.setCell (p:=A5 w 0) bH _ _),(M.o.setCell (p:=A4 w 0) bH _).setCell (p:=A5 w 0) bH _,k,?_,?_,ar.o⟩
        ·rw [<- HKV.o]
         exact(J.o.b4.set_ 0 _).far (p:=A5 w 0) bH _
        ·exact(J.o.b5.far (p:=A4 w 0) bH _).set_ 0 .nilIface
       ·have B:Ga u0 from_ now s=false:=by unfold Ga Fs;rw [N.o,O.o,X.o];simp;omega
        have E:=lH B;clear B;gi_wp2;exact⟨CA.refl _ _,M.o,J.o,G.o E.o⟩
      ·have B:Ga u0 from_ now s=false:=by unfold Ga Fs;rw [N.o,O.o,X.o];simp;omega
       have E:=lH B;clear B;gi_wp2;exact⟨CA.refl _ _,M.o,J.o,G.o E.o⟩
     ·have B:Ga u0 from_ now s=false:=by unfold Ga Fs;rw [N.o,O.o,X.o];simp;omega
      have E:=lH B;clear B;gi_wp2;exact⟨CA.refl _ _,M.o,J.o,G.o E.o⟩
    ·have B:Ga cursor from_ now s=false:=by unfold Ga;rw [N.o];simp [c1]
     have E:=lH B;have bs:(u0==cursor)=false:=by simp [c1]
     clear B c1;gi_wp2;exact⟨CA.refl _ _,M.o,J.o,G.o E.o⟩
   case done=>
    rintro D W hD ⟨Y,hF,hI⟩ hK;have a5:w.heap.size+7<=D:=by omega
    have hA:=HA.o;rw [Ak (by rw [List.length_zipIdx,HP.o.mt.len];exact Aw _)] at hI;rw [hI] at hA;cases hA;have e2:=(HE.o.keep (Aa.of_below Y [])).c2;have ai:=Be w _ (HE.o.c2);have bh:¬w.heap.size+1+1+1+1=11:=by dsimp only at ai;omega
    have bj:¬w.heap.size+1+1+1+1+1=11:=by dsimp only at ai;omega
    have r0:W.cell? (A4 w 0)=some (pE pK 0):=hF.b4.cell 0;have r1:W.cell? (A5 w 0)=some .nilIface:=hF.b5.cell 0;have g0:=hF.b4.frozen 0;have g1:=hF.b5.frozen 0;have HB:=lH Y;have HF:=lH hF;have au:∀u,((W.drew.setCell (A4 w 0) (pE pK 0)).setCell (A5 w 0) u).heap[D]? = some (.deferred (some [])):=fun u=>by
     rw [Below.heap_setCell _ _ _ _ bH,Below.heap_setCell _ _ _ _ bH];exact hK
    have HKD:=lH au;clear Y hF hI an aa bp ab hK au;gi_wp2;gi_region;gi_wp2;refine⟨by simp,.inl ⟨_,_,rfl,run_takeDeferred (HKD.o _),?_⟩⟩;have q0:=DZ (((HF.o.b4.set_ 0 (pE pK 0)).far (p:=A5 w 0) bH (.iface 402 (pG (some (e 2))))).drew) (D:=D) bB;have q1:=DZ (((HF.o.b5.far (p:=A4 w 0) bH (pE pK 0)).set_ 0 (.iface 402 (pG (some (e 2))))).drew) (D:=D) bB;have q0:_=some (pE .i64 0):=q0;have q1:_=some (Value.iface 402 (pG (some (e 2)))):=q1;refine⟨.tuple #[pE pK 0,.iface 402 (pG (some (e 2)))],by simp [results,results211,go_sem,q0,q1],rfl,Aa.of_below ((((HB.o.setCell (p:=A4 w 0) bH (pE pK 0)).setCell (p:=A5 w 0) bH (.iface 402 (pG (some (e 2))))).drew).trans (belowK_b (n₀:=w.heap.size) (w:=w) (Aw _) _ D _ _ bB (HKD.o _) rfl rfl)) []⟩
   case stop=>
    rintro D F W hD _ ⟨Y,k,b4,b5,hh⟩ hK;have a5:w.heap.size+7<=D:=by omega
    have hA:=HA.o;rw [hh] at hA;cases hA;have HB:=lH Y;clear Y an aa hh bp ab;gi_wp2;refine⟨by simp,.inl ⟨_,_,rfl,run_takeDeferred hK,?_⟩⟩;have q0:=DZ b4 (D:=D) bB;have q1:=DZ b5 (D:=D) bB;refine⟨.tuple #[pE pK (k:Int),.nilIface],by simp [results,results211,go_sem,q0,q1],rfl,Aa.of_below (HB.o.trans (belowK_b (n₀:=w.heap.size) (w:=w) (Aw _) _ D _ _ bB hK rfl rfl)) []⟩
end
section
open Go.RowKit Go.Shelf
attribute [local go_sem ↓] wp_at_zero wp_at_succ
def U4(w:World)(q:Po)(page:List ByteArray)(nx err:Int)(r:Ending)(w':World):Prop:=
 ∃a n c V pa m pc,r = pJ (.tuple #[pH #[pF a n c,pE pK q.next],pF pa m pc,pE pK nx,pE pK err])/\V.length=n/\BP w' a c V q/\page.length=m/\Cy w' pa pc page/\Aa [] w w'
def Lv(w:World)(q:Po)(page:List ByteArray)(nx err:Int)(r:Ending)(w':World):Prop:=
 ∃a n c V pa m pc,r = pJ (.tuple #[pH #[pF a n c,pE pK q.next],pF pa m pc,pE pK nx,pE pK err])/\V.length=n/\BP w' a c V q/\page.length=m/\Cy w' pa pc page/\Aa [] w w'/\(∀z∈V,SO w.heap.size z)/\Fr w.heap.size pa m
theorem Lv.plain{w:World}{q:Po}{page:List ByteArray}{nx err:Int}{r:Ending}{w':World}(h:Lv w q page nx err r w'):U4 w q page nx err r w':=by
 obtain⟨a,n,c,V,pa,m,pc,h1,h2,h3,h4,B,D,_⟩:=h;exact⟨a,n,c,V,pa,m,pc,h1,h2,h3,h4,B,D⟩
theorem U4.fresh0{w:World}{nx err:Int}{r:Ending}{w':World}(h:U4 w Uf [] nx err r w'):Lv w Uf [] nx err r w':=by
 obtain⟨a,n,c,V,pa,m,pc,h1,h2,h3,h4,B,D⟩:=h;obtain rfl:V = []:=Ds h3.mt.len;exact⟨a,n,c,_,pa,m,pc,h1,h2,h3,h4,B,D,(fun z hz=>by cases hz),fun _ _ _ h0=>absurd h0 (by rw [<- h4];exact Nat.lt_irrefl 0)⟩
theorem P4(w:World):Cy w none 0 []:=⟨Aw _,fun h=>absurd rfl h,by simp,by simp,fun _=>rfl⟩
theorem Xe:prog.underlying 64=some (.slice (prog.elem 64)):=bC
theorem Xf(W:World):(sizeOf (prog.elem 64)).run prog W = .ok 1 W:=bC
theorem Uq{w:World}{a:Option Addr}{c:Nat}{xs:List ByteArray}(h:Cy w a c xs)(F T:Nat)(h1:F<=T)(h2:T<=xs.length)(t:Int)(ht:t=T):
  ∃a7,(∀W:World,(AV 64 (pF a xs.length c) (some (I_ (F:Int))) (some (I_ t)) (some (I_ t))).run prog W = .ok (pF a7 (T - F) (T - F)) W)/\Cy w a7 (T - F) ((xs.drop F).take (T - F)):=by
 subst ht;have B:((xs.drop F).take (T - F)).length=T - F:=by rw [Ax,B1];omega
 refine⟨if T=F then a else a.map (·.add (F*1)),fun W=>?_,?_⟩
 ·have M:=h.le
  have J:=run_slice_lhm (P:=prog) W 64 a xs.length c Xe .i64 .i64 .i64 F T T bB bB bB bB;rw [J,Xf];rfl
 ·refine⟨by rw [B];exact Aw _,fun hn=>?_,by rw [B];have:=h.small;omega,fun x hx=>h.size x (List.mem_of_mem_drop (List.mem_of_mem_take hx)),fun he=>?_⟩
  ·have D:¬T=F:=fun e=>hn (Ds (by rw [B];omega))
   obtain⟨g,off,cs,G,rfl,hg,hat⟩:=h.at_ (by rintro rfl;simp at h2;omega);refine⟨g,off+F,cs,G,by rw [if_neg D];simp [FL],hg,fun i hi=>?_⟩;have E:F+i<xs.length:=by rw [B] at hi;omega
   have:=hat (F+i) E;rw [EA,this];simp
  ·by_cases D:T=F
   ·omega
   ·rw [if_neg D] at he
    cases a with
    | none=>
     have hx:xs = []:=Classical.byContradiction fun hn=>by
      obtain⟨g,off,cs,G,e,_⟩:=h.at_ hn;cases e
     subst hx;simp at h2;omega
    | some p=>cases he
theorem N8(a:Option Addr)(c:Nat)(V:List SV)(p:Po)(n:Nat)(hn:V.length=n)(cursor from_ D now:Int)(w:World)(hP:BP w a c V p)(e:Nat->Addr)(he:M1 w e)(i:Int)(k:Nat)(hk3:k<3)(hF:Jk p cursor from_ D now=(i,some k)):
  Calls prog 168 #[pH #[pF a n c,I_ p.next],I_ cursor,I_ from_,I_ D,I_ now] w (U4 w Uf [] 0 (ZQ (some k))):=by
 obtain⟨x,hx⟩:=eX p.next;have B:=fun W (hk:Aa [] w W)=>RC a c V p n hn cursor from_ D now W (hP.keeps hk) e (he.keep hk) i (some k) hF;rw [hx] at B ⊢;obtain⟨q,hq⟩:=eX (ZQ (some k));rw [hq];have E:=lH B;have HE:=lH he;have HQ:=lH hq;have HB1:=lH (Ar (w.alloc (.cells #[pF a n c,I_ x] 32)) 32 #[pF none 0 0,I_ 0] (w+1) bA);have HB0:=lH ((Blk.new w 32 #[pF a n c,I_ x]).alloc (.cells #[pF none 0 0,I_ 0] 32));have HK:=lH (((Aa.refl [] w).alloc (.cells #[pF a n c,I_ x] 32)).alloc (.cells #[pF none 0 0,I_ 0] 32));have F:_=some (pF a n c):=HB0.o.cell 0;have p1:_=some (pE .i64 x):=HB0.o.cell 1;clear B he hP hx hn hF hq;go_enter func168,ntmps168;go_wp2_with fail;refine(E.o _ HK.o).mono ?_;rintro r w1 ⟨rfl,hk⟩;have HB1:=lH (HB1.o.keeps hk bA);have HK:=lH (HK.o.trans hk);clear hk F p1;unfold Jj;go_wp2_with fail;refine(JD (some k) e (fun y hy=>by cases hy;exact hk3) _ (HE.o.keep HK.o) q HQ.o).mono ?_;rintro r w2 ⟨rfl,rfl⟩;have M:=HB1.o.cell 0;have N:=HB1.o.cell 1;have O:=HB1.o.frozen 0;have f1:=HB1.o.frozen 1;have HBF:=lH ((HB1.o.set_ 0 (pF none 0 0)).set_ 1 (I_ 0));have HKF:=lH ((HK.o.setCell (p:=A1 w 0) (.inr bH) (pF none 0 0)).setCell (p:=A1 w 1) (.inr bH) (I_ 0));go_wp2;have G:_=some (pF none 0 0):=HBF.o.cell 0;have J:_=some (pE .i64 0):=HBF.o.cell 1;refine bodyPost_ret (v:=.tuple #[pH #[pF none 0 0,I_ 0],pF none 0 0,I_ 0,I_ q]) (by simp [results,results168,go_sem,G,J]) rfl ?_;exact⟨none,0,0,[],none,0,0,rfl,rfl,JE _,rfl,P4 _,HKF.o⟩
theorem VA{A:World}{b:Nat}{p q r:Value}(h:Blk A b 147 #[p,q,r]):A.cell? (A_ b 0)=some p/\A.cell? (A_ b 1)=some q/\A.cell? (A_ b 2)=some r:=⟨h.cell 0,h.cell 1,h.cell 2⟩
structure Xu(w w5 A:World)(B bx:Nat)(bc pc:Array Value):Prop where
 strk:D7 B w5 A
 box:Blk A bx 147 bc
 pool:Blk A w.heap.size 32 pc
 res:Blk A (w.heap.size+1) 32 #[pF none 0 0,pE pK 0]
 size:B≤A.heap.size
theorem Xu.keeps{w w5 A A':World}{B bx:Nat}{bc pc:Array Value}(h:Xu w w5 A B bx bc pc)(hk:Aa [] A A'):Xu w w5 A' B bx bc pc:=
 ⟨h.strk.trans (D7.of_keeps hk h.size),h.box.keeps hk bA,h.pool.keeps hk bA,h.res.keeps hk bA,A8 h.size hk.size⟩
theorem Xu.step{w w5 A A':World}{B bx g:Nat}{bc pc:Array Value}(h:Xu w w5 A B bx bc pc)(hk:D7 B A A')(hg:Aa [g] A A')(hgb:g≠bx)(hB:w.heap.size+1<B):Xu w w5 A' B bx bc pc:=
 ⟨h.strk.trans hk,h.box.keeps hg (by simpa using Ne.symm hgb),(hk.low.block _ bB).trans h.pool,(hk.low.block _ hB).trans h.res,A8 h.size hk.low.size⟩
theorem Zb{w w5:World}{B E g off n G i:Nat}{bc pc:Array Value}{D:List SV}(h:Xu w w5 w5 B E bc pc)(hs:Da w5 B (pF (some (A_ g off)) n G) D)(hl:D.length<=1000)(hi:i<D.length)(F:g≠E)(J:w.heap.size+1<B)(A:World)(hk:Aa [] w5 A):
  Calls prog 212 #[pF (some (A_ g off)) n G,I_ (i:Int),I_ ((i:Int)+1)] A fun r w'=>∃v',r = pJ v'/\Da w' B v' (D.eraseIdx i)/\Xu w w5 w' B E bc pc/\QB v' = [g]/\Aa [g] A w':=by
 have hA:=h.keeps hk;refine(Yh _ D B hl i hi A hA.size (hs.keeps hk)).mono ?_;rintro r w' ⟨v',rfl,h1,h2,h3,h4⟩;exact⟨v',rfl,h1,hA.step h2 h3 F J,h4,h3⟩
theorem Sg{w w5 A:World}{B E g b:Nat}{bc pc:Array Value}{G:Value}{D:List SV}{x:SV}(h:Xu w w5 A B E bc pc)(hs:Da A B G D)(hr:QB G = [g])(hl:D.length<=1000)(F:g≠E)(M:w.heap.size+1<B)(hb:Blk A b 147 x.arr)(J:TypeId):
  ∃a9 k9 c9 w7,(BI #[30,30] J #[G,pF (some (A_ b 0)) 1 1]).run prog A = .ok (pF a9 k9 c9) w7/\Da w7 B (pF a9 k9 c9) (D++[x])/\(D++[x]).length=k9/\Xu w w5 w7 B E bc pc:=by
 obtain⟨v7,w7,h1,h2,h3,h4⟩:=hs.pushK hl h.size b x hb J;obtain⟨a9,c9,rfl,_,_⟩:=h2.row;rw [hr] at h4;exact⟨a9,_,c9,w7,h1,h2,rfl,h.step h3 h4 F M⟩
theorem Sh{w w5 w7:World}{B T F E:Nat}{bc:Array Value}{D a8:Option Addr}{c8 n c m:Nat}{a:Option Addr}{x now:Int}{J:List SV}{y:SV}{s:Sn}{L:List Sn}{i:Nat}{q:Po}{page:List ByteArray}
 (hs:Da w7 B (pF D F E) (J.eraseIdx i++[⟨y.cur,y.ia,m,y.ic,now⟩]))(hk9:(J.eraseIdx i++[(⟨y.cur,y.ia,m,y.ic,now⟩:SV)]).length=F)(G:Xu w w5 w7 B T bc #[pF a n c,I_ x])(hM:Mt w5 J L)(hl:J.length<=1000)
 (N:Oh w5 y s)(hm:s.items.length=m)(hst:Cy w5 a8 c8 page)(hkw:Aa [] w w5)(hq:(⟨L.eraseIdx i++[{ s with used:=now }],x⟩:Po)=q)(hB:w.heap.size+1<B)(U:T≠w.heap.size)(Y:∀z∈J,SO w z)(aa:Fr w y.ia m):
  ∃a9' k9' c9' V9,Hi (Blk (w7.setCell (A_ w 0) (pF D F E)) w 32 #[.slice a9' k9' c9',I_ x])/\Hi (V9.length=k9')/\Hi (BP (w7.setCell (A_ w 0) (pF D F E)) a9' c9' V9 q)/\Hi (Aa [] w (w7.setCell (A_ w 0) (pF D F E)))/\Hi (Blk (w7.setCell (A_ w 0) (pF D F E)) (w+1) 32 #[pF none 0 0,I_ 0])/\Hi (Blk (w7.setCell (A_ w 0) (pF D F E)) T 147 bc)/\Hi (Cy (w7.setCell (A_ w 0) (pF D F E)) a8 c8 page)/\Hi (∀z∈V9,SO w z):=by
 have M:Aa [w.heap.size] w7 (w7.setCell (A_ w 0) (pF D F E)):=(Aa.refl [w.heap.size] w7).setCell (p:=A_ w 0) (.inl bA) _;have ac:∀k∈[w.heap.size],∃cs,Blk w7 k 32 cs/\32≠9/\32≠147:=fun k hk=>by
  simp at hk;subst hk;exact⟨_,G.pool,by decide,by decide⟩
 have ab:ID w7 [w.heap.size]:=fun k hk cs fz O=>by
  simp at hk;subst hk;have h':w7.heap[w.heap.size]? = some (.cells #[pF a n c,I_ x] 32 (0,0)):=G.pool;rw [h'] at O;injection O with O;injection O with _ h3 _
  exact absurd h3 bE
 obtain⟨a9',c9',hv,X,ad⟩:=hs.row;rw [hk9] at hv;injection hv with e1 _ e3
 subst e1;subst e3;have hP:BP w7 D E (J.eraseIdx i++[(⟨y.cur,y.ia,m,y.ic,now⟩:SV)]) q:=by
  rw [<- hq];refine⟨X,by rw [Al,List.length_eraseIdx,Bp];split<;>omega,ad,?_⟩;exact((hM.erase i).strK G.strk).app ⟨⟨N.1,rfl,hm.symm,N.2.2.2.strK G.strk⟩,trivial⟩
 refine⟨D,F,E,_,lH (G.pool.set_ 0 _),lH hk9,lH (hP.keepsS M ac),lH ?_,lH (G.res.far (p:=A_ w 0) bH _),lH (G.box.far (p:=A_ w 0) U _),lH ((hst.strK G.strk).keepsS M ab),lH (fun z hz=>by
  rcases AQ.1 hz with hz | hz
  ·exact Y z (List.mem_of_mem_eraseIdx hz)
  ·obtain rfl:=Ag.1 hz
   exact aa)⟩
 exact(Aa.of_below ((hkw.below (Aw _) bA).trans (G.strk.low.mono bB)) []).setCell (p:=A_ w 0) (.inr (Aw _)) _
theorem Mt.get?{w:World}{V:List SV}{L:List Sn}(h:Mt w V L){i:Nat}{s:Sn}(hs:L[i]? = some s):∃y,V[i]? = some y/\Oh w y s:=by
 obtain⟨hi,rfl⟩:=Ad.1 hs;have hv:i<V.length:=by rw [h.len];exact hi
 exact⟨V[i],Aq hv,h.get i hv hi⟩
theorem Zf(a : Option Addr)(c : Nat)(V : List SV)(p : Po)(n : Nat)(hn : V.length = n)(cursor : Int)(F K : Nat)(now : Int)(w : World)(hP : BP w a c V p)(e : Nat -> Addr)(he : M1 w e)(i : Nat)(hF : Jk p cursor F K now = ((i : Int), none))(hn3 : n <= 3)(hK : K <= 10)(s : Sn)(hs : p.l[i]? = some s)(hFl : F <= s.items.length)
   (T : Nat)(hT : T = if s.items.length < F + K then s.items.length else F + K):
    Calls prog 168 #[pH #[pF a n c, I_ p.next], I_ cursor, I_ (F : Int), I_ (K : Int), I_ now] w (Lv w ⟨p.l.eraseIdx i ++ [{ s with used := now }], p.next⟩ ((s.items.drop F).take (T - F)) (if T = s.items.length then -1 else (T : Int)) 0) := by
  obtain ⟨q, hq⟩ : ∃ q : Po, ⟨p.l.eraseIdx i ++ [{ s with used := now }], p.next⟩ = q := ⟨_, rfl⟩
  obtain ⟨page, hpg⟩ : ∃ page, (s.items.drop F).take (T - F) = page := ⟨_, rfl⟩
  obtain ⟨nx, hnx⟩ : ∃ nx : Int, (if T = s.items.length then -1 else (T : Int)) = nx := ⟨_, rfl⟩
  rw [hq, hpg, hnx]
  obtain ⟨x, hx⟩ : ∃ x, p.next = x := ⟨_, rfl⟩
  have hcc := fun W (hk : Aa [] w W) => RC a c V p n hn cursor F K now W (hP.keeps hk) e (he.keep hk) i none hF
  have hco := fun W (hk : Aa [] w W) => YZ a c V p.l n hn bB W (hP.row.keeps hk) (hP.mt.keeps hk)
  rw [hx] at hcc hq ⊢
  have HQ := lH hq
  have HNX := lH hnx
  have HCC := lH hcc
  have HCO := lH hco
  have HLN : Hi (p.l.length = n) := lH (by rw [<- hn, hP.mt.len])
  have HSI := lH hs
  have HFL := lH hFl
  have HTT := lH hT
  have HB1 := lH (Ar (w.alloc (.cells #[pF a n c, I_ x] 32)) 32 #[pF none 0 0, I_ 0] (w.heap.size + 1) bA)
  have HB0 := lH ((Blk.new w 32 #[pF a n c, I_ x]).alloc (.cells #[pF none 0 0, I_ 0] 32))
  have HK := lH (((Aa.refl [] w).alloc (.cells #[pF a n c, I_ x] 32)).alloc (.cells #[pF none 0 0, I_ 0] 32))
  have p0 : _ = some (pF a n c) := HB0.o.cell 0
  have p1 : _ = some (pE .i64 x) := HB0.o.cell 1
  clear hcc hco he hP hx hn hF hs hFl hT hq hnx
  go_enter func168, ntmps168
  go_wp2_with fail
  refine (HCC.o _ HK.o).mono ?_
  rintro r w2 ⟨rfl, hk⟩
  have HB0 := lH (HB0.o.keeps hk bA)
  have HB1 := lH (HB1.o.keeps hk bA)
  have HK := lH (HK.o.trans hk)
  clear hk p0 p1
  have p0 : _ = some (pF a n c) := HB0.o.cell 0
  unfold Jj
  go_wp2_with fail
  refine (HCO.o _ HK.o).mono ?_
  rintro r w3 ⟨v0, V0, rfl, hs0, hm0, hb0, hf0⟩
  have HF0 : Hi (∀ z ∈ V0, SO w z) := lH (fun z hz => Fr.down (hf0 z hz) HK.o.size)
  clear hf0
  have hk := Aa.of_below hb0 []
  have HSZ : Hi (w.heap.size + 1 < w2.heap.size) := lH HB1.o.lt
  have HB0 := lH (HB0.o.keeps hk bA)
  have HB1 := lH (HB1.o.keeps hk bA)
  have HK := lH (HK.o.trans hk)
  have HW3 := lH hb0.size
  obtain ⟨y, hy, hm1⟩ := hm0.get? HSI.o
  have hil : i < V0.length := (Ad.1 hy).1
  have hV0 : V0.length = n := by rw [hm0.len, HLN.o]
  obtain ⟨a0, c0, hv0, hc0, hr0⟩ := hs0.row
  obtain ⟨g, off, cs0, fz0, rfl, hgb, hat⟩ := hr0 (by rintro rfl; simp at hil)
  obtain ⟨t0, t1, t2⟩ := hat i hil
  have hyy : V0[i] = y := by
    rw [Aq hil] at hy
    exact Option.some.inj hy
  rw [hyy] at t0 t1 t2
  rw [hV0] at hv0 hc0 hil
  subst hv0
  have j1 : (0 : Int) <= (i : Int) := by omega
  have j2 : (i : Int) < (n : Int) := by omega
  obtain ⟨m, hm⟩ : ∃ m, s.items.length = m := ⟨_, rfl⟩
  have hyl : y.il = m := by rw [hm1.2.2.1, hm]
  rw [hyl] at t1
  have HFY : Hi (Fr w y.ia m) := lH (by rw [<- hyl]; exact HF0.o y (by rw [<- hyy]; exact pS _))
  have HMM := lH hm
  have hFm : F <= m := by rw [<- hm]; exact HFL.o
  have hTd := HTT.o
  rw [hm] at hTd
  have hTm : T <= m := by split at hTd <;> omega
  have hFT : F <= T := by split at hTd <;> omega
  have HS0 := lH hs0
  have HM0 := lH hm0
  have HM1 := lH hm1
  have HIY : Hi (V0[i]? = some y) := lH hy
  have HV0 := lH hV0
  have HGB := lH (show g < w3.heap.size from (Ai.1 hgb).1)
  have hm1000 : m <= 1000000 := by rw [<- hm]; exact hm1.2.2.2.small
  have hwr : IntKind.i64.wrap ((F : Int) + (K : Int)) = (F : Int) + (K : Int) := IntWalk.i64_in _ bB
  have HBX := lH (Blk.new w3 147 #[pE pK y.cur, pF y.ia m y.ic, I_ y.used])
  have HKX := lH ((Aa.refl [] w3).alloc (.cells #[pE pK y.cur, pF y.ia m y.ic, I_ y.used] 147))
  have b0 : _ = some (pE .i64 y.cur) := HBX.o.cell 0
  have b1 : _ = some (pF y.ia m y.ic) := HBX.o.cell 1
  have b2 : _ = some (pE .i64 y.used) := HBX.o.cell 2
  have hwi : IntKind.i64.wrap ((i : Int) + 1) = (i : Int) + 1 := IntWalk.i64_in _ bB
  obtain ⟨t, ht, hcase⟩ : ∃ t : Int, t = T /\ ((T = m /\ t = m /\ (m : Int) < (F : Int) + (K : Int)) \/ (T = F + K /\ t = (F : Int) + (K : Int) /\ ¬ (m : Int) < (F : Int) + (K : Int))) := by
    split at hTd
    · exact ⟨m, by omega, .inl ⟨hTd, rfl, by omega⟩⟩
    · exact ⟨(F : Int) + (K : Int), by omega, .inr ⟨hTd, rfl, by omega⟩⟩
  obtain ⟨a7, hsl, hst7⟩ := Uq hm1.2.2.2 F T hFT (by rw [hm]; exact hTm) t ht
  rw [hm] at hsl
  rw [hpg] at hst7
  have HST7 := lH (hst7.keeps HKX.o)
  have hpl : page.length = T - F := by rw [<- hpg, Ax, B1, hm]; omega
  have HPL := lH hpl
  clear hk hs0 hm0 hb0 p0 hm1 hst7 hy hV0 hgb hat hr0 hyy hm hyl hTd ht hpl hpg
  rcases hcase with ⟨hTe, rfl, hlt⟩ | ⟨hTe, rfl, hlt⟩
  all_goals
    have HTE := lH hTe
    clear hTe
    go_wp2_with fail
    refine (Gy a7 _ _ _ HPL.o _ HST7.o).mono ?_
    rintro r w4 ⟨a8, c8, rfl, hst8, hk4, hfr8⟩
    have HFR8 : Hi (Fr w a8 (T - F)) := lH (hfr8.down (HK.o.trans HKX.o).size)
    clear hfr8
    have hb4 := HBX.o.keeps hk4 bA
    have b2 : w4.cell? ⟨w3, 2, none⟩ = some (I_ y.used) := hb4.cell 2
    have f2 := hb4.frozen 2
    have hb5 : Blk (w4.setCell ⟨w3, 2, none⟩ (I_ now)) w3 147 #[pE pK y.cur, pF y.ia m y.ic, I_ now] := hb4.set_ 2 (I_ now)
    have hk35 : Aa [] w3 (w4.setCell ⟨w3, 2, none⟩ (I_ now)) := (HKX.o.trans hk4).setCell (p := ⟨w3, 2, none⟩) (.inr (Aw _)) (I_ now)
    have hst5 : Cy (w4.setCell ⟨w3, 2, none⟩ (I_ now)) a8 c8 page := hst8.keepsS (Aa.setCell (S := [w3.heap.size]) (Aa.refl _ w4) (p := ⟨w3, 2, none⟩) (.inl bA) (I_ now)) (fun k hk cs fz h => by
      simp at hk; subst hk
      have h' : w4.heap[w3.heap.size]? = some (.cells #[pE pK y.cur, pF y.ia m y.ic, I_ y.used] 147 (0, 0)) := hb4
      rw [h'] at h
      injection h with h; injection h with _ h3 _
      exact absurd h3 bE)
    go_wp2_with fail
    clear b0 b1 b2 f2 hb4
    obtain ⟨w5, hw5⟩ : ∃ w5, w4.setCell ⟨w3, 2, none⟩ (I_ now) = w5 := ⟨_, rfl⟩
    rw [hw5] at hb5 hk35 hst5 ⊢
    have HB5 := lH hb5
    have HK5 := lH hk35
    have HP8 := lH hst5
    have HS5 := lH (HS0.o.keeps hk35)
    have HSZ5 : Hi (w2.heap.size <= w5.drew.heap.size) := lH (A8 HW3.o hk35.size)
    have HBP := lH (HB0.o.keeps hk35 bA)
    have HBR := lH (HB1.o.keeps hk35 bA)
    have HKW := lH (HK.o.trans hk35)
    clear hw5 hb5 hk35 hst5 hst8 hk4
    have HM5 := lH (HM0.o.keeps HK5.o)
    have HM15 := lH (HM1.o.keeps HK5.o)
    have HVL : Hi (V0.length <= 1000) := lH (by rw [HV0.o]; omega)
    have HEL : Hi ((V0.eraseIdx i).length <= 1000) := lH (by rw [List.length_eraseIdx]; have := HVL.o; split <;> omega)
    have HGX : Hi (g ≠ w3) := lH (by have := HGB.o; omega)
    have HBN : Hi (w3.heap.size ≠ w) := lH (by have := HSZ.o; have := HW3.o; omega)
    have HG5 : Hi (w5.heap.size ∉ [g]) := lH (by simp; have := HGB.o; have := HK5.o.size; omega)
    have hst6 : Xu w w5 w5 w2 w3 #[pE pK y.cur, pF y.ia m y.ic, I_ now] #[pF a n c, I_ x] := ⟨D7.refl _ _, HB5.o, HBP.o, HBR.o, HSZ5.o⟩
    have HDEL := lH (Zb hst6 HS5.o HVL.o (by rw [HV0.o]; exact hil) HGX.o HSZ.o)
    clear hst6
    go_cut [64] (fun _ wx => ∃ a9 k9 c9 V9, Hi (Blk wx w 32 #[pF a9 k9 c9, I_ x]) /\ Hi (V9.length = k9) /\ Hi (BP wx a9 c9 V9 q) /\ Hi (Aa [] w wx) /\ Hi (Blk wx (w.heap.size + 1) 32 #[pF none 0 0, I_ 0]) /\ Hi (Blk wx w3 147 #[pE pK y.cur, pF y.ia m y.ic, I_ now]) /\ Hi (Cy wx a8 c8 page) /\ Hi (∀ z ∈ V9, SO w z))
    case first =>
      refine wp_region_held_drew (S := (fun w' : World => w'.cell? ⟨w3, 0, none⟩ = some (I_ y.cur) /\ w'.cell? ⟨w3, 1, none⟩ = some (pF y.ia m y.ic) /\ w'.cell? ⟨w3, 2, none⟩ = some (I_ now))) bC bW (fun hHeld => ?_)
      refine rQ 0 ?_
      refine rQ 1 ?_
      refine rQ 2 ?_
      refine rQ 3 ?_
      refine rQ 5 ?_
      refine wpAnyH_ready (rs := [4, 6]) bC bA ?_
      refine AllReadyH.cons rfl (fun K hK => ?_) ?_
      · go_simp
        ((with_reducible refine (HDEL.o _ (by first | exact (Aa.refl [] w5).drew | exact ((Aa.refl [] w5).alloc _).drew)).mono ?_); rintro e6 w6 ⟨v6, rfl, hs6, h6, hr6, hkr6⟩; have HS6 := lH hs6; have H6 := lH h6; have HR6 := lH hr6; have HKR6 := lH hkr6; clear hs6 h6 hr6 hkr6)
        refine rO hK bW fun hHeld => ?_; clear hK K
        refine rC 6 fun K hK => ?_
        go_simp
        refine rO hK bW fun hHeld => ?_; clear hK K
        refine rC 7 fun K hK => ?_
        (obtain ⟨a9, k9, c9, w7, hrun, hs7, hk9, h7⟩ := Sg (x := (⟨y.cur, y.ia, m, y.ic, now⟩ : SV)) (H6.o.keeps ((Aa.refl [] w6).alloc (.cells (SV.arr (⟨y.cur, y.ia, m, y.ic, now⟩ : SV)) 147))) (HS6.o.keeps ((Aa.refl [] w6).alloc (.cells (SV.arr (⟨y.cur, y.ia, m, y.ic, now⟩ : SV)) 147))) HR6.o HEL.o HGX.o HSZ.o (Blk.new w6 147 (SV.arr (⟨y.cur, y.ia, m, y.ic, now⟩ : SV))) 30; (try simp only [SV.arr] at hrun); refine Cf _ _ 30 bD bD bD bD hrun ?_; have HS7 := lH hs7; have H7 := lH h7; have HL7 := lH hk9; have c7 : w7.cell? ⟨w, 0, none⟩ = some (pF a n c) := h7.pool.cell 0; have f7 := h7.pool.frozen 0; clear hs7 h7 hk9 hrun)
        refine rO hK bW fun hHeld => ?_; clear hK K
        refine rQ 8 ?_
        refine rC 9 fun K hK => ?_
        go_simp
        refine rO hK bW fun hHeld => ?_; clear hK K
        refine wpAnyH_done bC ?_ _
        (go_wp2_with fail; go_meet; exact Sh HS7.o HL7.o H7.o HM5.o HVL.o HM15.o HMM.o HP8.o HKW.o HQ.o HSZ.o HBN.o HF0.o HFY.o)
      refine AllReadyH.cons rfl (fun K hK => ?_) ?_
      · go_simp
        refine rO hK bW fun hHeld => ?_; clear hK K
        refine rC 4 fun K hK => ?_
        go_simp
        ((with_reducible refine (HDEL.o _ (by first | exact (Aa.refl [] w5).drew | exact ((Aa.refl [] w5).alloc _).drew)).mono ?_); rintro e6 w6 ⟨v6, rfl, hs6, h6, hr6, hkr6⟩; have HS6 := lH hs6; have H6 := lH h6; have HR6 := lH hr6; have HKR6 := lH hkr6; clear hs6 h6 hr6 hkr6)
        refine rO hK bW fun hHeld => ?_; clear hK K
        refine rC 7 fun K hK => ?_
        (obtain ⟨a9, k9, c9, w7, hrun, hs7, hk9, h7⟩ := Sg (x := (⟨y.cur, y.ia, m, y.ic, now⟩ : SV)) H6.o HS6.o HR6.o HEL.o HGX.o HSZ.o (Blk.keeps (Blk.drew (Blk.new w5 147 (SV.arr (⟨y.cur, y.ia, m, y.ic, now⟩ : SV)))) HKR6.o HG5.o) 30; (try simp only [SV.arr] at hrun); refine Cf _ _ 30 bD bD bD bD hrun ?_; have HS7 := lH hs7; have H7 := lH h7; have HL7 := lH hk9; have c7 : w7.cell? ⟨w, 0, none⟩ = some (pF a n c) := h7.pool.cell 0; have f7 := h7.pool.frozen 0; clear hs7 h7 hk9 hrun)
        refine rO hK bW fun hHeld => ?_; clear hK K
        refine rQ 8 ?_
        refine rC 9 fun K hK => ?_
        go_simp
        refine rO hK bW fun hHeld => ?_; clear hK K
        refine wpAnyH_done bC ?_ _
        (go_wp2_with fail; go_meet; exact Sh HS7.o HL7.o H7.o HM5.o HVL.o HM15.o HMM.o HP8.o HKW.o HQ.o HSZ.o HBN.o HF0.o HFY.o)
      exact AllReadyH.nil
    case rest =>
      obtain ⟨a9, k9, c9, V9, HBP9, HV9, HP9, HK9, HBR9, HBX9, HST9, HF9⟩ := hcut
      have x1 : wc.cell? ⟨w3, 1, none⟩ = some (pF y.ia m y.ic) := HBX9.o.cell 1
      have z0 : wc.cell? ⟨w, 0, none⟩ = some (pF a9 k9 c9) := HBP9.o.cell 0
      have z1 : wc.cell? ⟨w, 1, none⟩ = some (I_ x) := HBP9.o.cell 1
      have r0 : wc.cell? ⟨w.heap.size + 1, 0, none⟩ = some (pF none 0 0) := HBR9.o.cell 0
      have r1 : wc.cell? ⟨w.heap.size + 1, 1, none⟩ = some (I_ 0) := HBR9.o.cell 1
      have g0 := HBR9.o.frozen 0
      have g1 := HBR9.o.frozen 1
      have hks : Aa [w.heap.size + 1] wc ((wc.setCell ⟨w.heap.size + 1, 0, none⟩ (pF a9 k9 c9)).setCell ⟨w.heap.size + 1, 1, none⟩ (I_ x)) := ((Aa.refl _ wc).setCell (p := ⟨w.heap.size + 1, 0, none⟩) (.inl bA) _).setCell (p := ⟨w.heap.size + 1, 1, none⟩) (.inl bA) _
      have HPF := lH (HP9.o.keepsS hks (fun k hk => by simp at hk; subst hk; exact ⟨_, HBR9.o, by decide, by decide⟩))
      have HSF := lH (HST9.o.keepsS hks (fun k hk cs fz hh => by
        simp at hk; subst hk
        have h' : wc.heap[w.heap.size + 1]? = some (.cells #[pF none 0 0, I_ 0] 32 (0, 0)) := HBR9.o
        rw [h'] at hh
        injection hh with hh; injection hh with _ h3 _
        exact absurd h3 bE))
      have HKF := lH ((HK9.o.setCell (p := ⟨w.heap.size + 1, 0, none⟩) (.inr (by dsimp only; omega)) (pF a9 k9 c9)).setCell (p := ⟨w.heap.size + 1, 1, none⟩) (.inr (by dsimp only; omega)) (I_ x))
      have HBF := lH ((HBR9.o.set_ 0 (pF a9 k9 c9)).set_ 1 (I_ x))
      have HQN : Hi (x = q.next) := lH (by rw [<- HQ.o])
      clear hks
      by_cases hTm2 : T = m
      · have HNX1 : Hi (nx = -1) := lH (by rw [<- HNX.o, if_pos (by rw [HMM.o]; exact hTm2)])
        try have hcmp : ((F : Int) + (K : Int) == (m : Int)) = true := by have := HTE.o; simp; omega
        clear hTm2
        go_wp2
        have q0 : _ = some (pF a9 k9 c9) := HBF.o.cell 0
        have q1 : _ = some (pE .i64 x) := HBF.o.cell 1
        refine bodyPost_ret (v := .tuple #[pH #[pF a9 k9 c9, I_ x], pF a8 (T - F) c8, I_ (-1), I_ 0]) (by simp [results, results168, go_sem, q0, q1]) rfl ?_
        exact ⟨a9, k9, c9, V9, a8, T - F, c8, by rw [<- HQN.o, HNX1.o], HV9.o, HPF.o, HPL.o, HSF.o, HKF.o, HF9.o, HFR8.o⟩
      · first
          | exact absurd HTE.o hTm2
          | (have HNX1 : Hi (nx = (F : Int) + (K : Int)) := lH (by rw [<- HNX.o, if_neg (by rw [HMM.o]; exact hTm2)]; have := HTE.o; omega)
             have hcmp : ((F : Int) + (K : Int) == (m : Int)) = false := by have := HTE.o; simp; omega
             clear hTm2
             go_wp2
             have q0 : _ = some (pF a9 k9 c9) := HBF.o.cell 0
             have q1 : _ = some (pE .i64 x) := HBF.o.cell 1
             refine bodyPost_ret (v := .tuple #[pH #[pF a9 k9 c9, I_ x], pF a8 (T - F) c8, I_ ((F : Int) + (K : Int)), I_ 0]) (by simp [results, results168, go_sem, q0, q1]) rfl ?_
             exact ⟨a9, k9, c9, V9, a8, T - F, c8, by rw [<- HQN.o, HNX1.o], HV9.o, HPF.o, HPL.o, HSF.o, HKF.o, HF9.o, HFR8.o⟩)
def MT(x:ByteArray):ByteArray:=x.extract 0 (min x.size 65)
def EN(xs:List ByteArray):List ByteArray:=(xs.take 66).map MT
theorem OO(x:ByteArray):(MT x).size<=65:=by unfold MT;simp;omega
theorem Ou(xs:List ByteArray):∀x∈EN xs,x.size<=65:=fun x hx=>by
 obtain⟨y,_,rfl⟩:=BO.1 hx;exact OO y
theorem PU(xs:List ByteArray):(EN xs).length<=66:=by simp [EN];omega
theorem Xc(A:World)(b:Nat)(y:ByteArray)(hy:y.size<=maxLen)(h:Blk A b 9 #[Dz y]):Cy A (some (A_ b 0)) 1 [y]:=
 ⟨Aw _,fun _=>⟨b,0,#[Dz y],(0,0),rfl,h,fun i hi=>by
  obtain rfl:i=0:=by simpa using hi
  exact h.cell 0⟩,by simp,by simpa using hy,fun e=>by cases e⟩
theorem Wo{w wr w9:World}{v:Value}{n:Nat}{xs:List Value}{cs:Array Value}(B:Below w w wr)(hR:wr.ownsRow w 9 1 v n xs)(hg:((wr.alloc (.cells cs 9)).drew).grownBy w9 v.ownBlock):Below w w w9:=
 ((B.alloc B.size _).drew).grown hg (by have:=B.size;simp;omega) (fun j ej=>by
  rcases hR.2 with⟨rfl,_⟩ | ⟨g',cap,cur,rfl,hb,_,_⟩
  ·simp [EZ] at ej
  ·obtain rfl:g'=j:=by simpa [EZ] using ej
   exact hb)
theorem TH{w wr w9:World}{v:Value}{n g o:Nat}{xs:List Value}{cs:Array Value}(hR:wr.ownsRow w 9 1 v n xs)(hg:((wr.alloc (.cells cs 9)).drew).grownBy w9 v.ownBlock)(hl:g<wr.heap.size)(B:g<w.heap.size):w9.cell? (A_ g o)=wr.cell? (A_ g o):=by
 have h1:=hg.block g bG (fun e=>by
  rcases hR.2 with⟨rfl,_⟩ | ⟨g',cap,cur,rfl,hb,_,_⟩
  ·simp [EZ] at e
  ·obtain rfl:g=g':=by simpa [EZ] using e
   omega)
 exact BL (a:=A_ g o) (h1.trans (Below.heap_alloc wr _ g hl))
theorem TI(w:World)(g off c:Nat)(xs:List ByteArray)(hx:ST w g off xs)(hg:g<w.heap.size)(ae:xs.length<=9223372036854775807)(hs:∀x∈xs,x.size<=maxLen):
  Calls prog 63 #[pF (some (A_ g off)) xs.length c] w fun e w'=>∃v,e = pJ v/\w'.ownsRow w 9 1 v (EN xs).length ((EN xs).map Dz)/\Below w w w':=by
 have HX:=lH hx;have HS:=lH hs;clear hx hs;go_enter func63,ntmps63;go_wp2;go_loopw [3,4] (fun v i wr=>∃k:Nat,k<=min xs.length 66/\i = I_ k/\Hi (wr.ownsRow w 9 1 v ((xs.take k).map MT).length (((xs.take k).map MT).map Dz))/\Hi (Below w w wr)) (fun _ i _=>66 - (intOf i).toNat)
 case atStart=>exact⟨0,Ba _,rfl,lH (BQ _ _ _ _),lH (Below.refl _ _)⟩
 case round=>
  obtain⟨k,hk,rfl,HR,HB⟩:=hrel;by_cases hlt:k<xs.length/\k<66
  ·obtain⟨h1,h2⟩:=hlt
   obtain⟨x,hx⟩:=eX (xs[k]);have hc:=HX.o k h1;rw [hx] at hc;have hsz:x.size<=maxLen:=HS.o x kG;unfold maxLen at hsz;rw [<- HB.o.cell (by exact hg)] at hc;have i1:(0:Int)<=(k:Int):=bB;have i2:(k:Int)<(xs.length:Int):=bB;have i3:(k:Int)<66:=bB;have Y:Hi (w.heap.size<=wr.heap.size):=lH HB.o.size;have HGW:Hi (g<wr.heap.size):=lH (by have:=HB.o.size;omega);have aa:Hi (xs[k]? = some x):=lH (by rw [Aq h1,hx]);have J:∀(j:Nat) (W:World),j<=x.size->(AV 9 (Dz x) none (some (I_ (j:Int))) none).run prog W = .ok (Dz (x.extract 0 j)) W:=fun j W hj=>by
    have:=run_slice_string_h (P:=prog) (w:=W) (t:=9) (s:=x) underlying9 .i64 (j:Int) bB bB;simpa using this
   obtain⟨y,hy⟩:=eX (MT x);have ab:Hi (y.size<=maxLen):=lH (by have:=OO x;rw [hy] at this;unfold maxLen;omega);have X:Hi ((xs.take (k+1)).map MT=(xs.take k).map MT++[y]):=lH (by rw [DS aa.o,pO,List.map_singleton,hy]);have HCA:=lH hc;clear hx;rcases pP 65 x.size with hz | hz
   have U:∀W:World,(AV 9 (Dz x) none (some (I_ (65:Int))) none).run prog W = .ok (Dz y) W:=fun W=>by
    have:=J 65 W bB;rw [<- hy];unfold MT;rw [Nat.min_eq_right bB];exact this
   have ad:(65:Int)<(x.size:Int):=bB;rotate_left;have U:∀W:World,(AV 9 (Dz x) none (some (I_ (x.size:Int))) none).run prog W = .ok (Dz y) W:=fun W=>by
    have:=J x.size W bB;rw [<- hy];unfold MT;rw [DE bB];exact this
   have ad:¬(65:Int)<(x.size:Int):=bB;rotate_right
   all_goals
    clear J hy;go_wp2_with fail;try have ag:(if(65:Int)<(x.size:Int) then(65:Int) else(x.size:Int))=(x.size:Int):=by rw [if_neg bB]
    refine wp_region_held_drew (S:=(fun w':World=>w'.cell? (A_ g (off+k))=some (Dz x))) bC nU (fun hHeld=>?_);refine rQ 0 ?_;refine rQ 1 ?_;refine rQ 2 ?_;refine rQ 3 ?_;refine rQ 4 ?_;refine rQ 5 ?_;refine rQ 6 ?_;refine rQ 7 ?_;refine rQ 8 ?_;refine rQ 9 ?_;refine rQ 10 ?_;refine rQ 11 ?_;refine rC 12 fun K hK=>?_;go_simp;refine rO hK nU fun hHeld=>?_;clear hK K;refine rC 13 fun K hK=>?_
    (obtain⟨v9,w9,B,E,F⟩:=QP (W:=(wr.alloc (.cells #[Dz y] 9)).drew) (xs:=[y]) ((HR.o.alloc _).drew) (by have:=Y.o;simp;omega) (Xc _ wr y ab.o (Blk.drew (Blk.new wr 9 #[Dz y]))) bG 64;simp only [Bp] at B;refine Cf _ _ 64 bD bD bD bD B ?_;have D:=Wo HB.o HR.o F;have HC9:=lH (show w9.cell? (A_ g (off+k))=some (Dz x) from(TH HR.o F HGW.o (by have:=hg;omega)).trans HCA.o);have N:=lH E;have M:=lH D;clear E F B D)
    refine rO hK nU fun hHeld=>?_;clear hK K;refine rQ 14 ?_;refine wpAnyH_done bC ?_ _
    (go_wp2;go_roundw;(case rel=>exact⟨k+1,by omega,by go_num,lH (by rw [X.o];exact N.o),M⟩);(case measure=>(simp [intOf];omega)))
  ·have hk2:k=min xs.length 66:=bB;have T:EN xs=(xs.take k).map MT:=by
    unfold EN;rw [hk2,Nat.min_comm,<- List.take_eq_take_min]
   have G:=HR.o;rw [<- T] at G;have O:=lH G;clear G T hk2;rcases pP k xs.length with h1 | h1
   ·have h2:(66:Int)<=(k:Int):=bB;clear hlt;go_wp2;go_ret;exact⟨_,rfl,O.o,HB.o⟩
   ·have h2:(xs.length:Int)<=(k:Int):=bB;clear hlt;go_wp2;go_ret;exact⟨_,rfl,O.o,HB.o⟩
structure J5(w:World)(a:Option Addr)(xs:List ByteArray):Prop where
 size:∀x∈xs,x.size≤maxLen
 small:xs.length≤9223372036854775807
 at_:0<xs.length→∃g off,a=some ⟨g,off,none⟩∧g<w.heap.size∧ST w g off xs
theorem J5.keeps{w w':World}{a:Option Addr}{xs:List ByteArray}(h:J5 w a xs)(hk:Aa [] w w'):J5 w' a xs:=
 ⟨h.size,h.small,fun h0=>by
  obtain⟨g,off,ha,hg,hat⟩:=h.at_ h0;exact⟨g,off,ha,BS hg hk.size,fun i hi=>(hk.cell (p:=A_ g (off+i)) hg bA).trans (hat i hi)⟩⟩
theorem Wp(w:World)(c:Nat)(a:Option Addr):
  Calls prog 63 #[pF a 0 c] w fun e w'=>e = pJ (pF none 0 0)/\w=w':=by
 go_enter func63,ntmps63;go_wp2
 go_loop [3,4] (fun v i=>v = pF none 0 0/\i = I_ 0) (fun _ _=>0)
 case atStart=>exact⟨rfl,rfl⟩
 case round=>
  obtain⟨rfl,rfl⟩:=hrel;go_wp2;go_ret;exact⟨rfl,rfl⟩
theorem Pd(a:Option Addr)(c:Nat)(xs:List ByteArray)(n:Nat)(hn:xs.length=n)(w:World)(h:J5 w a xs):
  Calls prog 63 #[pF a n c] w fun e w'=>∃a' m c',e = pJ (.slice a' m c')/\(EN xs).length=m/\Cy w' a' c' (EN xs)/\Aa [] w w':=by
 subst hn;rcases Nat.eq_zero_or_pos xs.length with h0 | h0
 ·obtain rfl:=Ds h0
  refine(Wp w c a).mono ?_;rintro e w' ⟨rfl,rfl⟩;exact⟨none,0,0,rfl,rfl,P4 w,Aa.refl _ _⟩
 ·obtain⟨g,off,rfl,hg,hat⟩:=h.at_ h0
  refine(TI w g off c xs hat hg h.small h.size).mono ?_;rintro e w' ⟨v,rfl,hrow,hb⟩;obtain⟨a',c',rfl,hs⟩:=J0 hrow (by have:=PU xs;omega) (fun x hx=>by have:=Ou xs x hx;unfold maxLen;omega);exact⟨a',_,c',rfl,rfl,hs,Aa.of_below hb []⟩
def PF(w:World)(a:Option Addr)(V:List SV):Prop:=V≠[]->∃g off,a=some ⟨g,off,none⟩/\g<w.heap.size/\∀i (h:i<V.length),
 w.cell? ⟨g,off+i*3,none⟩=some (pE pK V[i].cur)/\w.cell? ⟨g,off+i*3+1,none⟩=some (.slice V[i].ia V[i].il V[i].ic)/\w.cell? ⟨g,off+i*3+2,none⟩=some (pE pK V[i].used)
theorem PF.keeps{w w':World}{a:Option Addr}{V:List SV}(h:PF w a V)(hk:Aa [] w w'):PF w' a V:=fun hn=>by
 obtain⟨g,off,ha,hg,hat⟩:=h hn;exact⟨g,off,ha,BS hg hk.size,fun i hi=>by
  obtain⟨h0,h1,h2⟩:=hat i hi;exact⟨(hk.cell (p:=A_ g (off+i*3)) hg bA).trans h0,(hk.cell (p:=A_ g (off+i*3+1)) hg bA).trans h1,(hk.cell (p:=A_ g (off+i*3+2)) hg bA).trans h2⟩⟩
def X5(w:World)(v:SV)(s:Sn):Prop:=v.cur=s.cur/\v.used=s.used/\s.items.length=v.il/\J5 w v.ia s.items
structure Ib(w:World)(a:Option Addr)(V:List SV)(L:List Sn):Prop where
 small:V.length≤9223372036854775807
 row:PF w a V
 len:V.length=L.length
 mt:∀i (h:i<V.length) (h':i<L.length),X5 w V[i] L[i]
theorem Ib.keeps{w w':World}{a:Option Addr}{V:List SV}{L:List Sn}(h:Ib w a V L)(hk:Aa [] w w'):Ib w' a V L:=
 ⟨h.small,h.row.keeps hk,h.len,fun i h1 h2=>by
  obtain⟨q1,q2,q3,q4⟩:=h.mt i h1 h2;exact⟨q1,q2,q3,q4.keeps hk⟩⟩
def OP(s:Sn):Sn:={ s with items:=EN s.items }
def Rk(l:List Sn):List Sn:=(l.take 5).map OP
theorem Da.far{W:World}{B:Nat}{v:Value}{V:List SV}(h:Da W B v V){p:Addr}(hp:p.block<B)(u:Value):Da (W.setCell p u) B v V:=by
 rcases h with h | ⟨g,off,cap,h1,h2,h3,h4,D,E⟩
 ·exact .inl h
 ·have hb:=Below.heap_setCell W p u g bB
  exact .inr ⟨g,off,cap,h1,h2,h3.same hb,h4,D,E.same hb⟩
theorem NC{w:World}{b:Nat}{cs:Array Value}(h:Blk w b 32 cs):ID w [b]:=fun k hk cs' fz hh=>by
 simp at hk;subst hk;have h':w.heap[k]? = some (.cells cs 32 (0,0)):=h;rw [h'] at hh;injection hh with hh;injection hh with _ h3 _
 exact absurd h3 bE
structure aK(w A:World)(a:Option Addr)(n c:Nat)(next:Int)(v:Value)(V:List SV)(L:List Sn):Prop where
 b0:Blk A w.heap.size 32 #[pF a n c,pE pK next]
 b1:Blk A (w.heap.size+1) 32 #[pF none 0 0,pE pK 0]
 b2:Blk A (w.heap.size+1+1) 32 #[v,pE pK next]
 row:Da A (w.heap.size+3) v V
 mt:Mt A V L
 below:Below w.heap.size w A
theorem UG{w wr w5 w9:World}{a:Option Addr}{n c:Nat}{next:Int}{v D:Value}{E:List SV}{F:List Sn}{x:SV}{s:Sn}{cs:Array Value}{M:TypeId}
 (h:aK w wr a n c next v E F)(hk:Aa [] wr w5)(hs:Da w9 (w.heap.size+3) D (E++[x]))(hst:D7 (w.heap.size+3) (w5.alloc (.cells cs M)) w9)(hx:Oh w5 x s):
  Blk w9 (w+1+1) 32 #[v,I_ next]/\aK w (w9.setCell (A2 w 0) D) a n c next D (E++[x]) (F++[s]):=by
 have B:=hk.alloc (.cells cs M);have N:Blk w9 w 32 #[pF a n c,I_ next]:=(hst.low.block _ bB).trans (h.b0.keeps B bA);have O:Blk w9 (w+1) 32 #[pF none 0 0,I_ 0]:=(hst.low.block _ bB).trans (h.b1.keeps B bA);have J:Blk w9 (w+1+1) 32 #[v,I_ next]:=(hst.low.block _ bB).trans (h.b2.keeps B bA);have G:Aa [w.heap.size+1+1] w9 (w9.setCell (A2 w 0) D):=(Aa.refl _ w9).setCell (p:=A2 w 0) (.inl bA) D;have hm:Mt w9 (E++[x]) (F++[s]):=((h.mt.keeps B).strK hst).app ⟨(hx.keeps ((Aa.refl [] w5).alloc _)).strK hst,trivial⟩;refine⟨J,N.far (p:=A2 w 0) bH _,O.far (p:=A2 w 0) bH _,J.set_ 0 D,hs.far (p:=A2 w 0) bH _,hm.keepsS G (NC J),?_⟩;exact((h.below.trans (B.below h.below.size bA)).trans (hst.low.mono bB)).setCell (p:=A2 w 0) bH _
theorem YR(a:Option Addr)(c:Nat)(V:List SV)(L:List Sn)(n:Nat)(hn:V.length=n)(next:Int)(w:World)(hP:Ib w a V L):
  Calls prog 26 #[pH #[pF a n c,I_ next]] w fun r w'=>∃a' n' c' V',r = pJ (pH #[.slice a' n' c',I_ next])/\V'.length=n'/\BP w' a' c' V' ⟨Rk L,next⟩/\Aa [] w w':=by
 have HP:=lH hP;have HN:=lH hn;have a3:n<=9223372036854775807:=by rw [<- hn];exact hP.small
 have ah:Hi (aK w (((w.alloc (.cells #[pF a n c,I_ next] 32)).alloc (.cells #[pF none 0 0,I_ 0] 32)).alloc (.cells #[pF none 0 0,I_ next] 32)) a n c next (pF none 0 0) [] []):=lH
  ⟨((Blk.new w _ _).alloc _).alloc _,(Ar _ _ _ _ bA).alloc _,Ar _ _ _ _ bA,.inl ⟨rfl,rfl⟩,trivial,(((Below.refl _ w).alloc (Aw _) _).alloc bA _).alloc bG _⟩
 have p1:(w.alloc (.cells #[pF a n c,I_ next] 32)).cell? (A_ w 1)=some (I_ next):=(Blk.new w 32 #[pF a n c,I_ next]).cell 1;clear hP hn;go_enter func26,ntmps26;go_wp2;go_loopw [4] (fun i wr=>∃(k:Nat) (v:Value) (V':List SV),k<=n/\k<=5/\i = I_ k/\V'.length=k/\Hi (aK w wr a n c next v V' ((L.take k).map OP))) (fun i _=>5 - (intOf i).toNat)
 case atStart=>exact⟨0,_,[],Ba _,Ba _,rfl,rfl,ah⟩
 case round=>
  obtain⟨k,v,V',hkn,hk5,rfl,am,HI⟩:=hrel;have HVK:=lH am;have z0:wr.cell? (A_ w 0)=some (pF a n c):=HI.o.b0.cell 0;clear am p1 ah;by_cases hlt:k<n/\k<5
  ·obtain⟨h1,h2⟩:=hlt
   have hk1:k<V.length:=by rw [HN.o];exact h1
   have hkL:k<L.length:=by rw [<- HP.o.len];exact hk1
   obtain⟨y,hy⟩:=eX (V[k]);obtain⟨s,hs⟩:=eX (L[k]);have hm:=HP.o.mt k hk1 hkL;rw [hy,hs] at hm;obtain⟨g,off,rfl,hg,hat⟩:=HP.o.row gC;have q1:=hat k hk1;rw [hy] at q1;obtain⟨p0,p1,p2⟩:=q1;have hkw:=Aa.of_below HI.o.below [];rw [<- hkw.cell (by exact hg) bA] at p0 p1 p2;have i1:(0:Int)<=(k:Int):=bB;have i2:(k:Int)<(n:Int):=bB;have i3:(k:Int)<5:=bB;have HG:Hi (g<w.heap.size):=lH hg;have N:=lH hm;have HSA:=lH (hm.2.2.2.keeps hkw);have ap:Hi (L[k]? = some s):=lH kF;have z2:wr.cell? (A2 w 0)=some v:=HI.o.b2.cell 0;have al:wr.cell? (A_ g (off+k*3))=some (I_ y.cur)/\wr.cell? (A_ g (off+k*3+1))=some (pF y.ia y.il y.ic)/\wr.cell? (A_ g (off+k*3+2))=some (I_ y.used)/\wr.cell? (A_ w 0)=some (pF (some (A_ g off)) n c):=⟨p0,p1,p2,z0⟩;have ay:=lH al;have B:Hi (∀w':World,(∀j,j<w.heap.size+1->w'.heap[j]? = wr.heap[j]?)->w'.cell? (A_ g (off+k*3))=some (I_ y.cur)/\w'.cell? (A_ g (off+k*3+1))=some (pF y.ia y.il y.ic)/\w'.cell? (A_ g (off+k*3+2))=some (I_ y.used)/\w'.cell? (A_ w 0)=some (pF (some (A_ g off)) n c)):=lH (fun w' hh=>⟨(BL (a:=A_ g (off+k*3)) (hh g bB)).trans p0,(BL (a:=A_ g (off+k*3+1)) (hh g bB)).trans p1,(BL (a:=A_ g (off+k*3+2)) (hh g bB)).trans p2,(BL (a:=A_ w 0) (hh w bB)).trans z0⟩);have HWS:Hi (w.heap.size+3<=wr.heap.size):=lH (by have:=HI.o.b2.lt;omega);clear hat hy hs hm hkw hk1 hkL al;go_wp2_with fail;refine wp_region_held_drew (S:=(fun w':World=>w'.cell? (A_ g (off+k*3))=some (I_ y.cur)/\w'.cell? (A_ g (off+k*3+1))=some (pF y.ia y.il y.ic)/\w'.cell? (A_ g (off+k*3+2))=some (I_ y.used)/\w'.cell? (A_ w 0)=some (pF (some (A_ g off)) n c))) bC (by((try dsimp only);(first | exact O.o _ | exact af.o | exact B.o _ (fun j hj=>(HK5.o.alloc _).block j aY bA) | exact B.o _ (fun j hj=>HK5.o.block j aY bA) | exact B.o _ (fun _ _=>rfl)))) (fun hHeld=>?_)
   repeat' (first | exact rZ | refine rX ?_ | ((first | (refine rA 1 (fun K hK=>?_) ?_;go_simp) | (refine rA 14 (fun K hK=>?_) ?_;go_simp;(first | ((refine(Pd y.ia y.ic s.items y.il N.o.2.2.1 _ (HSA.o.keeps ((Aa.refl [] wr).drew))).mono ?_);rintro e5 w5 ⟨Y,m5,c5,rfl,U,G,hk5⟩;have HK5:=lH (((Aa.refl [] wr).drew).trans hk5);have T:=lH G;have ae:=lH U;have z5:w5.cell? (A2 w 0)=some v:=(HI.o.b2.keeps HK5.o bA).cell 0;have av:∀o,(w5.alloc o).cell? (A2 w 0)=some v:=fun o=>((HI.o.b2.keeps HK5.o bA).alloc o).cell 0;clear G hk5 U) | (obtain⟨v9,w9,D,F,hk9⟩:=Da.push ((HI.o.row.keeps HK5.o).keeps ((Aa.refl [] w5).alloc (.cells (SV.arr (⟨y.cur,Y,m5,c5,y.used⟩:SV)) 147))) mB (by have:=HK5.o.size;have:=HWS.o;simp;omega) w5 (⟨y.cur,Y,m5,c5,y.used⟩:SV) (Blk.new w5 147 (SV.arr (⟨y.cur,Y,m5,c5,y.used⟩:SV))) 30;obtain⟨J,M,h9,_,_⟩:=F.row;obtain⟨n9,X⟩:=eX ((V'++[(⟨y.cur,Y,m5,c5,y.used⟩:SV)]).length);rw [X] at h9;subst h9;clear X;have E:=UG (s:=OP s) HI.o HK5.o F hk9 ⟨N.o.1,N.o.2.1,ae.o.symm,T.o⟩;simp only [SV.arr] at D;refine Cf _ _ 30 bD bD bD bD D ?_;have z9:w9.cell? (A2 w 0)=some v:=E.1.cell 0;have f9:=E.1.frozen 0;have HC9:=lH E.2;have af:=lH (B.o w9 (fun j hj=>(hk9.low.block j bB).trans ((HK5.o.alloc _).block j aY bA)));have O:=lH (fun u=>B.o (w9.setCell (A2 w 0) u) (fun j hj=>(Below.heap_setCell _ _ _ _ bH).trans ((hk9.low.block j bB).trans ((HK5.o.alloc _).block j aY bA))));clear F hk9 E D))) | (refine rA 22 (fun K hK=>?_) ?_;go_simp) | (refine rA 23 (fun K hK=>?_) ?_;(first | ((refine(Pd y.ia y.ic s.items y.il N.o.2.2.1 _ (HSA.o.keeps ((Aa.refl [] wr).drew))).mono ?_);rintro e5 w5 ⟨Y,m5,c5,rfl,U,G,hk5⟩;have HK5:=lH (((Aa.refl [] wr).drew).trans hk5);have T:=lH G;have ae:=lH U;have z5:w5.cell? (A2 w 0)=some v:=(HI.o.b2.keeps HK5.o bA).cell 0;have av:∀o,(w5.alloc o).cell? (A2 w 0)=some v:=fun o=>((HI.o.b2.keeps HK5.o bA).alloc o).cell 0;clear G hk5 U) | (obtain⟨v9,w9,D,F,hk9⟩:=Da.push ((HI.o.row.keeps HK5.o).keeps ((Aa.refl [] w5).alloc (.cells (SV.arr (⟨y.cur,Y,m5,c5,y.used⟩:SV)) 147))) mB (by have:=HK5.o.size;have:=HWS.o;simp;omega) w5 (⟨y.cur,Y,m5,c5,y.used⟩:SV) (Blk.new w5 147 (SV.arr (⟨y.cur,Y,m5,c5,y.used⟩:SV))) 30;obtain⟨J,M,h9,_,_⟩:=F.row;obtain⟨n9,X⟩:=eX ((V'++[(⟨y.cur,Y,m5,c5,y.used⟩:SV)]).length);rw [X] at h9;subst h9;clear X;have E:=UG (s:=OP s) HI.o HK5.o F hk9 ⟨N.o.1,N.o.2.1,ae.o.symm,T.o⟩;simp only [SV.arr] at D;refine Cf _ _ 30 bD bD bD bD D ?_;have z9:w9.cell? (A2 w 0)=some v:=E.1.cell 0;have f9:=E.1.frozen 0;have HC9:=lH E.2;have af:=lH (B.o w9 (fun j hj=>(hk9.low.block j bB).trans ((HK5.o.alloc _).block j aY bA)));have O:=lH (fun u=>B.o (w9.setCell (A2 w 0) u) (fun j hj=>(Below.heap_setCell _ _ _ _ bH).trans ((hk9.low.block j bB).trans ((HK5.o.alloc _).block j aY bA))));clear F hk9 E D))) | (refine rA 25 (fun K hK=>?_) ?_;go_simp));refine rO hK (by((try dsimp only);(first | exact O.o _ | exact af.o | exact B.o _ (fun j hj=>(HK5.o.alloc _).block j aY bA) | exact B.o _ (fun j hj=>HK5.o.block j aY bA) | exact B.o _ (fun _ _=>rfl)))) fun hHeld=>?_;clear hK K) | (refine rQ 0 ?_;refine rQ 2 ?_;refine rQ 3 ?_;refine rQ 4 ?_;refine rQ 5 ?_;refine rQ 6 ?_;refine rQ 7 ?_;refine rQ 8 ?_;refine rQ 9 ?_;refine rQ 10 ?_;refine rQ 11 ?_;refine rQ 12 ?_;refine rQ 13 ?_;refine rQ 15 ?_;refine rQ 16 ?_;refine rQ 17 ?_;refine rQ 18 ?_;refine rQ 19 ?_;refine rQ 20 ?_) | (refine rQ 21 ?_) | (refine rQ 24 ?_) | refine rB [1,14,22,23,25] ?_ | (refine wpAnyH_done bC ?_ _;(go_wp2;go_roundw;(case rel=>exact⟨k+1,_,V'++[⟨y.cur,Y,m5,c5,y.used⟩],by omega,by omega,by go_num,by rw [Al,HVK.o];rfl,by rw [DS ap.o,pO];exact HC9⟩);(case measure=>(simp [intOf];omega)))))
  ·obtain⟨J,M,rfl,ad,aq⟩:=HI.o.row.row
   have e1:((n:Nat):Int)<=(k:Int)\/(5:Int)<=(k:Int):=bB;have eL:Rk L=(L.take k).map OP:=by
    have h0:=HP.o.len;have h1:=HN.o;unfold Rk;rcases pP k 5 with h | h
    ·rw [Ak (by omega:L.length<=5),Ak (by omega:L.length<=k)]
    ·rw [show k=5 by omega]
   have ao:=lH eL;have z1:wr.cell? (A2 w 0)=some (pF J V'.length M):=HI.o.b2.cell 0;have z2:wr.cell? (A2 w 1)=some (I_ next):=HI.o.b2.cell 1;have c1:=HI.o.b1.cell 0;have c2:=HI.o.b1.cell 1;have f1:=HI.o.b1.frozen 0;have f2:=HI.o.b1.frozen 1;have ak:Blk ((wr.setCell (A1 w 0) (pF J V'.length M)).setCell (A1 w 1) (I_ next)) (w+1) 32 #[pF J V'.length M,I_ next]:=(HI.o.b1.set_ 0 _).set_ 1 _;have hk9:Aa [w.heap.size+1] wr ((wr.setCell (A1 w 0) (pF J V'.length M)).setCell (A1 w 1) (I_ next)):=((Aa.refl _ wr).setCell (p:=A1 w 0) (.inl bA) _).setCell (p:=A1 w 1) (.inl bA) _;have aj:BP ((wr.setCell (A1 w 0) (pF J V'.length M)).setCell (A1 w 1) (I_ next)) J M V' ⟨Rk L,next⟩:=by
    have F:=(HI.o.row.far (p:=A1 w 0) bH (pF J V'.length M)).far (p:=A1 w 1) bH (I_ next);obtain⟨a0,c0,h0,_,hr⟩:=F.row;cases h0;exact⟨ad,by have:=HVK.o;omega,hr,by rw [ao.o];exact HI.o.mt.keepsS hk9 (NC HI.o.b1)⟩
   have hkw:Aa [] w ((wr.setCell (A1 w 0) (pF J V'.length M)).setCell (A1 w 1) (I_ next)):=Aa.of_below ((HI.o.below.setCell (p:=A1 w 0) bH _).setCell (p:=A1 w 1) bH _) [];have ac:=lH ak;have ai:=lH aj;have HK9:=lH hkw;clear ak aj hkw hk9 eL aq ad;have HKV:=lH HVK.o;rcases pP k n with hk | hk
   ·have i2:(k:Int)<(n:Int):=bB;have i3:¬(k:Int)<5:=bB;clear e1;go_wp2_with fail;exact bodyPost_ret (v:=pH #[pF J V'.length M,I_ next]) (by have q0:=ac.o.cell 0;have q1:=ac.o.cell 1;simp [results,results26,go_sem,q0,q1]) rfl ⟨J,V'.length,M,rfl,V',rfl,ai.o,HK9.o⟩
   ·have i2:¬(k:Int)<(n:Int):=bB;clear e1;go_wp2_with fail;exact bodyPost_ret (v:=pH #[pF J V'.length M,I_ next]) (by have q0:=ac.o.cell 0;have q1:=ac.o.cell 1;simp [results,results26,go_sem,q0,q1]) rfl ⟨J,V'.length,M,rfl,V',rfl,ai.o,HK9.o⟩
end
section
open Go.RowKit Go.Shelf
attribute [local go_sem] pN
attribute [local go_sem ↓] wp_at_zero wp_at_succ
theorem N4(w:World):(callFunc 323 #[]).run prog w = .ok (.value (.tuple #[])) w:=run_call_mark0 func323 bC bC bC .disable bC w
theorem Pn(w:World):(callFunc 325 #[]).run prog w = .ok (.value (.tuple #[])) w:=run_call_mark0 func325 bC bC bC .enable bC w
theorem TS(a:Addr)(w:World):(callFunc 326 #[pG (some a)]).run prog w = .ok (.value (.tuple #[])) w:=run_call_marked func326 bC bC bC .acquire bC a w
theorem TT(a:Addr)(w:World):(callFunc 328 #[pG (some a)]).run prog w = .ok (.value (.tuple #[])) w:=run_call_marked func328 bC bC bC .releaseMerge bC a w
theorem XM(w:World):Calls prog 320 #[pI true] w fun e w'=>e = pJ (.int .u32 1)/\w=w':=by
 go_enter func320,ntmps320;go_wp2;go_ret;exact⟨rfl,rfl⟩
theorem Sb(b off:Nat)(x:Int)(w:World)(B:w.cell? (A_ b off)=some (.int .u32 x)):
  Calls prog 301 #[pG (some (A_ b off))] w fun e w'=>e = pJ (pI (x != 0))/\w=w':=by
 have hl:=run_call_load (P:=prog) func311 bC bC bC .u32 bC B;go_enter func301,ntmps301;go_wp2;go_ret;exact⟨rfl,rfl⟩
theorem NW(b off:Nat)(x:Value)(u:FrameMode)(w:World)(D:w.cell? (A_ b off)=some x)(hz:w.frozen? (A_ b off)=false):
  CallsD prog 314 #[pG (some (A_ b off)),pI true] u w fun e u' w'=>u'=u/\(e = pJ (.tuple #[])/\w'=w.drew.setCell (A_ b off) (.int .u32 1)):=by
 have hc':w.drew.cell? (A_ b off)=some x:=by go_simp
 have B:w.drew.frozen? (A_ b off)=false:=by go_simp
 have hst:=run_call_store (P:=prog) func319 bC bC bC bC (k:=.u32) (y:=1) hc' B
 go_enter_d func314,ntmps314
 go_wp2
 go_region_held3 (fun _=>True) (exact trivial) (with_reducible refine(XM _).mono ?_;rintro e E ⟨rfl,rfl⟩)
 all_goals (go_end0;exact⟨rfl,rfl⟩)
theorem iunlock(b off:Nat)(w:World)(D:w.cell? (A_ b off)=some (.int .i32 1))(hz:w.frozen? (A_ b off)=false):
  Calls prog 318 #[pG (some (A_ b off))] w fun e w'=>e = pJ (.tuple #[])/\w.setCell (A_ b off) (.int .i32 0)=w':=by
 have F:=N4;have he:=Pn;have hr:=TT;have B:=run_call_add (P:=prog) func329 bC bC bC .i32 bC (y:=-1) (s:=0) D hz (by simp [go_sem];rfl);have E:=run_convert_to_unsafe (P:=prog) (src:=506) (dst:=226) underlying506 underlying226 bC D;go_enter func318,ntmps318;go_wp2
 go_end0
 exact⟨rfl,rfl⟩
theorem M0(b off:Nat)(u:FrameMode)(w:World)(B:w.cell? (A_ b off)=some (.int .i32 1))(hz:w.frozen? (A_ b off)=false):
  CallsD prog 313 #[pG (some (A_ b off))] u w fun e u' w'=>u'=u/\(e = pJ (.tuple #[])/\w'=w.setCell (A_ b off) (.int .i32 0)):=by
 go_enter_d func313,ntmps313
 go_wp2_with (with_reducible refine(iunlock b off _ B hz).mono ?_;rintro e w' ⟨rfl,rfl⟩)
 go_end0
 exact⟨rfl,rfl⟩
theorem ilock(b off:Nat)(w:World)(B:w.cell? (A_ b off)=some (.int .i32 0))(hz:w.frozen? (A_ b off)=false):
  Calls prog 317 #[pG (some (A_ b off))] w fun e w'=>e = pJ (.tuple #[])/\w.setCell (A_ b off) (.int .i32 1)=w':=by
 have G:=N4;have he:=Pn;have F:=TS;have D:=run_call_cas_hit (P:=prog) func324 bC bC bC .i32 bC (y:=1) B hz;have hc':(w.setCell (A_ b off) (.int .i32 1)).cell? (A_ b off)=some (.int .i32 1):=World.cell?_setCell_same w _ _ B;have E:=run_convert_to_unsafe (P:=prog) (src:=506) (dst:=226) underlying506 underlying226 bC hc';go_enter func317,ntmps317;go_wp2;first | go_end0 | (simp only [Exit.inBlock,Exit.then];refine bodyPost_ret (results_none rfl _ _ _) rfl ?_) | refine bodyPost_ret (results_none rfl _ _ _) rfl ?_
 exact⟨rfl,rfl⟩
theorem Wx(b off:Nat)(w:World)(B:w.cell? (A_ b off)=some (.int .i32 0))(hz:w.frozen? (A_ b off)=false):
  Calls prog 312 #[pG (some (A_ b off))] w fun e w'=>e = pJ (.tuple #[])/\w.setCell (A_ b off) (.int .i32 1)=w':=by
 go_enter func312,ntmps312;go_wp2_with (with_reducible refine(ilock b off _ B hz).mono ?_;rintro e w' ⟨rfl,rfl⟩)
 go_end0
 exact⟨rfl,rfl⟩
end
section
open Go.RowKit Go.Shelf
attribute [local go_sem] pN Lr Ls Lp Lq
attribute [local go_sem ↓] wp_at_zero wp_at_succ
def z257:Array Value:=Array.replicate 257 (pF none 0 0)
def FM(a b t:Value):Array Value:=((z257.setIfInBounds 92 a).setIfInBounds 34 b).setIfInBounds 256 t
theorem ML:(prog.info? 490).map (fun i=>(i.zero,i.size))=some (some (.agg z257),257):=bC
theorem XR(w:World):(zeroValue 490).run prog w = .ok (.agg z257) w:=(zero_of_info ML).1 w
theorem VB(ta:Option Addr)(tl tc:Nat)(w:World):(Instr.build 490 #[(1,pF ta tl tc)]).run prog w = .ok (.agg (z257.setIfInBounds 256 (pF ta tl tc))) w:=run_build w 490 _ _ bC
theorem OG(t:Value)(w:World)(h1:t.oneCell'=true):(Instr.storeAt 490 (p_ w 0) (.agg (z257.setIfInBounds 256 t))).run prog (w.alloc (.cells z257 490)) = .ok () (w.alloc (.cells (z257.setIfInBounds 256 t) 490)):=by
 refine run_storeAt_new w 490 z257 _ ?_ ?_ ?_
 ·have:=ML
  cases h:prog.info? 490 with
  | none=>rw [h] at this;cases this
  | some i=>rw [h] at this;simp at this ⊢;exact this.2
 ·simp
 ·rw [Array.all_eq_true_iff_forall_mem]
  intro v hv;obtain hv | rfl:v∈z257\/v=t:=Array.mem_or_eq_of_mem_setIfInBounds hv
  ·rw [z257] at hv
   have:=Array.eq_of_mem_replicate hv;subst this;rfl
  ·exact h1
theorem Tg(B:Option Addr)(E D:Nat)(w:World)(g:Nat)(hg:g=w.heap.size):(Instr.storeAt 490 (p_ g 0) (.agg (z257.setIfInBounds 256 (pF B E D)))).run prog (w.alloc (.cells z257 490)) = .ok () (w.alloc (.cells (z257.setIfInBounds 256 (pF B E D)) 490)):=by
 subst hg;exact OG _ w rfl
theorem XS(a:Option Addr)(l c:Nat)(w:World):(binOp .eql 174 (pF a l c) (pF none 0 0)).run prog w = .ok (pI a.isNone) w:=AK w 174 5 a l c 0 0 underlying174
theorem XT(a:Option Addr)(l c:Nat)(w:World):(binOp .neq 174 (pF a l c) (pF none 0 0)).run prog w = .ok (pI (!a.isNone)) w:=run_neq_slice_nil_any w 174 5 a l c 0 0 underlying174
theorem PE:z257.size=257:=by simp [z257]
theorem VD(B:Option Addr)(E D:Nat)(w:World)(g:Nat)(hg:g=w.heap.size):(storeCells (A_ g 0) (z257.toList.set 256 (pF B E D))).run prog (w.alloc (.cells z257 490)) = .ok () (w.alloc (.cells (z257.setIfInBounds 256 (pF B E D)) 490)):=by
 have h:=OG (pF B E D) w rfl;rw [<- hg] at h;have hs:(sizeOf 490).run prog (w.alloc (.cells z257 490)) = .ok 257 (w.alloc (.cells z257 490)):=by
  have:=ML;cases hq:prog.info? 490 with
  | none=>rw [hq] at this;cases this
  | some i=>rw [hq] at this;simp at this;simp [sizeOf,typeInfo,hq,this.2]
 simpa [Instr.storeAt,Instr.sureAddr,storeVar,hs,Value.cells,PE] using h
theorem XQ(t:Value):FM (pF none 0 0) (pF none 0 0) t=z257.setIfInBounds 256 t:=by
 have h:∀i,z257.setIfInBounds i (pF none 0 0)=z257:=fun i=>by
  apply Array.ext_getElem?;intro j;rw [Bj];split
  ·rename_i hij
   subst hij;split
   ·rename_i h;rw [z257,Array.getElem?_replicate,if_pos (by simpa [z257] using h)]
   ·rename_i h;rw [z257,Array.getElem?_replicate,if_neg (by simpa [z257] using h)]
  ·rfl
 rw [FM,h,h]
section
variable (a b t u:Value)
theorem UC:(FM a b t)[92]? = some a:=by simp [FM,z257,Bj]
theorem UB:(FM a b t)[34]? = some b:=by simp [FM,z257,Bj]
theorem QY:(FM a b t)[256]? = some t:=by simp [FM,z257,Bj]
theorem Tf:(FM a b t).setIfInBounds 92 u=FM u b t:=by
 apply Array.ext_getElem?;intro i;simp only [FM,Bj,Array.size_setIfInBounds];by_cases h1:92=i
 ·subst h1;simp
 ·simp [h1]
theorem Te:(FM a b t).setIfInBounds 34 u=FM a u t:=by
 apply Array.ext_getElem?;intro i;simp only [FM,Bj,Array.size_setIfInBounds];by_cases h1:34=i
 ·subst h1;simp
 ·simp [h1]
theorem QZ:(FM a b t).setIfInBounds 256 u=FM a b u:=by
 apply Array.ext_getElem?;intro i;simp only [FM,Bj,Array.size_setIfInBounds];by_cases h1:256=i
 ·subst h1;simp
 ·simp [h1]
end
def Gf(s:ByteArray):List Value:=[Dz s]
def L0(w:World)(a:Value)(x y:Int):Prop:=∃q c C fr,a = pF (some ⟨q,0,none⟩) 2 c/\w.heap[q]? = some (.cells C 5 fr)/\C[0]? = some (.int .u8 x)/\C[1]? = some (.int .u8 y)
theorem L0.keeps{w w':World}{a:Value}{x y:Int}{S:List Nat}(h:L0 w a x y)(hk:Aa S w w')(hS:∀q C fr,w.heap[q]? = some (.cells C 5 fr)->q∉S):L0 w' a x y:=by
 obtain⟨q,c,C,fr,rfl,h1,h2,h3⟩:=h;exact⟨q,c,C,fr,rfl,(hk.block q (Ai.1 h1).1 (hS q C fr h1)).trans h1,h2,h3⟩
theorem L0.cells{w:World}{a:Value}{x y:Int}(h:L0 w a x y):∃q c,a = pF (some (A_ q 0)) 2 c/\q<w.heap.size/\w.cell? (A_ q 0)=some (.int .u8 x)/\w.cell? (A_ q 1)=some (.int .u8 y):=by
 obtain⟨q,c,C,B,rfl,h1,h2,h3⟩:=h;exact⟨q,c,rfl,(Ai.1 h1).1,(cell_of_row w q 0 C 5 B h1).trans h2,(cell_of_row w q 1 C 5 B h1).trans h3⟩
theorem N5{w:World}{B n k D:Nat}{e t:TypeId}{v:Value}{xs:List Value}{cs:Array Value}{E:Nat×Nat}(h:w.ownsRow B e n v k xs)(hb:w.heap[D]? = some (.cells cs t E))(hne:t≠e):D∉v.ownBlock.toList:=by
 rcases h.2 with⟨rfl,_⟩ | ⟨g,c,cur,rfl,F,hg,_⟩
 ·simp [EZ]
 ·simp only [EZ,Option.toList_some,Ag]
  rintro rfl;rw [hb] at hg;injection hg with hg
  injection hg with _ ht
  exact hne ht
theorem eV(w:World)(x y:UInt8):∃q c W,(convert 9 174 (Dz ⟨#[x,y]⟩)).run prog w = .ok (pF (some (A_ q 0)) 2 c) W/\L0 W (pF (some (A_ q 0)) 2 c) x.toNat y.toNat/\Aa [] w W:=by
 exact⟨w,_,_,run_bytes_of_string w 9 174 5 ⟨#[x,y]⟩ underlying9 underlying174 underlying5,⟨w,_,_,_,rfl,heap_alloc_new w.drew _,by rw [bytesRow,Array.getElem?_append_left bA];simp,by rw [bytesRow,Array.getElem?_append_left bA];simp⟩,(Aa.refl [] w).drew.alloc _⟩
end
section
open Go.RowKit Go.Shelf
attribute [local go_sem] pN UC UB QY PE
attribute [local go_sem ↓] wp_at_zero wp_at_succ VB Tg VD
theorem jT(h):(⟨#[92]⟩:ByteArray)[0]'h=92:=rfl
theorem jS(h):(⟨#[34]⟩:ByteArray)[0]'h=34:=rfl
theorem pB:(92:UInt8).toNat=92:=rfl
theorem pA:(34:UInt8).toNat=34:=rfl
attribute [local go_sem] jT jS pB pA XS XT
theorem dG:D1 (prog.info? 9) 1=true:=bC
theorem Mm:∃i,prog.info? 9=some i/\i.zero=some (Dz ⟨#[]⟩)/\i.size=1/\i.bytes=16:=by
 have h:(prog.info? 9).map (fun i=>(i.zero,i.size,i.bytes))=some (some (Dz ⟨#[]⟩),1,16):=bC
 cases hq:prog.info? 9 with
 | none=>rw [hq] at h;cases h
 | some i=>rw [hq] at h;simp at h;exact⟨i,rfl,h.1,h.2.1,h.2.2⟩
theorem UX(w:World)(x:UInt8)(n:Int)(hn:(x.toNat:Int)=n):(convert 174 9 (pF (some (A_ w 0)) 1 1)).run prog (w.alloc (.cells #[.int .u8 n] 5)) = .ok (Dz ⟨#[x]⟩) (w.alloc (.cells #[.int .u8 n] 5)):=by
 subst hn;exact run_convert_bytes_back (P:=prog) _ 174 9 5 (A_ w 0) 1 [x] underlying174 underlying5 underlying9 (fun j hj=>by
  have:j=0:=by simpa using hj
  subst this;rw [BR,(Blk.new w 5 _).cell];rfl)
def Ui:List ByteArray:=[⟨#[92]⟩,⟨#[34]⟩]
def Vl(w wr:World)(bb:Nat)(a b v:Value)(m:Nat):Prop:=Blk wr bb 490 (FM a b v)/\wr.ownsRow w.heap.size 9 1 v (Ui.take m).length ((Ui.take m).flatMap Gf)/\Aa [] w wr/\w.heap.size<=bb/\
 (if 1<=m then L0 wr a 92 92 else a = pF none 0 0)/\(if 2<=m then L0 wr b 92 34 else b = pF none 0 0)
theorem Vl.push{w wr:World}{F:Nat}{a b v:Value}{m:Nat}(h:Vl w wr F a b v m)(x:ByteArray)(hx:Ui[m]? = some x)(y z:UInt8):
  ∃g c W3 q c5 W5,(BI #[64,64] 64 #[v,pF (some (A1 wr 0)) 1 1]).run prog ((wr.alloc (.cells #[.int .u8 (x.data[0]!).toNat] 5)).alloc (.cells #[Dz x] 9)) = .ok (pF (some (A_ g 0)) (m+1) c) W3/\
   Blk W3 F 490 (FM a b v)/\
   (convert 9 174 (Dz ⟨#[y,z]⟩)).run prog (W3.setCell (A_ F 256) (pF (some (A_ g 0)) (m+1) c)) = .ok (pF (some (A_ q 0)) 2 c5) W5/\
   Blk W5 F 490 (FM a b (pF (some (A_ g 0)) (m+1) c))/\W5.ownsRow w 9 1 (pF (some (A_ g 0)) (m+1) c) (m+1) ((Ui.take (m+1)).flatMap Gf)/\Aa [] w W5/\
   L0 W5 (pF (some (A_ q 0)) 2 c5) y.toNat z.toNat/\(∀u s t,L0 wr u s t->L0 W5 u s t):=by
 obtain⟨h1,h2,h3,h4,-⟩:=h;have hm:m<Ui.length:=(Ad.1 hx).1;have E:(Ui.take m).length=m:=by rw [Ax];omega
 have N:Ui.take (m+1)=Ui.take m++[x]:=by rw [List.take_add_one,hx];rfl
 have hrow:=h2.alloc (.cells #[.int .u8 (x.data[0]!).toNat] 5);obtain⟨g,c,W3,G,D,hk3,U⟩:=CO (enc:=Gf) prog (t:=64) underlying64 dG bE (fun _=>rfl) (fun x u hu=>by unfold Gf at hu;simp only [Ac,Ab,or_false] at hu;subst hu;rfl) hrow (A8 h3.size bA) x (by rw [E];simp [Ui] at hm;omega) 64;rw [E] at G;rw [show(Ui.take m++[x]).length=m+1 by rw [Al,E];rfl,<- N,E] at D;have hkw:Aa v.ownBlock.toList wr W3:=(((Aa.refl _ wr).alloc _)).trans hk3;have B:Blk W3 F 490 (FM a b v):=h1.keeps hkw (N5 h2 h1 bE);have hb4:=B.set_ 256 (pF (some (A_ g 0)) (m+1) c);rw [QZ] at hb4;obtain⟨q,c5,W5,J,O,hk5⟩:=eV (W3.setCell (A_ F 256) (pF (some (A_ g 0)) (m+1) c)) y z;refine⟨g,c,W3,q,c5,W5,by simpa [Gf] using G,B,J,hb4.keeps hk5 bA,?_,?_,O,?_⟩
 ·refine Ah (Ah D ((Aa.refl [F] W3).setCell (p:=A_ F 256) (.inl bA) _) (fun X M hm'=>?_)) hk5 (fun _ _=>by simp)
  have:=N5 D B bE;simp only [Ac,Ab,or_false] at hm';subst hm';exact this (by simp [M])
 ·refine Aa.trans (Aa.setCell (h3.own hkw (fun y hy=>?_)) (p:=A_ F 256) (.inr h4) _) hk5
  exact(h2.lt y bU).1
 ·intro u s t hu
  refine((hu.keeps hkw (fun q C T hq=>N5 h2 hq bE)).keeps ((Aa.refl [F] W3).setCell (p:=A_ F 256) (.inl bA) _) (fun q C T hq hm=>?_)).keeps hk5 (fun _ _ _ _=>by simp);simp only [Ac,Ab,or_false] at hm;subst hm;unfold Blk at B;rw [hq] at B;injection B with B
  injection B with _ ht
  exact absurd ht bE
theorem VE(rb og oo oc:Nat)(x0 x1 x2 x3:Value)(w:World)(hb:Blk w rb 457 #[x0,x1,x2,x3,pF (some (A_ og oo)) 4 oc])
 (c0:w.cell? (A_ og oo)=some (Dz ⟨#[34]⟩))(c1:w.cell? (A_ og (oo+1))=some (Dz ⟨#[92,34]⟩))(c2:w.cell? (A_ og (oo+2))=some (Dz ⟨#[92]⟩))(c3:w.cell? (A_ og (oo+3))=some (Dz ⟨#[92,92]⟩))(av:og<w.heap.size):
  Calls prog 303 #[pG (some (A_ rb 0))] w fun e w'=>∃bb a b v,e = pJ (.iface 491 (p_ bb 0))/\w.heap.size<=bb/\Vl w w' bb a b v 2:=by
 have q:=hb.rl;have HB:=lH hb;clear hb;have hz:=XR;obtain⟨i0,ad,ae,af,ag⟩:=Mm;have ap:∀W:World,(Instr.makeSlice 64 (I_ 0) (I_ 2)).run prog W = .ok (pF (some (A_ W 0)) 0 2) (W.alloc (.cells #[Dz ⟨#[]⟩,Dz ⟨#[]⟩] 9)):=fun W=>by
  have:=He (P:=prog) 64 9 i0 (Dz ⟨#[]⟩) underlying64 ad ae .i64 .i64 0 2 bB (by rw [ag];decide) bE W;rw [af,show madeCells (Dz ⟨#[]⟩).cells (2*1)=#[Dz ⟨#[]⟩,Dz ⟨#[]⟩] by unfold madeCells;rw [show Array.range (2*1)=#[0,1] by decide];simp [Value.cells]] at this;exact this
 clear ad ae af ag;go_enter func303,ntmps303;go_wp2;go_loopw [4,5] (fun al i wr=>w=wr/\((i = I_ 0/\al = pI true)\/(i = I_ 2/\al = pI false)\/(i = I_ 4/\al = pI false))) (fun _ i _=>(4 - intOf i).toNat)
 case atStart=>exact⟨rfl,.inl ⟨rfl,rfl⟩⟩
 case round=>
  obtain⟨rfl,⟨rfl,rfl⟩ | ⟨rfl,rfl⟩ | ⟨rfl,rfl⟩⟩:=hrel
  ·go_wp2
   go_roundw;case rel=>simp
   case measure=>simp [intOf]
  ·go_wp2
   go_roundw;case rel=>simp
   case measure=>simp [intOf]
  ·go_wp2
   obtain⟨W2,X⟩:=eX ((w.alloc (.cells #[Dz ⟨#[]⟩,Dz ⟨#[]⟩] 9)).alloc (.cells (z257.setIfInBounds 256 (pF (some (A_ w 0)) 0 2)) 490));have HI:Hi (Vl w W2 (w+1) (pF none 0 0) (pF none 0 0) (pF (some (A_ w 0)) 0 2) 0):=lH (by
    rw [<- X];refine⟨?_,?_,((Aa.refl [] w).alloc _).alloc _,by omega,rfl,rfl⟩
    ·rw [XQ]
     have:=Blk.new (w.alloc (.cells #[Dz ⟨#[]⟩,Dz ⟨#[]⟩] 9)) 490 (z257.setIfInBounds 256 (pF (some (A_ w 0)) 0 2));simpa using this
    ·refine World.ownsRow.alloc ?_ _
     have:=World.ownsRow_made (base:=w.heap.size) (e:=9) (size:=1) w #[Dz ⟨#[]⟩,Dz ⟨#[]⟩] 2 (Aw _) bZ rfl;simpa [Ui] using this)
   rw [X];clear X q ap hz;have HC:=lH (Bl c0 (Bl c1 (Bl c2 c3)));clear c0 c1 c2 c3 HB;go_loopw [12] (fun i w2=>∃a b v,(i = I_ 2/\Hi (Vl w w2 (w+1) a b v 0))\/(i = I_ 0/\Hi (Vl w w2 (w+1) a b v 1))\/(i = I_ (-2)/\Hi (Vl w w2 (w+1) a b v 2))) (fun i _=>(intOf i+2).toNat)
   case atStart=>exact⟨_,_,_,.inl ⟨rfl,HI⟩⟩
   case round=>
    clear HI;obtain⟨a,b,v,⟨rfl,HS⟩ | ⟨rfl,HS⟩ | ⟨rfl,HS⟩⟩:=hrel
    ·obtain⟨hb,hrow,hk,M,ha,G⟩:=HS.o
     simp only [show ¬1<=0 from by decide,show 1<=1 from by decide,show ¬2<=0 from by decide,show ¬2<=1 from by decide,if_false,if_true] at ha G;subst ha G;have q:=hb.rl;have kr:=hk.rl;obtain⟨c0,c1,c2,c3⟩:=HC.o;obtain⟨g,c,W3,U,T,O,F,J,ao,B,D,hk5,N,E⟩:=Vl.push HS.o ⟨#[92]⟩ rfl 92 92;rw [show((((⟨#[92]⟩:ByteArray).data[0]!).toNat:Nat):Int)=92 from rfl] at F;have ah:=UX wr 92 92 rfl;have r3:=J.rl;have r5:=B.rl;have HN:Hi (Vl w (O.setCell (A1 w 92) (pF (some (A_ U 0)) 2 T)) (w+1) (pF (some (A_ U 0)) 2 T) (pF none 0 0) (pF (some (A_ g 0)) (0+1) c) 1):=lH (by
      have hk6:Aa [w.heap.size+1] O (O.setCell (A1 w 92) (pF (some (A_ U 0)) 2 T)):=(Aa.refl _ _).setCell (.inl bA) _;have hS:∀q C fr,O.heap[q]? = some (.cells C 5 fr)->q∉[w.heap.size+1]:=fun q C fr hq hm=>by
       simp only [Ac,Ab,or_false] at hm;subst hm;unfold Blk at B;rw [hq] at B;injection B with B
       injection B with _ ht
       exact absurd ht bE
      refine⟨?_,Ah D hk6 (fun g' Y hm'=>N5 D B bE (by simp only [Ac,Ab,or_false] at hm';subst hm';simp [Y])),hk5.own hk6 bF,M,?_,?_⟩
      ·have:=B.set_ 92 (pF (some (A_ U 0)) 2 T)
       rw [Tf] at this;exact this
      ·exact N.keeps hk6 hS
      ·rfl)
     clear hb hrow hk M HS J B D hk5 N E;go_wp2_with (at_builtin;refine Au _ rfl _ _ 64 rfl rfl rfl F ?_);go_roundw;case rel=>exact⟨_,_,_,.inr (.inl ⟨rfl,HN⟩)⟩
     case measure=>simp [intOf]
    ·obtain⟨hb,hrow,hk,M,ha,G⟩:=HS.o
     simp only [show ¬1<=0 from by decide,show 1<=1 from by decide,show ¬2<=0 from by decide,show ¬2<=1 from by decide,if_false,if_true] at ha G;subst G;have q:=hb.rl;have kr:=hk.rl;obtain⟨c0,c1,c2,c3⟩:=HC.o;obtain⟨g,c,W3,U,T,O,F,J,ao,B,D,hk5,N,E⟩:=Vl.push HS.o ⟨#[34]⟩ rfl 92 34;rw [show((((⟨#[34]⟩:ByteArray).data[0]!).toNat:Nat):Int)=34 from rfl] at F;have ah:=UX wr 34 34 rfl;have r3:=J.rl;have r5:=B.rl;have HN:Hi (Vl w (O.setCell (A1 w 34) (pF (some (A_ U 0)) 2 T)) (w+1) a (pF (some (A_ U 0)) 2 T) (pF (some (A_ g 0)) (1+1) c) 2):=lH (by
      have hk6:Aa [w.heap.size+1] O (O.setCell (A1 w 34) (pF (some (A_ U 0)) 2 T)):=(Aa.refl _ _).setCell (.inl bA) _;have hS:∀q C fr,O.heap[q]? = some (.cells C 5 fr)->q∉[w.heap.size+1]:=fun q C fr hq hm=>by
       simp only [Ac,Ab,or_false] at hm;subst hm;unfold Blk at B;rw [hq] at B;injection B with B
       injection B with _ ht
       exact absurd ht bE
      refine⟨?_,Ah D hk6 (fun g' Y hm'=>N5 D B bE (by simp only [Ac,Ab,or_false] at hm';subst hm';simp [Y])),hk5.own hk6 bF,M,?_,?_⟩
      ·have:=B.set_ 34 (pF (some (A_ U 0)) 2 T)
       rw [Te] at this;exact this
      ·exact(E _ _ _ ha).keeps hk6 hS
      ·exact N.keeps hk6 hS)
     clear hb hrow hk M ha HS J B D hk5 N E;go_wp2_with (at_builtin;refine Au _ rfl _ _ 64 rfl rfl rfl F ?_);go_roundw;case rel=>exact⟨_,_,_,.inr (.inr ⟨rfl,HN⟩)⟩
     case measure=>simp [intOf]
    ·go_wp2
     go_ret;exact⟨_,a,b,v,rfl,by omega,HS.o⟩
end
end Go.Proofs.YtjieiikpolahfaaGreatDoor
