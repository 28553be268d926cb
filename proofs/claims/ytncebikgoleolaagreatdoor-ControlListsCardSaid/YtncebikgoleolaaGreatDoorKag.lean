/- Steps. -/
import Derived.Test.YtncebikgoleolaaGreatDoorKaf
import Derived.Deep.DeepCutAuto
import Derived.Deep.QuietTactic
import Derived.BigQuiet
import Derived.Defers
import Derived.Laws.Pointers
import Derived.Laws.LoneSync
import Derived.RegionCalls
import Derived.ChangeAlike
import Derived.Laws.IdiomStrings
import Derived.Deep.WholeRow
import Derived.Lib.SliceRun
set_option maxRecDepth 100000
set_option maxHeartbeats 8000000
set_option linter.all false
namespace Go.Proofs.YtncebikgoleolaaGreatDoor
open Tryz
open _root_.Go renaming undef→UD
open _root_.And renaming intro→Bl
open _root_.Array renaming getElem?_eq_some_iff→Ai,getElem?_setIfInBounds→Bj,replicate_succ→Bt,replicate_zero→Bu
open _root_.Bool renaming and_eq_true→Af
open Builtin renaming append_→BI
open Ending renaming returned→pJ
open Instr renaming slice→AV
open IntKind renaming i64→pK
open Lib renaming run_eql_slice_nil→AK
open _root_.List renaming append_toArray→BD,cons_append→AL,eq_nil_of_length_eq_zero→Ds,getElem?_eq_getElem→Aq,getElem?_eq_some_iff→Ad,getElem?_take→Dh,getElem_mem→pS,length_append→Al,length_cons→Av,length_drop→B1,length_nil→D4,length_singleton→Bp,length_take→Ax,mem_append→AQ,mem_cons→Ac,mem_of_mem_drop→qI,mem_singleton→Ag,nil_append→BH,not_mem_nil→Ab,push_toArray→Cd,size_toArray→Cz,take_append_drop→Dn,take_of_length_le→Ak
open _root_.Nat renaming add_assoc→EA,le_refl→Aw,le_trans→A8,lt_of_lt_of_le→BS,reduceAdd→pL,reduceSub→pM
open Oper renaming semAt_some→pN
open Value renaming agg→pH,bool→pI,int→pE,ownBlock→EZ,pointer→pG,slice→pF,string→Dz
open World renaming block_lt_of_cell?→Be,cell?_of_block→BL,ownsRow_nil→BQ
section
open Go.RowKit Go.Shelf
attribute [local go_sem ↓] wp_at_zero wp_at_succ
theorem Oz{α:Type}(p:α->Bool)(l:List α):(l.filter p).length<=l.length:=List.length_filter_le p l
theorem BP.keepsS{S:List Nat}{w w':World}{a:Option Addr}{c:Nat}{V:List SV}{p:Po}(h:BP w a c V p)(hk:Aa S w w')(hS:∀k∈S,∃cs,Blk w k 32 cs/\32≠9/\32≠43):BP w' a c V p:=by
 have D:∀k∈S,∀(cs:Array Value) (t:TypeId) (B:Nat×Nat),w.heap[k]? = some (Obj.cells cs t B)->t=32:=fun k hk cs t B h=>by
  obtain⟨E,hb,_⟩:=hS k hk;have F:w.heap[k]? = some (Obj.cells E 32 (0,0)):=hb;rw [F] at h;injection h with h
  injection h with _ h3 _
  exact h3.symm
 exact⟨h.le,h.small,h.row.keepsS hk (fun k hm cs B hb=>by
  obtain⟨_,_,_,hne⟩:=hS k hm;exact hne (D k hm cs _ B hb).symm),h.mt.keepsS hk (fun k hm cs B hb=>by
  obtain⟨_,_,hne,_⟩:=hS k hm;exact hne (D k hm cs _ B hb).symm)⟩
theorem Va{w A E:World}{B:Nat}{U:Value}{F:List SV}{L:List Sn}{x now:Int}{G:Option Addr}{T m:Nat}{xs:List ByteArray}{a:Option Addr}{n c:Nat}
 (hs:Da E B U (F++[⟨x,G,m,T,now⟩]))(hk:D7 B A E)(hM:Mt A F L)(hS:Cy A G T xs)(hm:xs.length=m)(hl:F.length<=1000)(hw:Aa [] w A)
 (h0:Blk A w 32 #[pF a n c,I_ x])(h2:Blk A (w+1+1) 32 #[pF none 0 0,I_ 0])(hz:w.heap.size+1+1<B)(_:B<=A.heap.size)(N:∀z∈F,SO w z)(M:Fr w G m):
  ∃a9 k9 c9 V9,U = pF a9 k9 c9/\Hi (V9.length=k9)/\Hi (BP E a9 c9 V9 ⟨L++[⟨x,xs,now⟩],x+1⟩)/\Hi (Aa [] w E)/\Hi (Blk E w 32 #[pF a n c,I_ x])/\Hi (Blk E (w+1+1) 32 #[pF none 0 0,I_ 0])/\Hi (∀z∈V9,SO w z):=by
 obtain⟨a9,c9,rfl,J,O⟩:=hs.row;refine⟨a9,_,c9,_,rfl,lH rfl,lH ⟨J,by rw [Al,Bp];omega,O,?_⟩,lH (Aa.of_below ((hw.below (Aw _) bA).trans (hk.low.mono bB)) []),lH ((hk.low.block _ bB).trans h0),lH ((hk.low.block _ hz).trans h2),lH (fun z D=>by
  rcases AQ.1 D with D | D
  ·exact N z D
  ·obtain rfl:=Ag.1 D
   exact M)⟩
 exact(hM.strK hk).app ⟨⟨rfl,rfl,hm.symm,hS.strK hk⟩,trivial⟩
theorem dL(a:Option Addr)(c:Nat)(V:List SV)(p:Po)(n:Nat)(hn:V.length=n)(ia:Option Addr)(ic m:Nat)(xs:List ByteArray)(hm:xs.length=m)(now:Int)(w:World)(hP:BP w a c V p)(hI:Cy w ia ic xs)(e:Nat->Addr)(he:M1 w e)
 (hy:Db p now=true)(hz:Dd xs=true)(hx:p.next<1000000000000):
  Calls prog 161 #[pH #[pF a n c,I_ p.next],pF ia m ic,I_ now] w (OA w ⟨JO p.l now++[⟨p.next,xs,now⟩],p.next+1⟩ p.next 0):=by
 have ah:=Ik hy;obtain⟨bd,an,bt⟩:=LX hy;obtain⟨x,a0⟩:=eX p.next;have hn3:n<=3:=by rw [<- hn,hP.mt.len];exact ah.1
 have hx1:1<=x:=by rw [<- a0];exact ah.2.1
 have aw:=fun W (hk:Aa [] w W)=>L6 a c V p n hn now W (hP.keeps hk) e (he.keep hk) true hy;have ax:=fun W (hk:Aa [] w W)=>Gk ia ic xs true hz W (hI.at_.keeps hk) hI.small hI.size;have a7:=fun W (hk:Aa [] w W)=>YZ a c V p.l n hn bB W (hP.row.keeps hk) (hP.mt.keeps hk);rw [hm] at ax;rw [a0] at aw hx ⊢;have hx2:¬(1000000000000:Int)<=x:=bB;have bi:=lH aw;have bj:=lH ax;have HCO:=lH a7;have HI:=lH hI;have HM:=lH hm;have HT:=lH bd;have HNO:=lH an;have HLN:Hi (p.l.length=n):=lH (by rw [<- hn,hP.mt.len]);have HB0:=lH ((((Blk.new w 32 #[pF a n c,I_ x]).alloc (.cells #[pE pK now] 3)).alloc (.cells #[pF none 0 0,I_ 0] 32)));have HB1:=lH ((Ar (w.alloc (.cells #[pF a n c,I_ x] 32)) 3 #[pE pK now] (w+1) bA).alloc (.cells #[pF none 0 0,I_ 0] 32));have HB2:=lH (Ar ((w.alloc (.cells #[pF a n c,I_ x] 32)).alloc (.cells #[pE pK now] 3)) 32 #[pF none 0 0,I_ 0] (w+1+1) bA);have HK:=lH ((((Aa.refl [] w).alloc (.cells #[pF a n c,I_ x] 32)).alloc (.cells #[pE pK now] 3)).alloc (.cells #[pF none 0 0,I_ 0] 32));clear aw ax a7 he hP hI a0 hn hm ah bd an hy hz;go_enter func161,ntmps161;go_wp2_with fail;refine(bi.o _ HK.o).mono ?_;rintro r w1 ⟨rfl,hk⟩;have HB0:=lH (HB0.o.keeps hk bA);have HB1:=lH (HB1.o.keeps hk bA);have HB2:=lH (HB2.o.keeps hk bA);have HK:=lH (HK.o.trans hk);clear hk;unfold Jj;go_wp2_with fail;refine(bj.o _ HK.o).mono ?_;rintro r w2 ⟨rfl,hk⟩;have HB0:=lH (HB0.o.keeps hk bA);have HB1:=lH (HB1.o.keeps hk bA);have HB2:=lH (HB2.o.keeps hk bA);have HK:=lH (HK.o.trans hk);clear hk;have HSZ:Hi (w.heap.size+1+1<w2.heap.size):=lH HB2.o.lt;have p0:_=some (pF a n c):=HB0.o.cell 0;have p1:_=some (pE .i64 x):=HB0.o.cell 1;go_wp2_with fail;refine(HCO.o _ HK.o).mono ?_;rintro r w3 ⟨v0,V0,rfl,bb,al,hb0,ba⟩;have bl:Hi (∀z∈V0,SO w z):=lH (fun z hz=>Fr.down (ba z hz) HK.o.size);clear ba;have hk:=Aa.of_below hb0 [];have HB0:=lH (HB0.o.keeps hk bA);have HB1:=lH (HB1.o.keeps hk bA);have HB2:=lH (HB2.o.keeps hk bA);have HK:=lH (HK.o.trans hk);have a2:=lH (PW v0 V0 w2 (by rw [al.len,HLN.o];omega) now HNO.o (Mt.used al HT.o) (w+1) w3 hb0.size bP (HB1.o.cell 0) bb);have bm:=lH al;have bo:=lH hb0.size;clear hk bb al hb0 p0 p1;go_wp2_with fail;refine a2.o.mono ?_;clear a2;rintro r w4 ⟨v1,rfl,hs1,hk1⟩;obtain⟨F,hF⟩:=eX (V0.filter (Ei now));have ay:Mt w4 F (p.l.filter (Fs now)):=by rw [<- hF];exact(bm.o.strK hk1).filter now
 have a3:Hi (∀z∈F,SO w z):=lH (fun z hz=>bl.o z (List.mem_filter.1 (by rw [<- hF] at hz;exact hz)).1);rw [hF] at hs1;have ab:∀ {g:Nat} {ty:TypeId} {cs:Array Value},Blk w3 g ty cs->g<w2.heap.size->Blk w4 g ty cs:=fun h hg=>(hk1.low.block _ hg).trans h;have HB0:=lH (ab HB0.o bP);have HB1:=lH (ab HB1.o bP);have HB2:=lH (ab HB2.o HSZ.o);have HK4:Hi (Aa [] w w4):=lH (Aa.of_below ((HK.o.below (Aw _) bA).trans (hk1.low.mono bP)) []);have ad:Hi (Cy w4 ia ic xs):=lH (HI.o.keeps HK4.o);have HSB:Hi (w2.heap.size<=w4.heap.size):=lH (A8 bo.o hk1.low.size);have bs:F.length<=3:=by rw [ay.len];exact A8 (Oz _ _) (by rw [HLN.o];exact hn3)
 obtain⟨k,hk⟩:=eX F.length;have HKF:=lH hk;have ak:=lH ay;have pn:w4.cell? (A_ w 1)=some (I_ x):=HB0.o.cell 1;have pw:w4.cell? (A1 w 0)=some (I_ now):=HB1.o.cell 0;obtain⟨a1,c1,be,av,-⟩:=hs1.row;rw [hk] at be av bs;subst be;clear ay hF hk;by_cases hk3:k=3
 ·subst hk3
  obtain⟨g,off,cap,hv,br,az⟩:=hs1.tail (by rw [HKF.o];omega);injection hv with e1 e2 e3
  subst e1;subst e3;clear e2;have b1:(AV 30 (pF (some (A_ g off)) 3 c1) (some (I_ 1)) none none).run prog w4 = .ok (pF (some (A_ g (off+3))) 2 (c1 - 1)) w4:=by
   have:=Fw w4 g off 3 c1 1 bB br;simpa using this
  have ae:Hi (Da w4 w2 (pF (some (A_ g (off+3))) 2 (c1 - 1)) (F.drop 1)):=lH (by rw [HKF.o] at az;simpa using az);have HM4:Hi (Mt w4 (F.drop 1) (JO p.l now)):=lH (by unfold JO;rw [<- ak.o.len,HKF.o,if_pos rfl];exact ak.o.drop 1);have Y:Hi ((F.drop 1).length<=1000):=lH (by rw [B1,HKF.o];omega);have aj:Hi (∀z∈F.drop 1,SO w z):=lH (fun z hz=>a3.o z (qI hz));obtain⟨F2,a6⟩:=eX (F.drop 1);rw [a6] at ae HM4 Y aj;clear hs1 az av hk1 a6;go_wp2;have ai:∀w':World,w'.heap[w.heap.size]? = w4.heap[w.heap.size]?->w'.heap[w.heap.size+1]? = w4.heap[w.heap.size+1]?->(w'.cell? (A_ w 1)=some (I_ x)/\w'.cell? (A1 w 0)=some (I_ now)):=fun w' h0 h1=>⟨(BL (a:=A_ w 1) h0).trans pn,(BL (a:=A1 w 0) h1).trans pw⟩;have HSS:=lH ai;clear ai pn pw ab;go_cut [11] (fun v wx=>∃M O N V9,v = pF M O N/\Hi (V9.length=O)/\Hi (BP wx M N V9 ⟨JO p.l now++[⟨x,xs,now⟩],x+1⟩)/\Hi (Aa [] w wx)/\Hi (Blk wx w 32 #[pF a n c,I_ x])/\Hi (Blk wx (w+1+1) 32 #[pF none 0 0,I_ 0])/\Hi (∀z∈V9,SO w z))
  case first=>
   refine wp_region_held_drew (S:=(fun w':World=>w'.cell? (A_ w 1)=some (I_ x)/\w'.cell? (A1 w 0)=some (I_ now))) bC fB (fun hHeld=>?_);refine rQ 0 ?_;refine rQ 1 ?_;refine rQ 2 ?_;refine rQ 3 ?_;refine rQ 5 ?_;refine rC 4 fun K hK=>?_;go_simp
   (first | ((with_reducible refine(Gy ia ic xs m HM.o _ (ad.o.keeps ((Aa.refl [] w4).drew))).mono ?_);rintro e5 w5 ⟨T,c5,rfl,G,hk5,E⟩;have X:Hi (Fr w T m):=lH (E.down HK4.o.size);have HK5:=lH (((Aa.refl [] w4).drew).trans hk5);have aa:=lH G;have hS5:=HSS.o w5 (HK5.o.block _ HB0.o.lt bA) (HK5.o.block _ HB1.o.lt bA);have hS5a:=fun o=>HSS.o (w5.alloc o) ((HK5.o.alloc o).block _ HB0.o.lt bA) ((HK5.o.alloc o).block _ HB1.o.lt bA);clear G hk5 E) | (obtain⟨v9,w9,D,J,hk9⟩:=Da.push ((ae.o.keeps HK5.o).keeps ((Aa.refl [] w5).alloc (.cells (SV.arr (⟨x,T,m,c5,now⟩:SV)) 43))) Y.o iU w5 (⟨x,T,m,c5,now⟩:SV) (Blk.new w5 43 (SV.arr (⟨x,T,m,c5,now⟩:SV))) 30;simp only [SV.arr] at D;refine Cf _ _ 30 bD bD bD bD D ?_;have hS9:=HSS.o w9 ((hk9.low.block _ bP).trans ((HK5.o.alloc _).block _ HB0.o.lt bA)) ((hk9.low.block _ bP).trans ((HK5.o.alloc _).block _ HB1.o.lt bA));have af:=lH J;have HK9:=lH hk9;clear J hk9 D))
   refine rO hK fB fun hHeld=>?_;clear hK K;refine rQ 6 ?_;refine rC 7 fun K hK=>?_;go_simp;refine rO hK fB fun hHeld=>?_;clear hK K;refine rC 8 fun K hK=>?_
   (first | ((with_reducible refine(Gy ia ic xs m HM.o _ (ad.o.keeps ((Aa.refl [] w4).drew))).mono ?_);rintro e5 w5 ⟨T,c5,rfl,G,hk5,E⟩;have X:Hi (Fr w T m):=lH (E.down HK4.o.size);have HK5:=lH (((Aa.refl [] w4).drew).trans hk5);have aa:=lH G;have hS5:=HSS.o w5 (HK5.o.block _ HB0.o.lt bA) (HK5.o.block _ HB1.o.lt bA);have hS5a:=fun o=>HSS.o (w5.alloc o) ((HK5.o.alloc o).block _ HB0.o.lt bA) ((HK5.o.alloc o).block _ HB1.o.lt bA);clear G hk5 E) | (obtain⟨v9,w9,D,J,hk9⟩:=Da.push ((ae.o.keeps HK5.o).keeps ((Aa.refl [] w5).alloc (.cells (SV.arr (⟨x,T,m,c5,now⟩:SV)) 43))) Y.o iU w5 (⟨x,T,m,c5,now⟩:SV) (Blk.new w5 43 (SV.arr (⟨x,T,m,c5,now⟩:SV))) 30;simp only [SV.arr] at D;refine Cf _ _ 30 bD bD bD bD D ?_;have hS9:=HSS.o w9 ((hk9.low.block _ bP).trans ((HK5.o.alloc _).block _ HB0.o.lt bA)) ((hk9.low.block _ bP).trans ((HK5.o.alloc _).block _ HB1.o.lt bA));have af:=lH J;have HK9:=lH hk9;clear J hk9 D))
   refine rO hK fB fun hHeld=>?_;clear hK K;refine rQ 9 ?_;refine wpAnyH_done bC ?_ _
   (go_wp2_with fail;go_meet;exact Va af.o HK9.o (HM4.o.keeps (HK5.o.alloc _)) (aa.o.keeps ((Aa.refl [] w5).alloc _)) HM.o Y.o ((HK4.o.trans HK5.o).alloc _) ((HB0.o.keeps HK5.o bA).alloc _) ((HB2.o.keeps HK5.o bA).alloc _) HSZ.o iU aj.o X.o)
  case rest=>
   obtain⟨M,O,N,V9,rfl,au,ar,HK9,U,B,aq⟩:=hcut;have pn:wc.cell? (A_ w 1)=some (I_ x):=U.o.cell 1;have q0:wc.cell? (A2 w 0)=some (pF none 0 0):=B.o.cell 0;have q1:wc.cell? (A2 w 1)=some (I_ 0):=B.o.cell 1;have f0:=B.o.frozen 0;have f1:=B.o.frozen 1;have bu:IntKind.i64.wrap (x+1)=x+1:=IntWalk.i64_in _ bB;have hw1:∀u v,((wc.drew.setCell (A2 w 0) u).setCell (A2 w 1) v).cell? (A_ w 1)=some (I_ x):=fun u v=>(((U.o.drew).far (p:=A2 w 0) bH u).far (p:=A2 w 1) bH v).cell 1;have HW1:=lH hw1;have HBF:=lH (Bl (B.o.set_ 0 (pF M O N)) ((B.o.set_ 0 (pF M O N)).set_ 1 (I_ (x+1))));have HKF:=lH ((HK9.o.drew.setCell (p:=A2 w 0) (.inr bH) (pF M O N)).setCell (p:=A2 w 1) (.inr bH) (I_ (x+1)));have HPF:=lH ((ar.o.keepsS (Aa.drew (Aa.refl [w.heap.size+1+1] wc) |>.setCell (p:=A2 w 0) (.inl bA) (pF M O N) |>.setCell (p:=A2 w 1) (.inl bA) (I_ (x+1))) (fun k hk=>by simp at hk;subst hk;exact⟨_,B.o,by decide,by decide⟩)));clear hw1;go_wp2_with fail;refine wp_region_held_drew (S:=(fun w':World=>w'.cell? (A_ w 1)=some (I_ x))) bC lK (fun hHeld=>?_);refine rQ 0 ?_;refine rQ 1 ?_;refine rQ 2 ?_;refine rQ 3 ?_;refine rQ 4 ?_;refine rQ 5 ?_;refine rQ 6 ?_;refine rC 7 fun K hK=>?_;go_simp;refine rO hK lK fun hHeld=>?_;clear hK K;refine rQ 8 ?_;refine rQ 9 ?_;refine wpAnyH_done bC ?_ _
   (go_wp2;refine bodyPost_ret (v:=.tuple #[pH #[pF M O N,I_ (x+1)],I_ x,I_ 0]) (by have q0:_=some (pF M O N):=HBF.o.1.cell 0;have q1:_=some (pE .i64 (x+1)):=HBF.o.2.cell 1;simp [results,results161,go_sem,q0,q1]) rfl ?_;exact⟨M,O,N,V9,rfl,au.o,HPF.o,HKF.o,aq.o⟩)
 ·have bw:((k:Int)==3)=false:=by simp;omega
  have ae:Hi (Da w4 w2 (pF a1 k c1) F):=lH hs1;have HM4:Hi (Mt w4 F (JO p.l now)):=lH (by unfold JO;rw [<- ak.o.len,HKF.o,if_neg hk3];exact ak.o);have aj:=a3;have Y:Hi (F.length<=1000):=lH (by rw [HKF.o];omega);clear hs1 av hk1;go_wp2;have ai:∀w':World,w'.heap[w.heap.size]? = w4.heap[w.heap.size]?->w'.heap[w.heap.size+1]? = w4.heap[w.heap.size+1]?->(w'.cell? (A_ w 1)=some (I_ x)/\w'.cell? (A1 w 0)=some (I_ now)):=fun w' h0 h1=>⟨(BL (a:=A_ w 1) h0).trans pn,(BL (a:=A1 w 0) h1).trans pw⟩;have HSS:=lH ai;clear ai pn pw ab;go_cut [11] (fun v wx=>∃M O N V9,v = pF M O N/\Hi (V9.length=O)/\Hi (BP wx M N V9 ⟨JO p.l now++[⟨x,xs,now⟩],x+1⟩)/\Hi (Aa [] w wx)/\Hi (Blk wx w 32 #[pF a n c,I_ x])/\Hi (Blk wx (w+1+1) 32 #[pF none 0 0,I_ 0])/\Hi (∀z∈V9,SO w z))
  case first=>
   refine wp_region_held_drew (S:=(fun w':World=>w'.cell? (A_ w 1)=some (I_ x)/\w'.cell? (A1 w 0)=some (I_ now))) bC fB (fun hHeld=>?_);refine rQ 0 ?_;refine rQ 1 ?_;refine rQ 2 ?_;refine rQ 3 ?_;refine rQ 5 ?_;refine rC 4 fun K hK=>?_;go_simp
   (first | ((with_reducible refine(Gy ia ic xs m HM.o _ (ad.o.keeps ((Aa.refl [] w4).drew))).mono ?_);rintro e5 w5 ⟨T,c5,rfl,G,hk5,E⟩;have X:Hi (Fr w T m):=lH (E.down HK4.o.size);have HK5:=lH (((Aa.refl [] w4).drew).trans hk5);have aa:=lH G;have hS5:=HSS.o w5 (HK5.o.block _ HB0.o.lt bA) (HK5.o.block _ HB1.o.lt bA);have hS5a:=fun o=>HSS.o (w5.alloc o) ((HK5.o.alloc o).block _ HB0.o.lt bA) ((HK5.o.alloc o).block _ HB1.o.lt bA);clear G hk5 E) | (obtain⟨v9,w9,D,J,hk9⟩:=Da.push ((ae.o.keeps HK5.o).keeps ((Aa.refl [] w5).alloc (.cells (SV.arr (⟨x,T,m,c5,now⟩:SV)) 43))) Y.o iU w5 (⟨x,T,m,c5,now⟩:SV) (Blk.new w5 43 (SV.arr (⟨x,T,m,c5,now⟩:SV))) 30;simp only [SV.arr] at D;refine Cf _ _ 30 bD bD bD bD D ?_;have hS9:=HSS.o w9 ((hk9.low.block _ bP).trans ((HK5.o.alloc _).block _ HB0.o.lt bA)) ((hk9.low.block _ bP).trans ((HK5.o.alloc _).block _ HB1.o.lt bA));have af:=lH J;have HK9:=lH hk9;clear J hk9 D))
   refine rO hK fB fun hHeld=>?_;clear hK K;refine rQ 6 ?_;refine rC 7 fun K hK=>?_;go_simp;refine rO hK fB fun hHeld=>?_;clear hK K;refine rC 8 fun K hK=>?_
   (first | ((with_reducible refine(Gy ia ic xs m HM.o _ (ad.o.keeps ((Aa.refl [] w4).drew))).mono ?_);rintro e5 w5 ⟨T,c5,rfl,G,hk5,E⟩;have X:Hi (Fr w T m):=lH (E.down HK4.o.size);have HK5:=lH (((Aa.refl [] w4).drew).trans hk5);have aa:=lH G;have hS5:=HSS.o w5 (HK5.o.block _ HB0.o.lt bA) (HK5.o.block _ HB1.o.lt bA);have hS5a:=fun o=>HSS.o (w5.alloc o) ((HK5.o.alloc o).block _ HB0.o.lt bA) ((HK5.o.alloc o).block _ HB1.o.lt bA);clear G hk5 E) | (obtain⟨v9,w9,D,J,hk9⟩:=Da.push ((ae.o.keeps HK5.o).keeps ((Aa.refl [] w5).alloc (.cells (SV.arr (⟨x,T,m,c5,now⟩:SV)) 43))) Y.o iU w5 (⟨x,T,m,c5,now⟩:SV) (Blk.new w5 43 (SV.arr (⟨x,T,m,c5,now⟩:SV))) 30;simp only [SV.arr] at D;refine Cf _ _ 30 bD bD bD bD D ?_;have hS9:=HSS.o w9 ((hk9.low.block _ bP).trans ((HK5.o.alloc _).block _ HB0.o.lt bA)) ((hk9.low.block _ bP).trans ((HK5.o.alloc _).block _ HB1.o.lt bA));have af:=lH J;have HK9:=lH hk9;clear J hk9 D))
   refine rO hK fB fun hHeld=>?_;clear hK K;refine rQ 9 ?_;refine wpAnyH_done bC ?_ _
   (go_wp2_with fail;go_meet;exact Va af.o HK9.o (HM4.o.keeps (HK5.o.alloc _)) (aa.o.keeps ((Aa.refl [] w5).alloc _)) HM.o Y.o ((HK4.o.trans HK5.o).alloc _) ((HB0.o.keeps HK5.o bA).alloc _) ((HB2.o.keeps HK5.o bA).alloc _) HSZ.o iU aj.o X.o)
  case rest=>
   obtain⟨M,O,N,V9,rfl,au,ar,HK9,U,B,aq⟩:=hcut;have pn:wc.cell? (A_ w 1)=some (I_ x):=U.o.cell 1;have q0:wc.cell? (A2 w 0)=some (pF none 0 0):=B.o.cell 0;have q1:wc.cell? (A2 w 1)=some (I_ 0):=B.o.cell 1;have f0:=B.o.frozen 0;have f1:=B.o.frozen 1;have bu:IntKind.i64.wrap (x+1)=x+1:=IntWalk.i64_in _ bB;have hw1:∀u v,((wc.drew.setCell (A2 w 0) u).setCell (A2 w 1) v).cell? (A_ w 1)=some (I_ x):=fun u v=>(((U.o.drew).far (p:=A2 w 0) bH u).far (p:=A2 w 1) bH v).cell 1;have HW1:=lH hw1;have HBF:=lH (Bl (B.o.set_ 0 (pF M O N)) ((B.o.set_ 0 (pF M O N)).set_ 1 (I_ (x+1))));have HKF:=lH ((HK9.o.drew.setCell (p:=A2 w 0) (.inr bH) (pF M O N)).setCell (p:=A2 w 1) (.inr bH) (I_ (x+1)));have HPF:=lH ((ar.o.keepsS (Aa.drew (Aa.refl [w.heap.size+1+1] wc) |>.setCell (p:=A2 w 0) (.inl bA) (pF M O N) |>.setCell (p:=A2 w 1) (.inl bA) (I_ (x+1))) (fun k hk=>by simp at hk;subst hk;exact⟨_,B.o,by decide,by decide⟩)));clear hw1;go_wp2_with fail;refine wp_region_held_drew (S:=(fun w':World=>w'.cell? (A_ w 1)=some (I_ x))) bC lK (fun hHeld=>?_);refine rQ 0 ?_;refine rQ 1 ?_;refine rQ 2 ?_;refine rQ 3 ?_;refine rQ 4 ?_;refine rQ 5 ?_;refine rQ 6 ?_;refine rC 7 fun K hK=>?_;go_simp;refine rO hK lK fun hHeld=>?_;clear hK K;refine rQ 8 ?_;refine rQ 9 ?_;refine wpAnyH_done bC ?_ _
   (go_wp2;refine bodyPost_ret (v:=.tuple #[pH #[pF M O N,I_ (x+1)],I_ x,I_ 0]) (by have q0:_=some (pF M O N):=HBF.o.1.cell 0;have q1:_=some (pE .i64 (x+1)):=HBF.o.2.cell 1;simp [results,results161,go_sem,q0,q1]) rfl ?_;exact⟨M,O,N,V9,rfl,au.o,HPF.o,HKF.o,aq.o⟩)
end
section
open Go.RowKit Go.Shelf
attribute [local go_sem] pN
attribute [local go_sem ↓] wp_at_zero wp_at_succ
theorem iC(a:Option Addr)(c:Nat)(V:List SV)(p:Po)(n:Nat)(hn:V.length=n)(B:Option Addr)(D m:Nat)(xs:List ByteArray)(hm:xs.length=m)(now:Int)(w:World)(hP:BP w a c V p)(hI:Cy w B D xs)(e:Nat->Addr)(he:M1 w e)
 (q:Po)(cur err:Int)(hA:IV p xs now=(q,cur,err)):
  Calls prog 161 #[pH #[pF a n c,I_ p.next],pF B m D,I_ now] w (OA w q cur err):=by
 cases hc:(Db p now&&Dd xs&&decide (p.next<1000000000000)) with
 | false=>
  rw [Zj hc] at hA;cases hA;exact(dK a c V p n hn B D m xs hm now w hP hI e he hc).mono fun _ _ h=>h.fresh0
 | true=>
  rw [dJ hc] at hA;cases hA;simp only [Af,decide_eq_true_eq] at hc;exact dL a c V p n hn B D m xs hm now w hP hI e he hc.1.1 hc.1.2 hc.2
def Jk(p:Po)(cursor from_ n now:Int):Int×Option Nat:=
 if Db p now then(if n<1\/10<n then(0,some 1) else match CN (Ga cursor from_ now) p.l with
  | none=>(0,some 2)
  | some i=>(i,none)) else(0,some 0)
theorem Nd{f:Sn->Bool}: ∀ {l:List Sn} (s:Sn),CN f l=none->CN f (l++[s])=if f s then some l.length else none
 | [],s,_=>by simp only [BH,CN];split<;>rfl
 | x::l,s,h=>by
  unfold CN at h;split at h
  ·cases h
  ·rename_i hx
   have h2:CN f l=none:=by
    cases hf:CN f l with
    | none=>rfl
    | some i=>rw [hf] at h;cases h
   rw [AL,CN,if_neg hx,Nd s h2];split<;>rfl
theorem OW{f:Sn->Bool}{k:Nat}: ∀ {l:List Sn} (m:List Sn),CN f l=some k->CN f (l++m)=some k
 | [],_,h=>by cases h
 | x::l,m,h=>by
  unfold CN at h;rw [AL,CN];split at h
  ·rename_i hx;rw [if_pos hx];exact h
  ·rename_i hx
   rw [if_neg hx];cases hf:CN f l with
   | none=>rw [hf] at h;cases h
   | some i=>
    rw [hf] at h;rw [OW m hf];exact h
theorem Nf{f:Sn->Bool}{L:List Sn}{k:Nat}{s:Sn}(h:L[k]? = some s)(hn:CN f (L.take k)=none):CN f (L.take (k+1))=if f s then some k else none:=by
 rw [DS h,Nd s hn];have:(L.take k).length=k:=by rw [Ax];have:=(Ad.1 h).1;omega
 rw [this]
theorem Wd{f:Sn->Bool}{L:List Sn}{k:Nat}{s:Sn}(h:L[k]? = some s)(hn:CN f (L.take k)=none)(hf:f s=true):CN f L=some k:=by
 have:=Nf h hn;rw [if_pos hf] at this;have h2:=OW (L.drop (k+1)) this
 rwa [Dn] at h2
structure LR(w A:World)(a:Option Addr)(n c:Nat)(x cursor from_ now:Int):Prop where
 b0:Blk A w.heap.size 32 #[pF a n c,pE pK x]
 b1:Blk A (w.heap.size+1) 3 #[pE pK cursor]
 b2:Blk A (w.heap.size+1+1) 3 #[pE pK from_]
 b3:Blk A (w.heap.size+1+1+1) 3 #[pE pK now]
 b4:Blk A (w.heap.size+1+1+1+1) 3 #[pE pK 0]
 b5:Blk A (w.heap.size+1+1+1+1+1) 116 #[.nilIface]
theorem LR.keeps{w A A':World}{a:Option Addr}{n c:Nat}{x cursor from_ now:Int}(h:LR w A a n c x cursor from_ now)(hk:Aa [] A A'):LR w A' a n c x cursor from_ now:=
 ⟨h.b0.keeps hk bA,h.b1.keeps hk bA,h.b2.keeps hk bA,h.b3.keeps hk bA,h.b4.keeps hk bA,h.b5.keeps hk bA⟩
theorem LR.low{B:Nat}{w A A':World}{a:Option Addr}{n c:Nat}{x cursor from_ now:Int}(h:LR w A a n c x cursor from_ now)(hB:w.heap.size+6<=B)(hk:Below B A A'):LR w A' a n c x cursor from_ now:=
 ⟨Df h.b0 bB hk,Df h.b1 bB hk,Df h.b2 bB hk,Df h.b3 bB hk,Df h.b4 bB hk,Df h.b5 bB hk⟩
theorem Wc(w:World)(a:Option Addr)(n c:Nat)(x cursor from_ now:Int):
  LR w ((((((w.alloc (.cells #[pF a n c,I_ x] 32)).alloc (.cells #[pE pK cursor] 3)).alloc (.cells #[pE pK from_] 3)).alloc (.cells #[pE pK now] 3)).alloc (.cells #[pE pK 0] 3)).alloc (.cells #[.nilIface] 116)) a n c x cursor from_ now:=
 ⟨((((((Ar _ _ _ _ rfl).alloc _).alloc _).alloc _).alloc _).alloc _),((((Ar _ _ _ _ bA).alloc _).alloc _).alloc _).alloc _,(((Ar _ _ _ _ bA).alloc _).alloc _).alloc _,((Ar _ _ _ _ bA).alloc _).alloc _,(Ar _ _ _ _ bA).alloc _,Ar _ _ _ _ bA⟩
theorem RC(a:Option Addr)(c:Nat)(V:List SV)(p:Po)(n:Nat)(hn:V.length=n)(cursor from_ num now:Int)(w:World)(hP:BP w a c V p)(e:Nat->Addr)(he:M1 w e)
 (i:Int)(o:Option Nat)(hA:Jk p cursor from_ num now=(i,o)):
  Calls prog 197 #[pH #[pF a n c,pE pK p.next],pE pK cursor,pE pK from_,pE pK num,pE pK now] w fun r w'=>r = pJ (.tuple #[pE pK i,Jj e o])/\Aa [] w w':=by
 refine(callsIn_wide (n:=9)).1 ?_;obtain⟨x,hx⟩:=eX (p.next);obtain⟨y,hy⟩:=eX (Db p now);have ak:=fun W (hk:Aa [] w W)=>L6 a c V p n hn now W (hP.keeps hk) e (he.keep hk) y hy;rw [hx] at ak ⊢;have a5:n<=1000000:=by rw [<- hn];exact hP.small
 have az:=lH ak;have HE:=lH he;have HP:=lH hP;have HN:=lH hn;have HA:=lH hA;have HY:=lH hy;have HB:=lH (Wc w a n c x cursor from_ now);have HK:=lH ((((((Aa.refl [] w).alloc (.cells #[pF a n c,pE pK x] 32)).alloc (.cells #[pE pK cursor] 3)).alloc (.cells #[pE pK from_] 3)).alloc (.cells #[pE pK now] 3)).alloc (.cells #[pE pK 0] 3) |>.alloc (.cells #[.nilIface] 116));clear ak he hP hx hn hA hy;refine callsIn_of_wp_marks func197 rfl trivial ?_ rfl;simp only [ntmps197,Cz,Av,D4,pL,pM,Bt,Bu,Cd,BD,BH,AL];gi_wp2_with (fail);refine⟨trivial,(callsIn_wide.2 (az.o _ HK.o)).mono ?_⟩;rintro r w1 ⟨rfl,hk⟩;have HB:=lH (HB.o.keeps hk);have HK:=lH (HK.o.trans hk);clear hk;have r0:w1.cell? (A4 w 0)=some (pE pK 0):=HB.o.b4.cell 0;have r1:w1.cell? (A5 w 0)=some .nilIface:=HB.o.b5.cell 0;have g0:=HB.o.b4.frozen 0;have g1:=HB.o.b5.frozen 0;have hst:∀u,Hi (Aa [] w ((w1.setCell (A4 w 0) (pE pK 0)).setCell (A5 w 0) u)):=fun u=>lH ((HK.o.setCell (p:=A4 w 0) (.inr bH) (pE pK 0)).setCell (p:=A5 w 0) (.inr bH) u);have HST:=lH hst;clear hst;cases y with
 | false=>
  have hA:=HA.o;unfold Jk at hA;rw [HY.o] at hA;cases hA;unfold Jj;gi_wp2;have q0:_=some (pE .i64 0):=((HB.o.b4.set_ 0 (pE pK 0)).far (p:=A5 w 0) bH (.iface 438 (pG (some (e 0))))).cell 0;have q1:_=some (Value.iface 438 (pG (some (e 0)))):=((HB.o.b5.far (p:=A4 w 0) bH (pE pK 0)).set_ 0 (.iface 438 (pG (some (e 0))))).cell 0;exact⟨.tuple #[pE pK 0,.iface 438 (pG (some (e 0)))],by simp [results,results197,go_sem,q0,q1],rfl,(HST.o _).out⟩
 | true=>
  unfold Jj;have e1:=(HE.o.keep HK.o).c1;have ah:=Be w _ (HE.o.c1);have be:¬w.heap.size+1+1+1+1=3:=by dsimp only at ah;omega
  have bg:¬w.heap.size+1+1+1+1+1=3:=by dsimp only at ah;omega
  by_cases hnn:num<1\/10<num
  ·have hA:=HA.o
   unfold Jk at hA;rw [HY.o,if_pos rfl,if_pos hnn] at hA;cases hA;rcases(show num<1\/(¬num<1/\10<num) by omega) with h1 | ⟨h1,h2⟩
   all_goals
    clear hnn;gi_wp2;gi_region;gi_wp2;have q0:_=some (pE .i64 0):=(HB.o.b4.set_ 0 (pE pK 0)).cell 0;have q1:_=some (Value.iface 438 (pG (some (e 1)))):=((HB.o.b5.far (p:=A4 w 0) bH (pE pK 0)).set_ 0 (.iface 438 (pG (some (e 1))))).cell 0;exact⟨.tuple #[pE pK 0,.iface 438 (pG (some (e 1)))],by simp [results,results197,go_sem,q0,q1],rfl,(HST.o _).out.drew⟩
  ·have h1:¬num<1:=by omega
   have h2:¬10<num:=by omega
   have hA:=HA.o;unfold Jk at hA;rw [HY.o,if_pos rfl,if_neg hnn] at hA;have HA:=lH hA;have p0:w1.cell? (A_ w 0)=some (pF a n c):=HB.o.b0.cell 0;have p1:w1.cell? (A_ w 1)=some (pE pK x):=HB.o.b0.cell 1;clear hnn hA r0 r1 g0 g1 e1;gi_wp2_with (fail);refine⟨trivial,(callsIn_wide.2 (Hv _ _ _ _ _)).mono ?_⟩;rintro r w2 ⟨rfl,rfl⟩;gi_wp2_with (fail);obtain⟨W0,T⟩:=eX (w1.alloc (.cells #[pF a n c,pE pK x] 161));have an:W0.heap.size=w1.heap.size+1:=by rw [<- T];simp
   have a7:w.heap.size+6<=w1.heap.size:=HB.o.b5.lt;have am:Aa [] w1 W0:=by rw [<- T];exact(Aa.refl [] w1).alloc _
   have aa:Below w w W0:=(HK.o.trans am).below (Aw _) bA;have ab:=HB.o.keeps am;have bp:W0.cell? (A_ w1 0)=some (pF a V.length c):=by
    rw [<- T,HN.o];exact(Blk.new w1 161 _).cell 0
   rw [T];have HTK:=lH (LX HY.o);clear T am p0 p1;refine Fn rfl bB (gf:=146) (lb:=#[pG (some (A_ w1 0))]) rfl trivial (enters_of func146 bC rfl) (Hw 8 w1 a c V (by rw [HN.o];exact a5) W0 bp) (Below.refl _ _) (fun _=>rfl)
    (fun F A=>Below w w A/\LR w A a n c x cursor from_ now/\CN (Ga cursor from_ now) (p.l.take F.length)=none)
    (fun _ A=>Below w w A/\∃k:Nat,Blk A (w+1+1+1+1) 3 #[pE pK (k:Int)]/\Blk A (w+1+1+1+1+1) 116 #[.nilIface]/\CN (Ga cursor from_ now) p.l=some k)
    (fun s A A' h hb=>⟨h.1.trans (hb.mono bB),h.2.1.low bB hb,h.2.2⟩)
    (fun s A A' h hb=>by
     obtain⟨h1,k,h2,h3,h4⟩:=h;exact⟨h1.trans (hb.mono bB),k,Df h2 bB hb,Df h3 bB hb,h4⟩)
    (fun s A h=>HP.o.row.keeps (Aa.of_below h.1 [])) ⟨aa,ab,rfl⟩
    (fun x' b=>{ tmps:=#[pH #[pF a n c,pE pK x],pE pK cursor,pE pK from_,pE pK num,pE pK now,pG (some (A_ w 0)),pG (some (A1 w 0)),pG (some (A2 w 0)),UD,pG (some (A3 w 0)),pG (some (A4 w 0)),pG (some (A5 w 0)),.nilIface,pE pK (x'.2:Int),pG (some (A_ b 0)),pH #[pF a n c,pE pK x],pE pK now,.nilIface,.nilIface,pI false,UD,pE pK num,pI (decide (num<1)),pI (decide (num<1)),pE pK num,pI (decide (10<num)),pI (decide (num<1)||decide (10<num)),UD,pH #[pF a n c,pE pK x],pH #[pF a n c,pE pK x],.func (.func 146) #[] #[pG (some (A_ w1 0))],pE pK (x'.2:Int),pH (N_ x'.1),UD,UD,UD,UD,UD,UD,UD,UD,UD,UD,UD,UD,UD,UD,UD,UD,UD,UD,UD,UD,UD,UD,UD,UD],defers:=[] })
    (fun x'=>.cells (N_ x'.1) 43) ?assign ?body ?done ?stop
   case assign=>
    intro l x' W K hK;unfold Mf;gi_wp2;exact hK
   case body=>
    rintro l F x' b W ⟨Y,hF,hI⟩ ag hb av;obtain⟨hk,a4,rfl⟩:=MB ag;obtain⟨k,hkk⟩:=eX (F.length);have hkL:k<p.l.length:=by rw [<- HP.o.mt.len,<- hkk];exact hk
    have ac:=HP.o.mt.get F.length hk lU;obtain⟨y,hy⟩:=eX (V[F.length]);obtain⟨s,hs⟩:=eX (p.l[k]);have hm:Oh w y s:=by
     simp only [hkk] at ac hy;rw [hy,hs] at ac;exact ac
    have hb2:Blk W b 43 (N_ y):=by
     have:=av;simp only [hy] at this;exact this
    simp only [hy];have a1:Hi ((F++[(y,F.length)]).length=k+1):=lH (by rw [Al,hkk];rfl);have HS:Hi (p.l[k]? = some s):=lH kF;have a0:=lH hkk;have HNO:Hi (CN (Ga cursor from_ now) (p.l.take k)=none):=lH (by rw [<- hkk];exact hI);obtain⟨u0,ao⟩:=eX (y.cur);obtain⟨u2,ap⟩:=eX (y.used);obtain⟨il,al⟩:=eX (y.il);have d0:W.cell? (A_ b 0)=some (pE pK u0):=by rw [<- ao];exact hb2.cell 0
    have d1:W.cell? (A_ b 1)=some (pF y.ia il y.ic):=by rw [<- al];exact hb2.cell 1
    have d2:W.cell? (A_ b 2)=some (pE pK u2):=by rw [<- ap];exact hb2.cell 2
    have e1:W.cell? (A1 w 0)=some (pE pK cursor):=hF.b1.cell 0;have e2:W.cell? (A2 w 0)=some (pE pK from_):=hF.b2.cell 0;have e3:W.cell? (A3 w 0)=some (pE pK now):=hF.b3.cell 0;have r0:W.cell? (A4 w 0)=some (pE pK 0):=hF.b4.cell 0;have r1:W.cell? (A5 w 0)=some .nilIface:=hF.b5.cell 0;have g0:=hF.b4.frozen 0;have g1:=hF.b5.frozen 0;have N:Hi (s.cur=u0):=lH (by rw [<- ao];exact hm.1.symm);have O:Hi (s.used=u2):=lH (by rw [<- ap];exact hm.2.1.symm);have X:Hi (s.items.length=il):=lH (by rw [<- al];exact hm.2.2.1.symm);have hwr:IntKind.i64.wrap (now - u2)=now - u2:=by
     obtain⟨a6,⟨n1,n2⟩,_⟩:=HTK.o;obtain⟨t1,t2⟩:=a6 s (by rw [<- hs];exact pS _);rw [O.o] at t1 t2;exact IntWalk.i64_in _ bB
    have M:=lH Y;have J:=lH hF;have hs1:w.heap.size+7<=W0.heap.size:=by omega
    clear hs a4 hk ag hkL hy hkk an aa bp ac hm hb2 av Y hF hI ab ao ap al a7;have U:Ga cursor from_ now s=false->CN (Ga cursor from_ now) (p.l.take (F++[(y,F.length)]).length)=none:=fun hh=>by
     rw [a1.o,Nf HS.o HNO.o,if_neg (by rw [hh];simp)]
    have G:=lH U;clear U;by_cases c1:u0=cursor
    ·subst c1
     by_cases c2:now - u2<1000
     ·by_cases c3:0<=from_
      ·by_cases c4:from_<=(il:Int)
       ·have af:Ga u0 from_ now s=true:=by unfold Ga Fs;rw [N.o,O.o,X.o];simp;omega
        have ar:=lH (Wd HS.o HNO.o af);have HKV:Hi (((F.length:Nat):Int)=(k:Int)):=lH (by rw [a0.o]);clear af;gi_wp2;refine⟨(CA.setCell (p:=A4 w 0) bH W _).trans (CA.setCell (p:=A5 w 0) bH _ _),(M.o.setCell (p:=A4 w 0) bH _).setCell (p:=A5 w 0) bH _,k,?_,?_,ar.o⟩
        ·rw [<- HKV.o]
         exact(J.o.b4.set_ 0 _).far (p:=A5 w 0) bH _
        ·exact(J.o.b5.far (p:=A4 w 0) bH _).set_ 0 .nilIface
       ·have B:Ga u0 from_ now s=false:=by unfold Ga Fs;rw [N.o,O.o,X.o];simp;omega
        have E:=lH B;clear B;gi_wp2;exact⟨CA.refl _ _,M.o,J.o,G.o E.o⟩
      ·have B:Ga u0 from_ now s=false:=by unfold Ga Fs;rw [N.o,O.o,X.o];simp;omega
       have E:=lH B;clear B;gi_wp2;exact⟨CA.refl _ _,M.o,J.o,G.o E.o⟩
     ·have B:Ga u0 from_ now s=false:=by unfold Ga Fs;rw [N.o,O.o,X.o];simp;omega
      have E:=lH B;clear B;gi_wp2;exact⟨CA.refl _ _,M.o,J.o,G.o E.o⟩
    ·have B:Ga cursor from_ now s=false:=by unfold Ga;rw [N.o];simp [c1]
     have E:=lH B;have bq:(u0==cursor)=false:=by simp [c1]
     clear B c1;gi_wp2;exact⟨CA.refl _ _,M.o,J.o,G.o E.o⟩
   case done=>
    rintro D W hD ⟨Y,hF,hI⟩ hK;have a3:w.heap.size+7<=D:=by omega
    have hA:=HA.o;rw [Ak (by rw [List.length_zipIdx,HP.o.mt.len];exact Aw _)] at hI;rw [hI] at hA;cases hA;have e2:=(HE.o.keep (Aa.of_below Y [])).c2;have ai:=Be w _ (HE.o.c2);have bf:¬w.heap.size+1+1+1+1=4:=by dsimp only at ai;omega
    have bh:¬w.heap.size+1+1+1+1+1=4:=by dsimp only at ai;omega
    have r0:W.cell? (A4 w 0)=some (pE pK 0):=hF.b4.cell 0;have r1:W.cell? (A5 w 0)=some .nilIface:=hF.b5.cell 0;have g0:=hF.b4.frozen 0;have g1:=hF.b5.frozen 0;have HB:=lH Y;have HF:=lH hF;have au:∀u,((W.drew.setCell (A4 w 0) (pE pK 0)).setCell (A5 w 0) u).heap[D]? = some (.deferred (some [])):=fun u=>by
     rw [Below.heap_setCell _ _ _ _ bH,Below.heap_setCell _ _ _ _ bH];exact hK
    have HKD:=lH au;clear Y hF hI an aa bp ab hK au;gi_wp2;gi_region;gi_wp2;refine⟨by simp,.inl ⟨_,_,rfl,run_takeDeferred (HKD.o _),?_⟩⟩;have q0:=DZ (((HF.o.b4.set_ 0 (pE pK 0)).far (p:=A5 w 0) bH (.iface 438 (pG (some (e 2))))).drew) (D:=D) bB;have q1:=DZ (((HF.o.b5.far (p:=A4 w 0) bH (pE pK 0)).set_ 0 (.iface 438 (pG (some (e 2))))).drew) (D:=D) bB;have q0:_=some (pE .i64 0):=q0;have q1:_=some (Value.iface 438 (pG (some (e 2)))):=q1;refine⟨.tuple #[pE pK 0,.iface 438 (pG (some (e 2)))],by simp [results,results197,go_sem,q0,q1],rfl,Aa.of_below ((((HB.o.setCell (p:=A4 w 0) bH (pE pK 0)).setCell (p:=A5 w 0) bH (.iface 438 (pG (some (e 2))))).drew).trans (belowK_b (n₀:=w.heap.size) (w:=w) (Aw _) _ D _ _ bB (HKD.o _) rfl rfl)) []⟩
   case stop=>
    rintro D F W hD _ ⟨Y,k,b4,b5,hh⟩ hK;have a3:w.heap.size+7<=D:=by omega
    have hA:=HA.o;rw [hh] at hA;cases hA;have HB:=lH Y;clear Y an aa hh bp ab;gi_wp2;refine⟨by simp,.inl ⟨_,_,rfl,run_takeDeferred hK,?_⟩⟩;have q0:=DZ b4 (D:=D) bB;have q1:=DZ b5 (D:=D) bB;refine⟨.tuple #[pE pK (k:Int),.nilIface],by simp [results,results197,go_sem,q0,q1],rfl,Aa.of_below (HB.o.trans (belowK_b (n₀:=w.heap.size) (w:=w) (Aw _) _ D _ _ bB hK rfl rfl)) []⟩
end
section
open Go.RowKit Go.Shelf
attribute [local go_sem ↓] wp_at_zero wp_at_succ
def U4(w:World)(q:Po)(page:List ByteArray)(nx err:Int)(r:Ending)(w':World):Prop:=
 ∃a n c V pa m pc,r = pJ (.tuple #[pH #[pF a n c,pE pK q.next],pF pa m pc,pE pK nx,pE pK err])/\V.length=n/\BP w' a c V q/\page.length=m/\Cy w' pa pc page/\Aa [] w w'
def Lv(w:World)(q:Po)(page:List ByteArray)(nx err:Int)(r:Ending)(w':World):Prop:=
 ∃a n c V pa m pc,r = pJ (.tuple #[pH #[pF a n c,pE pK q.next],pF pa m pc,pE pK nx,pE pK err])/\V.length=n/\BP w' a c V q/\page.length=m/\Cy w' pa pc page/\Aa [] w w'/\(∀z∈V,SO w.heap.size z)/\Fr w.heap.size pa m
theorem Lv.plain{w:World}{q:Po}{page:List ByteArray}{nx err:Int}{r:Ending}{w':World}(h:Lv w q page nx err r w'):U4 w q page nx err r w':=by
 obtain⟨a,n,c,V,pa,m,pc,h1,h2,h3,h4,B,D,_⟩:=h;exact⟨a,n,c,V,pa,m,pc,h1,h2,h3,h4,B,D⟩
theorem U4.fresh0{w:World}{nx err:Int}{r:Ending}{w':World}(h:U4 w Uf [] nx err r w'):Lv w Uf [] nx err r w':=by
 obtain⟨a,n,c,V,pa,m,pc,h1,h2,h3,h4,B,D⟩:=h;obtain rfl:V = []:=Ds h3.mt.len;exact⟨a,n,c,_,pa,m,pc,h1,h2,h3,h4,B,D,(fun z hz=>by cases hz),fun _ _ _ h0=>absurd h0 (by rw [<- h4];exact Nat.lt_irrefl 0)⟩
theorem P4(w:World):Cy w none 0 []:=⟨Aw _,fun h=>absurd rfl h,by simp,by simp,fun _=>rfl⟩
theorem Xe:prog.underlying 41=some (.slice (prog.elem 41)):=bC
theorem Xf(W:World):(sizeOf (prog.elem 41)).run prog W = .ok 1 W:=bC
theorem Uq{w:World}{a:Option Addr}{c:Nat}{xs:List ByteArray}(h:Cy w a c xs)(F T:Nat)(h1:F<=T)(h2:T<=xs.length)(t:Int)(M:t=T):
  ∃a7,(∀W:World,(AV 41 (pF a xs.length c) (some (I_ (F:Int))) (some (I_ t)) (some (I_ t))).run prog W = .ok (pF a7 (T - F) (T - F)) W)/\Cy w a7 (T - F) ((xs.drop F).take (T - F)):=by
 subst M;have B:((xs.drop F).take (T - F)).length=T - F:=by rw [Ax,B1];omega
 refine⟨if T=F then a else a.map (·.add (F*1)),fun W=>?_,?_⟩
 ·have N:=h.le
  have J:=run_slice_lhm (P:=prog) W 41 a xs.length c Xe .i64 .i64 .i64 F T T bB bB bB bB;rw [J,Xf];rfl
 ·refine⟨by rw [B];exact Aw _,fun hn=>?_,by rw [B];have:=h.small;omega,fun x hx=>h.size x (qI (List.mem_of_mem_take hx)),fun he=>?_⟩
  ·have D:¬T=F:=fun e=>hn (Ds (by rw [B];omega))
   obtain⟨g,off,cs,G,rfl,hg,hat⟩:=h.at_ (by rintro rfl;simp at h2;omega);refine⟨g,off+F,cs,G,by rw [if_neg D];simp [FL],hg,fun i hi=>?_⟩;have E:F+i<xs.length:=by rw [B] at hi;omega
   have:=hat (F+i) E;rw [EA,this];simp
  ·by_cases D:T=F
   ·omega
   ·rw [if_neg D] at he
    cases a with
    | none=>
     have hx:xs = []:=Classical.byContradiction fun hn=>by
      obtain⟨g,off,cs,G,e,_⟩:=h.at_ hn;cases e
     subst hx;simp at h2;omega
    | some p=>cases he
theorem N8(a:Option Addr)(c:Nat)(V:List SV)(p:Po)(n:Nat)(hn:V.length=n)(cursor from_ D now:Int)(w:World)(hP:BP w a c V p)(e:Nat->Addr)(he:M1 w e)(i:Int)(k:Nat)(hk3:k<3)(hF:Jk p cursor from_ D now=(i,some k)):
  Calls prog 162 #[pH #[pF a n c,I_ p.next],I_ cursor,I_ from_,I_ D,I_ now] w (U4 w Uf [] 0 (ZQ (some k))):=by
 obtain⟨x,hx⟩:=eX p.next;have B:=fun W (hk:Aa [] w W)=>RC a c V p n hn cursor from_ D now W (hP.keeps hk) e (he.keep hk) i (some k) hF;rw [hx] at B ⊢;obtain⟨q,hq⟩:=eX (ZQ (some k));rw [hq];have E:=lH B;have HE:=lH he;have HQ:=lH hq;have HB1:=lH (Ar (w.alloc (.cells #[pF a n c,I_ x] 32)) 32 #[pF none 0 0,I_ 0] (w+1) bA);have HB0:=lH ((Blk.new w 32 #[pF a n c,I_ x]).alloc (.cells #[pF none 0 0,I_ 0] 32));have HK:=lH (((Aa.refl [] w).alloc (.cells #[pF a n c,I_ x] 32)).alloc (.cells #[pF none 0 0,I_ 0] 32));have F:_=some (pF a n c):=HB0.o.cell 0;have p1:_=some (pE .i64 x):=HB0.o.cell 1;clear B he hP hx hn hF hq;go_enter func162,ntmps162;go_wp2_with fail;refine(E.o _ HK.o).mono ?_;rintro r w1 ⟨rfl,hk⟩;have HB1:=lH (HB1.o.keeps hk bA);have HK:=lH (HK.o.trans hk);clear hk F p1;unfold Jj;go_wp2_with fail;refine(JD (some k) e (fun y hy=>by cases hy;exact hk3) _ (HE.o.keep HK.o) q HQ.o).mono ?_;rintro r w2 ⟨rfl,rfl⟩;have M:=HB1.o.cell 0;have N:=HB1.o.cell 1;have O:=HB1.o.frozen 0;have f1:=HB1.o.frozen 1;have HBF:=lH ((HB1.o.set_ 0 (pF none 0 0)).set_ 1 (I_ 0));have HKF:=lH ((HK.o.setCell (p:=A1 w 0) (.inr bH) (pF none 0 0)).setCell (p:=A1 w 1) (.inr bH) (I_ 0));go_wp2;have G:_=some (pF none 0 0):=HBF.o.cell 0;have J:_=some (pE .i64 0):=HBF.o.cell 1;refine bodyPost_ret (v:=.tuple #[pH #[pF none 0 0,I_ 0],pF none 0 0,I_ 0,I_ q]) (by simp [results,results162,go_sem,G,J]) rfl ?_;exact⟨none,0,0,[],none,0,0,rfl,rfl,JE _,rfl,P4 _,HKF.o⟩
theorem VA{A:World}{b:Nat}{p q r:Value}(h:Blk A b 43 #[p,q,r]):A.cell? (A_ b 0)=some p/\A.cell? (A_ b 1)=some q/\A.cell? (A_ b 2)=some r:=⟨h.cell 0,h.cell 1,h.cell 2⟩
structure Xu(w w5 A:World)(B bx:Nat)(bc pc:Array Value):Prop where
 strk:D7 B w5 A
 box:Blk A bx 43 bc
 pool:Blk A w.heap.size 32 pc
 res:Blk A (w.heap.size+1) 32 #[pF none 0 0,pE pK 0]
 size:B≤A.heap.size
theorem Xu.keeps{w w5 A A':World}{B bx:Nat}{bc pc:Array Value}(h:Xu w w5 A B bx bc pc)(hk:Aa [] A A'):Xu w w5 A' B bx bc pc:=
 ⟨h.strk.trans (D7.of_keeps hk h.size),h.box.keeps hk bA,h.pool.keeps hk bA,h.res.keeps hk bA,A8 h.size hk.size⟩
theorem Xu.step{w w5 A A':World}{B bx g:Nat}{bc pc:Array Value}(h:Xu w w5 A B bx bc pc)(hk:D7 B A A')(hg:Aa [g] A A')(hgb:g≠bx)(hB:w.heap.size+1<B):Xu w w5 A' B bx bc pc:=
 ⟨h.strk.trans hk,h.box.keeps hg (by simpa using Ne.symm hgb),(hk.low.block _ bB).trans h.pool,(hk.low.block _ hB).trans h.res,A8 h.size hk.low.size⟩
theorem Zb{w w5:World}{B E g off n G i:Nat}{bc pc:Array Value}{D:List SV}(h:Xu w w5 w5 B E bc pc)(hs:Da w5 B (pF (some (A_ g off)) n G) D)(hl:D.length<=1000)(hi:i<D.length)(F:g≠E)(J:w.heap.size+1<B)(A:World)(hk:Aa [] w5 A):
  Calls prog 198 #[pF (some (A_ g off)) n G,I_ (i:Int),I_ ((i:Int)+1)] A fun r w'=>∃v',r = pJ v'/\Da w' B v' (D.eraseIdx i)/\Xu w w5 w' B E bc pc/\QB v' = [g]/\Aa [g] A w':=by
 have hA:=h.keeps hk;refine(Yh _ D B hl i hi A hA.size (hs.keeps hk)).mono ?_;rintro r w' ⟨v',rfl,h1,h2,h3,h4⟩;exact⟨v',rfl,h1,hA.step h2 h3 F J,h4,h3⟩
theorem Sg{w w5 A:World}{B E g b:Nat}{bc pc:Array Value}{G:Value}{D:List SV}{x:SV}(h:Xu w w5 A B E bc pc)(hs:Da A B G D)(hr:QB G = [g])(hl:D.length<=1000)(F:g≠E)(M:w.heap.size+1<B)(hb:Blk A b 43 x.arr)(J:TypeId):
  ∃a9 k9 c9 w7,(BI #[30,30] J #[G,pF (some (A_ b 0)) 1 1]).run prog A = .ok (pF a9 k9 c9) w7/\Da w7 B (pF a9 k9 c9) (D++[x])/\(D++[x]).length=k9/\Xu w w5 w7 B E bc pc:=by
 obtain⟨v7,w7,h1,h2,h3,h4⟩:=hs.pushK hl h.size b x hb J;obtain⟨a9,c9,rfl,_,_⟩:=h2.row;rw [hr] at h4;exact⟨a9,_,c9,w7,h1,h2,rfl,h.step h3 h4 F M⟩
theorem Sh{w w5 w7:World}{B T F E:Nat}{bc:Array Value}{D a8:Option Addr}{c8 n c m:Nat}{a:Option Addr}{x now:Int}{J:List SV}{y:SV}{s:Sn}{L:List Sn}{i:Nat}{q:Po}{page:List ByteArray}
 (hs:Da w7 B (pF D F E) (J.eraseIdx i++[⟨y.cur,y.ia,m,y.ic,now⟩]))(hk9:(J.eraseIdx i++[(⟨y.cur,y.ia,m,y.ic,now⟩:SV)]).length=F)(G:Xu w w5 w7 B T bc #[pF a n c,I_ x])(hM:Mt w5 J L)(hl:J.length<=1000)
 (N:Oh w5 y s)(hm:s.items.length=m)(hst:Cy w5 a8 c8 page)(hkw:Aa [] w w5)(hq:(⟨L.eraseIdx i++[{ s with used:=now }],x⟩:Po)=q)(hB:w.heap.size+1<B)(U:T≠w.heap.size)(Y:∀z∈J,SO w z)(aa:Fr w y.ia m):
  ∃a9' k9' c9' V9,Hi (Blk (w7.setCell (A_ w 0) (pF D F E)) w 32 #[.slice a9' k9' c9',I_ x])/\Hi (V9.length=k9')/\Hi (BP (w7.setCell (A_ w 0) (pF D F E)) a9' c9' V9 q)/\Hi (Aa [] w (w7.setCell (A_ w 0) (pF D F E)))/\Hi (Blk (w7.setCell (A_ w 0) (pF D F E)) (w+1) 32 #[pF none 0 0,I_ 0])/\Hi (Blk (w7.setCell (A_ w 0) (pF D F E)) T 43 bc)/\Hi (Cy (w7.setCell (A_ w 0) (pF D F E)) a8 c8 page)/\Hi (∀z∈V9,SO w z):=by
 have M:Aa [w.heap.size] w7 (w7.setCell (A_ w 0) (pF D F E)):=(Aa.refl [w.heap.size] w7).setCell (p:=A_ w 0) (.inl bA) _;have ac:∀k∈[w.heap.size],∃cs,Blk w7 k 32 cs/\32≠9/\32≠43:=fun k hk=>by
  simp at hk;subst hk;exact⟨_,G.pool,by decide,by decide⟩
 have ab:ID w7 [w.heap.size]:=fun k hk cs fz O=>by
  simp at hk;subst hk;have h':w7.heap[w.heap.size]? = some (.cells #[pF a n c,I_ x] 32 (0,0)):=G.pool;rw [h'] at O;injection O with O;injection O with _ h3 _
  exact absurd h3 bE
 obtain⟨a9',c9',hv,X,ad⟩:=hs.row;rw [hk9] at hv;injection hv with e1 _ e3
 subst e1;subst e3;have hP:BP w7 D E (J.eraseIdx i++[(⟨y.cur,y.ia,m,y.ic,now⟩:SV)]) q:=by
  rw [<- hq];refine⟨X,by rw [Al,List.length_eraseIdx,Bp];split<;>omega,ad,?_⟩;exact((hM.erase i).strK G.strk).app ⟨⟨N.1,rfl,hm.symm,N.2.2.2.strK G.strk⟩,trivial⟩
 refine⟨D,F,E,_,lH (G.pool.set_ 0 _),lH hk9,lH (hP.keepsS M ac),lH ?_,lH (G.res.far (p:=A_ w 0) bH _),lH (G.box.far (p:=A_ w 0) U _),lH ((hst.strK G.strk).keepsS M ab),lH (fun z hz=>by
  rcases AQ.1 hz with hz | hz
  ·exact Y z (List.mem_of_mem_eraseIdx hz)
  ·obtain rfl:=Ag.1 hz
   exact aa)⟩
 exact(Aa.of_below ((hkw.below (Aw _) bA).trans (G.strk.low.mono bB)) []).setCell (p:=A_ w 0) (.inr (Aw _)) _
theorem Mt.get?{w:World}{V:List SV}{L:List Sn}(h:Mt w V L){i:Nat}{s:Sn}(hs:L[i]? = some s):∃y,V[i]? = some y/\Oh w y s:=by
 obtain⟨hi,rfl⟩:=Ad.1 hs;have hv:i<V.length:=by rw [h.len];exact hi
 exact⟨V[i],Aq hv,h.get i hv hi⟩
theorem Zf(a : Option Addr)(c : Nat)(V : List SV)(p : Po)(n : Nat)(hn : V.length = n)(cursor : Int)(F K : Nat)(now : Int)(w : World)(hP : BP w a c V p)(e : Nat -> Addr)(he : M1 w e)(i : Nat)(hF : Jk p cursor F K now = ((i : Int), none))(hn3 : n <= 3)(hK : K <= 10)(s : Sn)(hs : p.l[i]? = some s)(hFl : F <= s.items.length)
   (T : Nat)(hT : T = if s.items.length < F + K then s.items.length else F + K):
    Calls prog 162 #[pH #[pF a n c, I_ p.next], I_ cursor, I_ (F : Int), I_ (K : Int), I_ now] w (Lv w ⟨p.l.eraseIdx i ++ [{ s with used := now }], p.next⟩ ((s.items.drop F).take (T - F)) (if T = s.items.length then -1 else (T : Int)) 0) := by
  obtain ⟨q, hq⟩ : ∃ q : Po, ⟨p.l.eraseIdx i ++ [{ s with used := now }], p.next⟩ = q := ⟨_, rfl⟩
  obtain ⟨page, hpg⟩ : ∃ page, (s.items.drop F).take (T - F) = page := ⟨_, rfl⟩
  obtain ⟨nx, hnx⟩ : ∃ nx : Int, (if T = s.items.length then -1 else (T : Int)) = nx := ⟨_, rfl⟩
  rw [hq, hpg, hnx]
  obtain ⟨x, hx⟩ : ∃ x, p.next = x := ⟨_, rfl⟩
  have hcc := fun W (hk : Aa [] w W) => RC a c V p n hn cursor F K now W (hP.keeps hk) e (he.keep hk) i none hF
  have hco := fun W (hk : Aa [] w W) => YZ a c V p.l n hn bB W (hP.row.keeps hk) (hP.mt.keeps hk)
  rw [hx] at hcc hq ⊢
  have HQ := lH hq
  have HNX := lH hnx
  have HCC := lH hcc
  have HCO := lH hco
  have HLN : Hi (p.l.length = n) := lH (by rw [<- hn, hP.mt.len])
  have HSI := lH hs
  have HFL := lH hFl
  have HTT := lH hT
  have HB1 := lH (Ar (w.alloc (.cells #[pF a n c, I_ x] 32)) 32 #[pF none 0 0, I_ 0] (w.heap.size + 1) bA)
  have HB0 := lH ((Blk.new w 32 #[pF a n c, I_ x]).alloc (.cells #[pF none 0 0, I_ 0] 32))
  have HK := lH (((Aa.refl [] w).alloc (.cells #[pF a n c, I_ x] 32)).alloc (.cells #[pF none 0 0, I_ 0] 32))
  have p0 : _ = some (pF a n c) := HB0.o.cell 0
  have p1 : _ = some (pE .i64 x) := HB0.o.cell 1
  clear hcc hco he hP hx hn hF hs hFl hT hq hnx
  go_enter func162, ntmps162
  go_wp2_with fail
  refine (HCC.o _ HK.o).mono ?_
  rintro r w2 ⟨rfl, hk⟩
  have HB0 := lH (HB0.o.keeps hk bA)
  have HB1 := lH (HB1.o.keeps hk bA)
  have HK := lH (HK.o.trans hk)
  clear hk p0 p1
  have p0 : _ = some (pF a n c) := HB0.o.cell 0
  unfold Jj
  go_wp2_with fail
  refine (HCO.o _ HK.o).mono ?_
  rintro r w3 ⟨v0, V0, rfl, hs0, hm0, hb0, hf0⟩
  have HF0 : Hi (∀ z ∈ V0, SO w z) := lH (fun z hz => Fr.down (hf0 z hz) HK.o.size)
  clear hf0
  have hk := Aa.of_below hb0 []
  have HSZ : Hi (w.heap.size + 1 < w2.heap.size) := lH HB1.o.lt
  have HB0 := lH (HB0.o.keeps hk bA)
  have HB1 := lH (HB1.o.keeps hk bA)
  have HK := lH (HK.o.trans hk)
  have HW3 := lH hb0.size
  obtain ⟨y, hy, hm1⟩ := hm0.get? HSI.o
  have hil : i < V0.length := (Ad.1 hy).1
  have hV0 : V0.length = n := by rw [hm0.len, HLN.o]
  obtain ⟨a0, c0, hv0, hc0, hr0⟩ := hs0.row
  obtain ⟨g, off, cs0, fz0, rfl, hgb, hat⟩ := hr0 (by rintro rfl; simp at hil)
  obtain ⟨t0, t1, t2⟩ := hat i hil
  have hyy : V0[i] = y := by
    rw [Aq hil] at hy
    exact Option.some.inj hy
  rw [hyy] at t0 t1 t2
  rw [hV0] at hv0 hc0 hil
  subst hv0
  have j1 : (0 : Int) <= (i : Int) := by omega
  have j2 : (i : Int) < (n : Int) := by omega
  obtain ⟨m, hm⟩ : ∃ m, s.items.length = m := ⟨_, rfl⟩
  have hyl : y.il = m := by rw [hm1.2.2.1, hm]
  rw [hyl] at t1
  have HFY : Hi (Fr w y.ia m) := lH (by rw [<- hyl]; exact HF0.o y (by rw [<- hyy]; exact pS _))
  have HMM := lH hm
  have hFm : F <= m := by rw [<- hm]; exact HFL.o
  have hTd := HTT.o
  rw [hm] at hTd
  have hTm : T <= m := by split at hTd <;> omega
  have hFT : F <= T := by split at hTd <;> omega
  have HS0 := lH hs0
  have HM0 := lH hm0
  have HM1 := lH hm1
  have HIY : Hi (V0[i]? = some y) := lH hy
  have HV0 := lH hV0
  have HGB := lH (show g < w3.heap.size from (Ai.1 hgb).1)
  have hm1000 : m <= 1000000 := by rw [<- hm]; exact hm1.2.2.2.small
  have hwr : IntKind.i64.wrap ((F : Int) + (K : Int)) = (F : Int) + (K : Int) := IntWalk.i64_in _ bB
  have HBX := lH (Blk.new w3 43 #[pE pK y.cur, pF y.ia m y.ic, I_ y.used])
  have HKX := lH ((Aa.refl [] w3).alloc (.cells #[pE pK y.cur, pF y.ia m y.ic, I_ y.used] 43))
  have b0 : _ = some (pE .i64 y.cur) := HBX.o.cell 0
  have b1 : _ = some (pF y.ia m y.ic) := HBX.o.cell 1
  have b2 : _ = some (pE .i64 y.used) := HBX.o.cell 2
  have hwi : IntKind.i64.wrap ((i : Int) + 1) = (i : Int) + 1 := IntWalk.i64_in _ bB
  obtain ⟨t, ht, hcase⟩ : ∃ t : Int, t = T /\ ((T = m /\ t = m /\ (m : Int) < (F : Int) + (K : Int)) \/ (T = F + K /\ t = (F : Int) + (K : Int) /\ ¬ (m : Int) < (F : Int) + (K : Int))) := by
    split at hTd
    · exact ⟨m, by omega, .inl ⟨hTd, rfl, by omega⟩⟩
    · exact ⟨(F : Int) + (K : Int), by omega, .inr ⟨hTd, rfl, by omega⟩⟩
  obtain ⟨a7, hsl, hst7⟩ := Uq hm1.2.2.2 F T hFT (by rw [hm]; exact hTm) t ht
  rw [hm] at hsl
  rw [hpg] at hst7
  have HST7 := lH (hst7.keeps HKX.o)
  have hpl : page.length = T - F := by rw [<- hpg, Ax, B1, hm]; omega
  have HPL := lH hpl
  clear hk hs0 hm0 hb0 p0 hm1 hst7 hy hV0 hgb hat hr0 hyy hm hyl hTd ht hpl hpg
  rcases hcase with ⟨hTe, rfl, hlt⟩ | ⟨hTe, rfl, hlt⟩
  all_goals
    have HTE := lH hTe
    clear hTe
    go_wp2_with fail
    refine (Gy a7 _ _ _ HPL.o _ HST7.o).mono ?_
    rintro r w4 ⟨a8, c8, rfl, hst8, hk4, hfr8⟩
    have HFR8 : Hi (Fr w a8 (T - F)) := lH (hfr8.down (HK.o.trans HKX.o).size)
    clear hfr8
    have hb4 := HBX.o.keeps hk4 bA
    have b2 : w4.cell? ⟨w3, 2, none⟩ = some (I_ y.used) := hb4.cell 2
    have f2 := hb4.frozen 2
    have hb5 : Blk (w4.setCell ⟨w3, 2, none⟩ (I_ now)) w3 43 #[pE pK y.cur, pF y.ia m y.ic, I_ now] := hb4.set_ 2 (I_ now)
    have hk35 : Aa [] w3 (w4.setCell ⟨w3, 2, none⟩ (I_ now)) := (HKX.o.trans hk4).setCell (p := ⟨w3, 2, none⟩) (.inr (Aw _)) (I_ now)
    have hst5 : Cy (w4.setCell ⟨w3, 2, none⟩ (I_ now)) a8 c8 page := hst8.keepsS (Aa.setCell (S := [w3.heap.size]) (Aa.refl _ w4) (p := ⟨w3, 2, none⟩) (.inl bA) (I_ now)) (fun k hk cs fz h => by
      simp at hk; subst hk
      have h' : w4.heap[w3.heap.size]? = some (.cells #[pE pK y.cur, pF y.ia m y.ic, I_ y.used] 43 (0, 0)) := hb4
      rw [h'] at h
      injection h with h; injection h with _ h3 _
      exact absurd h3 bE)
    go_wp2_with fail
    clear b0 b1 b2 f2 hb4
    obtain ⟨w5, hw5⟩ : ∃ w5, w4.setCell ⟨w3, 2, none⟩ (I_ now) = w5 := ⟨_, rfl⟩
    rw [hw5] at hb5 hk35 hst5 ⊢
    have HB5 := lH hb5
    have HK5 := lH hk35
    have HP8 := lH hst5
    have HS5 := lH (HS0.o.keeps hk35)
    have HSZ5 : Hi (w2.heap.size <= w5.drew.heap.size) := lH (A8 HW3.o hk35.size)
    have HBP := lH (HB0.o.keeps hk35 bA)
    have HBR := lH (HB1.o.keeps hk35 bA)
    have HKW := lH (HK.o.trans hk35)
    clear hw5 hb5 hk35 hst5 hst8 hk4
    have HM5 := lH (HM0.o.keeps HK5.o)
    have HM15 := lH (HM1.o.keeps HK5.o)
    have HVL : Hi (V0.length <= 1000) := lH (by rw [HV0.o]; omega)
    have HEL : Hi ((V0.eraseIdx i).length <= 1000) := lH (by rw [List.length_eraseIdx]; have := HVL.o; split <;> omega)
    have HGX : Hi (g ≠ w3) := lH (by have := HGB.o; omega)
    have HBN : Hi (w3.heap.size ≠ w) := lH (by have := HSZ.o; have := HW3.o; omega)
    have HG5 : Hi (w5.heap.size ∉ [g]) := lH (by simp; have := HGB.o; have := HK5.o.size; omega)
    have hst6 : Xu w w5 w5 w2 w3 #[pE pK y.cur, pF y.ia m y.ic, I_ now] #[pF a n c, I_ x] := ⟨D7.refl _ _, HB5.o, HBP.o, HBR.o, HSZ5.o⟩
    have HDEL := lH (Zb hst6 HS5.o HVL.o (by rw [HV0.o]; exact hil) HGX.o HSZ.o)
    clear hst6
    go_cut [64] (fun _ wx => ∃ a9 k9 c9 V9, Hi (Blk wx w 32 #[pF a9 k9 c9, I_ x]) /\ Hi (V9.length = k9) /\ Hi (BP wx a9 c9 V9 q) /\ Hi (Aa [] w wx) /\ Hi (Blk wx (w.heap.size + 1) 32 #[pF none 0 0, I_ 0]) /\ Hi (Blk wx w3 43 #[pE pK y.cur, pF y.ia m y.ic, I_ now]) /\ Hi (Cy wx a8 c8 page) /\ Hi (∀ z ∈ V9, SO w z))
    case first =>
      refine wp_region_held_drew (S := (fun w' : World => w'.cell? ⟨w3, 0, none⟩ = some (I_ y.cur) /\ w'.cell? ⟨w3, 1, none⟩ = some (pF y.ia m y.ic) /\ w'.cell? ⟨w3, 2, none⟩ = some (I_ now))) bC bW (fun hHeld => ?_)
      refine rQ 0 ?_
      refine rQ 1 ?_
      refine rQ 2 ?_
      refine rQ 3 ?_
      refine rQ 5 ?_
      refine wpAnyH_ready (rs := [4, 6]) bC bA ?_
      refine AllReadyH.cons rfl (fun K hK => ?_) ?_
      · go_simp
        ((with_reducible refine (HDEL.o _ (by first | exact (Aa.refl [] w5).drew | exact ((Aa.refl [] w5).alloc _).drew)).mono ?_); rintro e6 w6 ⟨v6, rfl, hs6, h6, hr6, hkr6⟩; have HS6 := lH hs6; have H6 := lH h6; have HR6 := lH hr6; have HKR6 := lH hkr6; clear hs6 h6 hr6 hkr6)
        refine rO hK bW fun hHeld => ?_; clear hK K
        refine rC 6 fun K hK => ?_
        go_simp
        refine rO hK bW fun hHeld => ?_; clear hK K
        refine rC 7 fun K hK => ?_
        (obtain ⟨a9, k9, c9, w7, hrun, hs7, hk9, h7⟩ := Sg (x := (⟨y.cur, y.ia, m, y.ic, now⟩ : SV)) (H6.o.keeps ((Aa.refl [] w6).alloc (.cells (SV.arr (⟨y.cur, y.ia, m, y.ic, now⟩ : SV)) 43))) (HS6.o.keeps ((Aa.refl [] w6).alloc (.cells (SV.arr (⟨y.cur, y.ia, m, y.ic, now⟩ : SV)) 43))) HR6.o HEL.o HGX.o HSZ.o (Blk.new w6 43 (SV.arr (⟨y.cur, y.ia, m, y.ic, now⟩ : SV))) 30; (try simp only [SV.arr] at hrun); refine Cf _ _ 30 bD bD bD bD hrun ?_; have HS7 := lH hs7; have H7 := lH h7; have HL7 := lH hk9; have c7 : w7.cell? ⟨w, 0, none⟩ = some (pF a n c) := h7.pool.cell 0; have f7 := h7.pool.frozen 0; clear hs7 h7 hk9 hrun)
        refine rO hK bW fun hHeld => ?_; clear hK K
        refine rQ 8 ?_
        refine rC 9 fun K hK => ?_
        go_simp
        refine rO hK bW fun hHeld => ?_; clear hK K
        refine wpAnyH_done bC ?_ _
        (go_wp2_with fail; go_meet; exact Sh HS7.o HL7.o H7.o HM5.o HVL.o HM15.o HMM.o HP8.o HKW.o HQ.o HSZ.o HBN.o HF0.o HFY.o)
      refine AllReadyH.cons rfl (fun K hK => ?_) ?_
      · go_simp
        refine rO hK bW fun hHeld => ?_; clear hK K
        refine rC 4 fun K hK => ?_
        go_simp
        ((with_reducible refine (HDEL.o _ (by first | exact (Aa.refl [] w5).drew | exact ((Aa.refl [] w5).alloc _).drew)).mono ?_); rintro e6 w6 ⟨v6, rfl, hs6, h6, hr6, hkr6⟩; have HS6 := lH hs6; have H6 := lH h6; have HR6 := lH hr6; have HKR6 := lH hkr6; clear hs6 h6 hr6 hkr6)
        refine rO hK bW fun hHeld => ?_; clear hK K
        refine rC 7 fun K hK => ?_
        (obtain ⟨a9, k9, c9, w7, hrun, hs7, hk9, h7⟩ := Sg (x := (⟨y.cur, y.ia, m, y.ic, now⟩ : SV)) H6.o HS6.o HR6.o HEL.o HGX.o HSZ.o (Blk.keeps (Blk.drew (Blk.new w5 43 (SV.arr (⟨y.cur, y.ia, m, y.ic, now⟩ : SV)))) HKR6.o HG5.o) 30; (try simp only [SV.arr] at hrun); refine Cf _ _ 30 bD bD bD bD hrun ?_; have HS7 := lH hs7; have H7 := lH h7; have HL7 := lH hk9; have c7 : w7.cell? ⟨w, 0, none⟩ = some (pF a n c) := h7.pool.cell 0; have f7 := h7.pool.frozen 0; clear hs7 h7 hk9 hrun)
        refine rO hK bW fun hHeld => ?_; clear hK K
        refine rQ 8 ?_
        refine rC 9 fun K hK => ?_
        go_simp
        refine rO hK bW fun hHeld => ?_; clear hK K
        refine wpAnyH_done bC ?_ _
        (go_wp2_with fail; go_meet; exact Sh HS7.o HL7.o H7.o HM5.o HVL.o HM15.o HMM.o HP8.o HKW.o HQ.o HSZ.o HBN.o HF0.o HFY.o)
      exact AllReadyH.nil
    case rest =>
      obtain ⟨a9, k9, c9, V9, HBP9, HV9, HP9, HK9, HBR9, HBX9, HST9, HF9⟩ := hcut
      have x1 : wc.cell? ⟨w3, 1, none⟩ = some (pF y.ia m y.ic) := HBX9.o.cell 1
      have z0 : wc.cell? ⟨w, 0, none⟩ = some (pF a9 k9 c9) := HBP9.o.cell 0
      have z1 : wc.cell? ⟨w, 1, none⟩ = some (I_ x) := HBP9.o.cell 1
      have r0 : wc.cell? ⟨w.heap.size + 1, 0, none⟩ = some (pF none 0 0) := HBR9.o.cell 0
      have r1 : wc.cell? ⟨w.heap.size + 1, 1, none⟩ = some (I_ 0) := HBR9.o.cell 1
      have g0 := HBR9.o.frozen 0
      have g1 := HBR9.o.frozen 1
      have hks : Aa [w.heap.size + 1] wc ((wc.setCell ⟨w.heap.size + 1, 0, none⟩ (pF a9 k9 c9)).setCell ⟨w.heap.size + 1, 1, none⟩ (I_ x)) := ((Aa.refl _ wc).setCell (p := ⟨w.heap.size + 1, 0, none⟩) (.inl bA) _).setCell (p := ⟨w.heap.size + 1, 1, none⟩) (.inl bA) _
      have HPF := lH (HP9.o.keepsS hks (fun k hk => by simp at hk; subst hk; exact ⟨_, HBR9.o, by decide, by decide⟩))
      have HSF := lH (HST9.o.keepsS hks (fun k hk cs fz hh => by
        simp at hk; subst hk
        have h' : wc.heap[w.heap.size + 1]? = some (.cells #[pF none 0 0, I_ 0] 32 (0, 0)) := HBR9.o
        rw [h'] at hh
        injection hh with hh; injection hh with _ h3 _
        exact absurd h3 bE))
      have HKF := lH ((HK9.o.setCell (p := ⟨w.heap.size + 1, 0, none⟩) (.inr (by dsimp only; omega)) (pF a9 k9 c9)).setCell (p := ⟨w.heap.size + 1, 1, none⟩) (.inr (by dsimp only; omega)) (I_ x))
      have HBF := lH ((HBR9.o.set_ 0 (pF a9 k9 c9)).set_ 1 (I_ x))
      have HQN : Hi (x = q.next) := lH (by rw [<- HQ.o])
      clear hks
      by_cases hTm2 : T = m
      · have HNX1 : Hi (nx = -1) := lH (by rw [<- HNX.o, if_pos (by rw [HMM.o]; exact hTm2)])
        try have hcmp : ((F : Int) + (K : Int) == (m : Int)) = true := by have := HTE.o; simp; omega
        clear hTm2
        go_wp2
        have q0 : _ = some (pF a9 k9 c9) := HBF.o.cell 0
        have q1 : _ = some (pE .i64 x) := HBF.o.cell 1
        refine bodyPost_ret (v := .tuple #[pH #[pF a9 k9 c9, I_ x], pF a8 (T - F) c8, I_ (-1), I_ 0]) (by simp [results, results162, go_sem, q0, q1]) rfl ?_
        exact ⟨a9, k9, c9, V9, a8, T - F, c8, by rw [<- HQN.o, HNX1.o], HV9.o, HPF.o, HPL.o, HSF.o, HKF.o, HF9.o, HFR8.o⟩
      · first
          | exact absurd HTE.o hTm2
          | (have HNX1 : Hi (nx = (F : Int) + (K : Int)) := lH (by rw [<- HNX.o, if_neg (by rw [HMM.o]; exact hTm2)]; have := HTE.o; omega)
             have hcmp : ((F : Int) + (K : Int) == (m : Int)) = false := by have := HTE.o; simp; omega
             clear hTm2
             go_wp2
             have q0 : _ = some (pF a9 k9 c9) := HBF.o.cell 0
             have q1 : _ = some (pE .i64 x) := HBF.o.cell 1
             refine bodyPost_ret (v := .tuple #[pH #[pF a9 k9 c9, I_ x], pF a8 (T - F) c8, I_ ((F : Int) + (K : Int)), I_ 0]) (by simp [results, results162, go_sem, q0, q1]) rfl ?_
             exact ⟨a9, k9, c9, V9, a8, T - F, c8, by rw [<- HQN.o, HNX1.o], HV9.o, HPF.o, HPL.o, HSF.o, HKF.o, HF9.o, HFR8.o⟩)
structure J5(w:World)(a:Option Addr)(xs:List ByteArray):Prop where
 size:∀x∈xs,x.size≤maxLen
 small:xs.length≤9223372036854775807
 at_:0<xs.length→∃g off,a=some ⟨g,off,none⟩∧g<w.heap.size∧ST w g off xs
theorem J5.keeps{w w':World}{a:Option Addr}{xs:List ByteArray}(h:J5 w a xs)(hk:Aa [] w w'):J5 w' a xs:=
 ⟨h.size,h.small,fun h0=>by
  obtain⟨g,off,ha,hg,hat⟩:=h.at_ h0;exact⟨g,off,ha,BS hg hk.size,fun i hi=>(hk.cell (p:=A_ g (off+i)) hg bA).trans (hat i hi)⟩⟩
def PF(w:World)(a:Option Addr)(V:List SV):Prop:=V≠[]->∃g off,a=some ⟨g,off,none⟩/\g<w.heap.size/\∀i (h:i<V.length),
 w.cell? ⟨g,off+i*3,none⟩=some (pE pK V[i].cur)/\w.cell? ⟨g,off+i*3+1,none⟩=some (.slice V[i].ia V[i].il V[i].ic)/\w.cell? ⟨g,off+i*3+2,none⟩=some (pE pK V[i].used)
theorem PF.keeps{w w':World}{a:Option Addr}{V:List SV}(h:PF w a V)(hk:Aa [] w w'):PF w' a V:=fun hn=>by
 obtain⟨g,off,ha,hg,hat⟩:=h hn;exact⟨g,off,ha,BS hg hk.size,fun i hi=>by
  obtain⟨h0,h1,h2⟩:=hat i hi;exact⟨(hk.cell (p:=A_ g (off+i*3)) hg bA).trans h0,(hk.cell (p:=A_ g (off+i*3+1)) hg bA).trans h1,(hk.cell (p:=A_ g (off+i*3+2)) hg bA).trans h2⟩⟩
def X5(w:World)(v:SV)(s:Sn):Prop:=v.cur=s.cur/\v.used=s.used/\s.items.length=v.il/\J5 w v.ia s.items
structure Ib(w:World)(a:Option Addr)(V:List SV)(L:List Sn):Prop where
 small:V.length≤9223372036854775807
 row:PF w a V
 len:V.length=L.length
 mt:∀i (h:i<V.length) (h':i<L.length),X5 w V[i] L[i]
theorem Ib.keeps{w w':World}{a:Option Addr}{V:List SV}{L:List Sn}(h:Ib w a V L)(hk:Aa [] w w'):Ib w' a V L:=
 ⟨h.small,h.row.keeps hk,h.len,fun i h1 h2=>by
  obtain⟨q1,q2,q3,q4⟩:=h.mt i h1 h2;exact⟨q1,q2,q3,q4.keeps hk⟩⟩
theorem Da.far{W:World}{B:Nat}{v:Value}{V:List SV}(h:Da W B v V){p:Addr}(hp:p.block<B)(u:Value):Da (W.setCell p u) B v V:=by
 rcases h with h | ⟨g,off,cap,h1,h2,h3,h4,D,E⟩
 ·exact .inl h
 ·have hb:=Below.heap_setCell W p u g bB
  exact .inr ⟨g,off,cap,h1,h2,h3.same hb,h4,D,E.same hb⟩
end
section
open Go.RowKit Go.Shelf
attribute [local go_sem] pN
attribute [local go_sem ↓] wp_at_zero wp_at_succ
theorem N4(w:World):(callFunc 316 #[]).run prog w = .ok (.value (.tuple #[])) w:=run_call_mark0 func316 bC bC bC .disable bC w
theorem Pn(w:World):(callFunc 318 #[]).run prog w = .ok (.value (.tuple #[])) w:=run_call_mark0 func318 bC bC bC .enable bC w
theorem TS(a:Addr)(w:World):(callFunc 319 #[pG (some a)]).run prog w = .ok (.value (.tuple #[])) w:=run_call_marked func319 bC bC bC .acquire bC a w
theorem TT(a:Addr)(w:World):(callFunc 321 #[pG (some a)]).run prog w = .ok (.value (.tuple #[])) w:=run_call_marked func321 bC bC bC .releaseMerge bC a w
theorem XM(w:World):Calls prog 311 #[pI true] w fun e w'=>e = pJ (.int .u32 1)/\w=w':=by
 go_enter func311,ntmps311;go_wp2;go_ret;exact⟨rfl,rfl⟩
theorem Sb(b off:Nat)(x:Int)(w:World)(B:w.cell? (A_ b off)=some (.int .u32 x)):
  Calls prog 286 #[pG (some (A_ b off))] w fun e w'=>e = pJ (pI (x != 0))/\w=w':=by
 have hl:=run_call_load (P:=prog) func299 bC bC bC .u32 bC B;go_enter func286,ntmps286;go_wp2;go_ret;exact⟨rfl,rfl⟩
theorem NW(b off:Nat)(x:Value)(u:FrameMode)(w:World)(D:w.cell? (A_ b off)=some x)(hz:w.frozen? (A_ b off)=false):
  CallsD prog 302 #[pG (some (A_ b off)),pI true] u w fun e u' w'=>u'=u/\(e = pJ (.tuple #[])/\w'=w.drew.setCell (A_ b off) (.int .u32 1)):=by
 have hc':w.drew.cell? (A_ b off)=some x:=by go_simp
 have B:w.drew.frozen? (A_ b off)=false:=by go_simp
 have hst:=run_call_store (P:=prog) func310 bC bC bC bC (k:=.u32) (y:=1) hc' B
 go_enter_d func302,ntmps302
 go_wp2
 go_region_held3 (fun _=>True) (exact trivial) (with_reducible refine(XM _).mono ?_;rintro e E ⟨rfl,rfl⟩)
 all_goals (go_end0;exact⟨rfl,rfl⟩)
theorem iunlock(b off:Nat)(w:World)(D:w.cell? (A_ b off)=some (.int .i32 1))(hz:w.frozen? (A_ b off)=false):
  Calls prog 309 #[pG (some (A_ b off))] w fun e w'=>e = pJ (.tuple #[])/\w.setCell (A_ b off) (.int .i32 0)=w':=by
 have F:=N4;have he:=Pn;have hr:=TT;have B:=run_call_add (P:=prog) func322 bC bC bC .i32 bC (y:=-1) (s:=0) D hz (by simp [go_sem];rfl);have E:=run_convert_to_unsafe (P:=prog) (src:=505) (dst:=225) underlying505 underlying225 bC D;go_enter func309,ntmps309;go_wp2
 go_end0
 exact⟨rfl,rfl⟩
theorem M0(b off:Nat)(u:FrameMode)(w:World)(B:w.cell? (A_ b off)=some (.int .i32 1))(hz:w.frozen? (A_ b off)=false):
  CallsD prog 301 #[pG (some (A_ b off))] u w fun e u' w'=>u'=u/\(e = pJ (.tuple #[])/\w'=w.setCell (A_ b off) (.int .i32 0)):=by
 go_enter_d func301,ntmps301
 go_wp2_with (with_reducible refine(iunlock b off _ B hz).mono ?_;rintro e w' ⟨rfl,rfl⟩)
 go_end0
 exact⟨rfl,rfl⟩
theorem ilock(b off:Nat)(w:World)(B:w.cell? (A_ b off)=some (.int .i32 0))(hz:w.frozen? (A_ b off)=false):
  Calls prog 308 #[pG (some (A_ b off))] w fun e w'=>e = pJ (.tuple #[])/\w.setCell (A_ b off) (.int .i32 1)=w':=by
 have G:=N4;have he:=Pn;have F:=TS;have D:=run_call_cas_hit (P:=prog) func317 bC bC bC .i32 bC (y:=1) B hz;have hc':(w.setCell (A_ b off) (.int .i32 1)).cell? (A_ b off)=some (.int .i32 1):=World.cell?_setCell_same w _ _ B;have E:=run_convert_to_unsafe (P:=prog) (src:=505) (dst:=225) underlying505 underlying225 bC hc';go_enter func308,ntmps308;go_wp2;first | go_end0 | (simp only [Exit.inBlock,Exit.then];refine bodyPost_ret (results_none rfl _ _ _) rfl ?_) | refine bodyPost_ret (results_none rfl _ _ _) rfl ?_
 exact⟨rfl,rfl⟩
theorem Wx(b off:Nat)(w:World)(B:w.cell? (A_ b off)=some (.int .i32 0))(hz:w.frozen? (A_ b off)=false):
  Calls prog 300 #[pG (some (A_ b off))] w fun e w'=>e = pJ (.tuple #[])/\w.setCell (A_ b off) (.int .i32 1)=w':=by
 go_enter func300,ntmps300;go_wp2_with (with_reducible refine(ilock b off _ B hz).mono ?_;rintro e w' ⟨rfl,rfl⟩)
 go_end0
 exact⟨rfl,rfl⟩
end
section
open Go.RowKit Go.Shelf
attribute [local go_sem] pN Lr Ls Lp Lq
attribute [local go_sem ↓] wp_at_zero wp_at_succ
def z257:Array Value:=Array.replicate 257 (pF none 0 0)
def FM(a b t:Value):Array Value:=((z257.setIfInBounds 92 a).setIfInBounds 34 b).setIfInBounds 256 t
theorem ML:(prog.info? 487).map (fun i=>(i.zero,i.size))=some (some (.agg z257),257):=bC
theorem XR(w:World):(zeroValue 487).run prog w = .ok (.agg z257) w:=(zero_of_info ML).1 w
theorem VB(ta:Option Addr)(tl tc:Nat)(w:World):(Instr.build 487 #[(1,pF ta tl tc)]).run prog w = .ok (.agg (z257.setIfInBounds 256 (pF ta tl tc))) w:=run_build w 487 _ _ bC
theorem OG(t:Value)(w:World)(h1:t.oneCell'=true):(Instr.storeAt 487 (p_ w 0) (.agg (z257.setIfInBounds 256 t))).run prog (w.alloc (.cells z257 487)) = .ok () (w.alloc (.cells (z257.setIfInBounds 256 t) 487)):=by
 refine run_storeAt_new w 487 z257 _ ?_ ?_ ?_
 ·have:=ML
  cases h:prog.info? 487 with
  | none=>rw [h] at this;cases this
  | some i=>rw [h] at this;simp at this ⊢;exact this.2
 ·simp
 ·rw [Array.all_eq_true_iff_forall_mem]
  intro v hv;obtain hv | rfl:v∈z257\/v=t:=Array.mem_or_eq_of_mem_setIfInBounds hv
  ·rw [z257] at hv
   have:=Array.eq_of_mem_replicate hv;subst this;rfl
  ·exact h1
theorem Tg(B:Option Addr)(E D:Nat)(w:World)(g:Nat)(hg:g=w.heap.size):(Instr.storeAt 487 (p_ g 0) (.agg (z257.setIfInBounds 256 (pF B E D)))).run prog (w.alloc (.cells z257 487)) = .ok () (w.alloc (.cells (z257.setIfInBounds 256 (pF B E D)) 487)):=by
 subst hg;exact OG _ w rfl
theorem XS(a:Option Addr)(l c:Nat)(w:World):(binOp .eql 166 (pF a l c) (pF none 0 0)).run prog w = .ok (pI a.isNone) w:=AK w 166 5 a l c 0 0 underlying166
theorem XT(a:Option Addr)(l c:Nat)(w:World):(binOp .neq 166 (pF a l c) (pF none 0 0)).run prog w = .ok (pI (!a.isNone)) w:=run_neq_slice_nil_any w 166 5 a l c 0 0 underlying166
theorem PE:z257.size=257:=by simp [z257]
theorem VD(B:Option Addr)(E D:Nat)(w:World)(g:Nat)(hg:g=w.heap.size):(storeCells (A_ g 0) (z257.toList.set 256 (pF B E D))).run prog (w.alloc (.cells z257 487)) = .ok () (w.alloc (.cells (z257.setIfInBounds 256 (pF B E D)) 487)):=by
 have h:=OG (pF B E D) w rfl;rw [<- hg] at h;have hs:(sizeOf 487).run prog (w.alloc (.cells z257 487)) = .ok 257 (w.alloc (.cells z257 487)):=by
  have:=ML;cases hq:prog.info? 487 with
  | none=>rw [hq] at this;cases this
  | some i=>rw [hq] at this;simp at this;simp [sizeOf,typeInfo,hq,this.2]
 simpa [Instr.storeAt,Instr.sureAddr,storeVar,hs,Value.cells,PE] using h
theorem XQ(t:Value):FM (pF none 0 0) (pF none 0 0) t=z257.setIfInBounds 256 t:=by
 have h:∀i,z257.setIfInBounds i (pF none 0 0)=z257:=fun i=>by
  apply Array.ext_getElem?;intro j;rw [Bj];split
  ·rename_i hij
   subst hij;split
   ·rename_i h;rw [z257,Array.getElem?_replicate,if_pos (by simpa [z257] using h)]
   ·rename_i h;rw [z257,Array.getElem?_replicate,if_neg (by simpa [z257] using h)]
  ·rfl
 rw [FM,h,h]
section
variable (a b t u:Value)
theorem UC:(FM a b t)[92]? = some a:=by simp [FM,z257,Bj]
theorem UB:(FM a b t)[34]? = some b:=by simp [FM,z257,Bj]
theorem QY:(FM a b t)[256]? = some t:=by simp [FM,z257,Bj]
theorem Tf:(FM a b t).setIfInBounds 92 u=FM u b t:=by
 apply Array.ext_getElem?;intro i;simp only [FM,Bj,Array.size_setIfInBounds];by_cases h1:92=i
 ·subst h1;simp
 ·simp [h1]
theorem Te:(FM a b t).setIfInBounds 34 u=FM a u t:=by
 apply Array.ext_getElem?;intro i;simp only [FM,Bj,Array.size_setIfInBounds];by_cases h1:34=i
 ·subst h1;simp
 ·simp [h1]
theorem QZ:(FM a b t).setIfInBounds 256 u=FM a b u:=by
 apply Array.ext_getElem?;intro i;simp only [FM,Bj,Array.size_setIfInBounds];by_cases h1:256=i
 ·subst h1;simp
 ·simp [h1]
end
def Gf(s:ByteArray):List Value:=[Dz s]
def L0(w:World)(a:Value)(x y:Int):Prop:=∃q c C fr,a = pF (some ⟨q,0,none⟩) 2 c/\w.heap[q]? = some (.cells C 5 fr)/\C[0]? = some (.int .u8 x)/\C[1]? = some (.int .u8 y)
theorem L0.keeps{w w':World}{a:Value}{x y:Int}{S:List Nat}(h:L0 w a x y)(hk:Aa S w w')(hS:∀q C fr,w.heap[q]? = some (.cells C 5 fr)->q∉S):L0 w' a x y:=by
 obtain⟨q,c,C,fr,rfl,h1,h2,h3⟩:=h;exact⟨q,c,C,fr,rfl,(hk.block q (Ai.1 h1).1 (hS q C fr h1)).trans h1,h2,h3⟩
theorem L0.cells{w:World}{a:Value}{x y:Int}(h:L0 w a x y):∃q c,a = pF (some (A_ q 0)) 2 c/\q<w.heap.size/\w.cell? (A_ q 0)=some (.int .u8 x)/\w.cell? (A_ q 1)=some (.int .u8 y):=by
 obtain⟨q,c,C,B,rfl,h1,h2,h3⟩:=h;exact⟨q,c,rfl,(Ai.1 h1).1,(cell_of_row w q 0 C 5 B h1).trans h2,(cell_of_row w q 1 C 5 B h1).trans h3⟩
theorem N5{w:World}{B n k D:Nat}{e t:TypeId}{v:Value}{xs:List Value}{cs:Array Value}{E:Nat×Nat}(h:w.ownsRow B e n v k xs)(hb:w.heap[D]? = some (.cells cs t E))(hne:t≠e):D∉v.ownBlock.toList:=by
 rcases h.2 with⟨rfl,_⟩ | ⟨g,c,cur,rfl,F,hg,_⟩
 ·simp [EZ]
 ·simp only [EZ,Option.toList_some,Ag]
  rintro rfl;rw [hb] at hg;injection hg with hg
  injection hg with _ ht
  exact hne ht
theorem eV(w:World)(x y:UInt8):∃q c W,(convert 9 166 (Dz ⟨#[x,y]⟩)).run prog w = .ok (pF (some (A_ q 0)) 2 c) W/\L0 W (pF (some (A_ q 0)) 2 c) x.toNat y.toNat/\Aa [] w W:=by
 exact⟨w,_,_,run_bytes_of_string w 9 166 5 ⟨#[x,y]⟩ underlying9 underlying166 underlying5,⟨w,_,_,_,rfl,heap_alloc_new w.drew _,by rw [bytesRow,Array.getElem?_append_left bA];simp,by rw [bytesRow,Array.getElem?_append_left bA];simp⟩,(Aa.refl [] w).drew.alloc _⟩
end
section
open Go.RowKit Go.Shelf
attribute [local go_sem] pN UC UB QY PE
attribute [local go_sem ↓] wp_at_zero wp_at_succ VB Tg VD
theorem jT(h):(⟨#[92]⟩:ByteArray)[0]'h=92:=rfl
theorem jS(h):(⟨#[34]⟩:ByteArray)[0]'h=34:=rfl
theorem pB:(92:UInt8).toNat=92:=rfl
theorem pA:(34:UInt8).toNat=34:=rfl
attribute [local go_sem] jT jS pB pA XS XT
theorem dG:D1 (prog.info? 9) 1=true:=bC
theorem Mm:∃i,prog.info? 9=some i/\i.zero=some (Dz ⟨#[]⟩)/\i.size=1/\i.bytes=16:=by
 have h:(prog.info? 9).map (fun i=>(i.zero,i.size,i.bytes))=some (some (Dz ⟨#[]⟩),1,16):=bC
 cases hq:prog.info? 9 with
 | none=>rw [hq] at h;cases h
 | some i=>rw [hq] at h;simp at h;exact⟨i,rfl,h.1,h.2.1,h.2.2⟩
theorem UX(w:World)(x:UInt8)(n:Int)(hn:(x.toNat:Int)=n):(convert 166 9 (pF (some (A_ w 0)) 1 1)).run prog (w.alloc (.cells #[.int .u8 n] 5)) = .ok (Dz ⟨#[x]⟩) (w.alloc (.cells #[.int .u8 n] 5)):=by
 subst hn;exact run_convert_bytes_back (P:=prog) _ 166 9 5 (A_ w 0) 1 [x] underlying166 underlying5 underlying9 (fun j hj=>by
  have:j=0:=by simpa using hj
  subst this;rw [BR,(Blk.new w 5 _).cell];rfl)
def Ui:List ByteArray:=[⟨#[92]⟩,⟨#[34]⟩]
def Vl(w wr:World)(bb:Nat)(a b v:Value)(m:Nat):Prop:=Blk wr bb 487 (FM a b v)/\wr.ownsRow w.heap.size 9 1 v (Ui.take m).length ((Ui.take m).flatMap Gf)/\Aa [] w wr/\w.heap.size<=bb/\
 (if 1<=m then L0 wr a 92 92 else a = pF none 0 0)/\(if 2<=m then L0 wr b 92 34 else b = pF none 0 0)
theorem Vl.push{w wr:World}{F:Nat}{a b v:Value}{m:Nat}(h:Vl w wr F a b v m)(x:ByteArray)(hx:Ui[m]? = some x)(y z:UInt8):
  ∃g c W3 q c5 W5,(BI #[41,41] 41 #[v,pF (some (A1 wr 0)) 1 1]).run prog ((wr.alloc (.cells #[.int .u8 (x.data[0]!).toNat] 5)).alloc (.cells #[Dz x] 9)) = .ok (pF (some (A_ g 0)) (m+1) c) W3/\
   Blk W3 F 487 (FM a b v)/\
   (convert 9 166 (Dz ⟨#[y,z]⟩)).run prog (W3.setCell (A_ F 256) (pF (some (A_ g 0)) (m+1) c)) = .ok (pF (some (A_ q 0)) 2 c5) W5/\
   Blk W5 F 487 (FM a b (pF (some (A_ g 0)) (m+1) c))/\W5.ownsRow w 9 1 (pF (some (A_ g 0)) (m+1) c) (m+1) ((Ui.take (m+1)).flatMap Gf)/\Aa [] w W5/\
   L0 W5 (pF (some (A_ q 0)) 2 c5) y.toNat z.toNat/\(∀u s t,L0 wr u s t->L0 W5 u s t):=by
 obtain⟨h1,h2,h3,h4,-⟩:=h;have hm:m<Ui.length:=(Ad.1 hx).1;have E:(Ui.take m).length=m:=by rw [Ax];omega
 have N:Ui.take (m+1)=Ui.take m++[x]:=by rw [List.take_add_one,hx];rfl
 have hrow:=h2.alloc (.cells #[.int .u8 (x.data[0]!).toNat] 5);obtain⟨g,c,W3,G,D,hk3,U⟩:=CO (enc:=Gf) prog (t:=41) underlying41 dG bE (fun _=>rfl) (fun x u hu=>by unfold Gf at hu;simp only [Ac,Ab,or_false] at hu;subst hu;rfl) hrow (A8 h3.size bA) x (by rw [E];simp [Ui] at hm;omega) 41;rw [E] at G;rw [show(Ui.take m++[x]).length=m+1 by rw [Al,E];rfl,<- N,E] at D;have hkw:Aa v.ownBlock.toList wr W3:=(((Aa.refl _ wr).alloc _)).trans hk3;have B:Blk W3 F 487 (FM a b v):=h1.keeps hkw (N5 h2 h1 bE);have hb4:=B.set_ 256 (pF (some (A_ g 0)) (m+1) c);rw [QZ] at hb4;obtain⟨q,c5,W5,J,O,hk5⟩:=eV (W3.setCell (A_ F 256) (pF (some (A_ g 0)) (m+1) c)) y z;refine⟨g,c,W3,q,c5,W5,by simpa [Gf] using G,B,J,hb4.keeps hk5 bA,?_,?_,O,?_⟩
 ·refine Ah (Ah D ((Aa.refl [F] W3).setCell (p:=A_ F 256) (.inl bA) _) (fun X M hm'=>?_)) hk5 (fun _ _=>by simp)
  have:=N5 D B bE;simp only [Ac,Ab,or_false] at hm';subst hm';exact this (by simp [M])
 ·refine Aa.trans (Aa.setCell (h3.own hkw (fun y hy=>?_)) (p:=A_ F 256) (.inr h4) _) hk5
  exact(h2.lt y bU).1
 ·intro u s t hu
  refine((hu.keeps hkw (fun q C T hq=>N5 h2 hq bE)).keeps ((Aa.refl [F] W3).setCell (p:=A_ F 256) (.inl bA) _) (fun q C T hq hm=>?_)).keeps hk5 (fun _ _ _ _=>by simp);simp only [Ac,Ab,or_false] at hm;subst hm;unfold Blk at B;rw [hq] at B;injection B with B
  injection B with _ ht
  exact absurd ht bE
theorem VE(rb og oo oc:Nat)(x0 x1 x2 x3:Value)(w:World)(hb:Blk w rb 434 #[x0,x1,x2,x3,pF (some (A_ og oo)) 4 oc])
 (c0:w.cell? (A_ og oo)=some (Dz ⟨#[34]⟩))(c1:w.cell? (A_ og (oo+1))=some (Dz ⟨#[92,34]⟩))(c2:w.cell? (A_ og (oo+2))=some (Dz ⟨#[92]⟩))(c3:w.cell? (A_ og (oo+3))=some (Dz ⟨#[92,92]⟩))(aw:og<w.heap.size):
  Calls prog 288 #[pG (some (A_ rb 0))] w fun e w'=>∃bb a b v,e = pJ (.iface 488 (p_ bb 0))/\w.heap.size<=bb/\Vl w w' bb a b v 2:=by
 have q:=hb.rl;have HB:=lH hb;clear hb;have hz:=XR;obtain⟨i0,ad,ae,af,ag⟩:=Mm;have aq:∀W:World,(Instr.makeSlice 41 (I_ 0) (I_ 2)).run prog W = .ok (pF (some (A_ W 0)) 0 2) (W.alloc (.cells #[Dz ⟨#[]⟩,Dz ⟨#[]⟩] 9)):=fun W=>by
  have:=He (P:=prog) 41 9 i0 (Dz ⟨#[]⟩) underlying41 ad ae .i64 .i64 0 2 bB (by rw [ag];decide) bE W;rw [af,show madeCells (Dz ⟨#[]⟩).cells (2*1)=#[Dz ⟨#[]⟩,Dz ⟨#[]⟩] by unfold madeCells;rw [show Array.range (2*1)=#[0,1] by decide];simp [Value.cells]] at this;exact this
 clear ad ae af ag;go_enter func288,ntmps288;go_wp2;go_loopw [4,5] (fun al i wr=>w=wr/\((i = I_ 0/\al = pI true)\/(i = I_ 2/\al = pI false)\/(i = I_ 4/\al = pI false))) (fun _ i _=>(4 - intOf i).toNat)
 case atStart=>exact⟨rfl,.inl ⟨rfl,rfl⟩⟩
 case round=>
  obtain⟨rfl,⟨rfl,rfl⟩ | ⟨rfl,rfl⟩ | ⟨rfl,rfl⟩⟩:=hrel
  ·go_wp2
   go_roundw;case rel=>simp
   case measure=>simp [intOf]
  ·go_wp2
   go_roundw;case rel=>simp
   case measure=>simp [intOf]
  ·go_wp2
   obtain⟨W2,X⟩:=eX ((w.alloc (.cells #[Dz ⟨#[]⟩,Dz ⟨#[]⟩] 9)).alloc (.cells (z257.setIfInBounds 256 (pF (some (A_ w 0)) 0 2)) 487));have HI:Hi (Vl w W2 (w+1) (pF none 0 0) (pF none 0 0) (pF (some (A_ w 0)) 0 2) 0):=lH (by
    rw [<- X];refine⟨?_,?_,((Aa.refl [] w).alloc _).alloc _,by omega,rfl,rfl⟩
    ·rw [XQ]
     have:=Blk.new (w.alloc (.cells #[Dz ⟨#[]⟩,Dz ⟨#[]⟩] 9)) 487 (z257.setIfInBounds 256 (pF (some (A_ w 0)) 0 2));simpa using this
    ·refine World.ownsRow.alloc ?_ _
     have:=World.ownsRow_made (base:=w.heap.size) (e:=9) (size:=1) w #[Dz ⟨#[]⟩,Dz ⟨#[]⟩] 2 (Aw _) bZ rfl;simpa [Ui] using this)
   rw [X];clear X q aq hz;have HC:=lH (Bl c0 (Bl c1 (Bl c2 c3)));clear c0 c1 c2 c3 HB;go_loopw [12] (fun i w2=>∃a b v,(i = I_ 2/\Hi (Vl w w2 (w+1) a b v 0))\/(i = I_ 0/\Hi (Vl w w2 (w+1) a b v 1))\/(i = I_ (-2)/\Hi (Vl w w2 (w+1) a b v 2))) (fun i _=>(intOf i+2).toNat)
   case atStart=>exact⟨_,_,_,.inl ⟨rfl,HI⟩⟩
   case round=>
    clear HI;obtain⟨a,b,v,⟨rfl,HS⟩ | ⟨rfl,HS⟩ | ⟨rfl,HS⟩⟩:=hrel
    ·obtain⟨hb,hrow,hk,M,ha,G⟩:=HS.o
     simp only [show ¬1<=0 from by decide,show 1<=1 from by decide,show ¬2<=0 from by decide,show ¬2<=1 from by decide,if_false,if_true] at ha G;subst ha G;have q:=hb.rl;have kr:=hk.rl;obtain⟨c0,c1,c2,c3⟩:=HC.o;obtain⟨g,c,W3,U,T,O,F,J,ap,B,D,hk5,N,E⟩:=Vl.push HS.o ⟨#[92]⟩ rfl 92 92;rw [show((((⟨#[92]⟩:ByteArray).data[0]!).toNat:Nat):Int)=92 from rfl] at F;have ah:=UX wr 92 92 rfl;have r3:=J.rl;have r5:=B.rl;have HN:Hi (Vl w (O.setCell (A1 w 92) (pF (some (A_ U 0)) 2 T)) (w+1) (pF (some (A_ U 0)) 2 T) (pF none 0 0) (pF (some (A_ g 0)) (0+1) c) 1):=lH (by
      have hk6:Aa [w.heap.size+1] O (O.setCell (A1 w 92) (pF (some (A_ U 0)) 2 T)):=(Aa.refl _ _).setCell (.inl bA) _;have hS:∀q C fr,O.heap[q]? = some (.cells C 5 fr)->q∉[w.heap.size+1]:=fun q C fr hq hm=>by
       simp only [Ac,Ab,or_false] at hm;subst hm;unfold Blk at B;rw [hq] at B;injection B with B
       injection B with _ ht
       exact absurd ht bE
      refine⟨?_,Ah D hk6 (fun g' Y hm'=>N5 D B bE (by simp only [Ac,Ab,or_false] at hm';subst hm';simp [Y])),hk5.own hk6 bF,M,?_,?_⟩
      ·have:=B.set_ 92 (pF (some (A_ U 0)) 2 T)
       rw [Tf] at this;exact this
      ·exact N.keeps hk6 hS
      ·rfl)
     clear hb hrow hk M HS J B D hk5 N E;go_wp2_with (at_builtin;refine Au _ rfl _ _ 41 rfl rfl rfl F ?_);go_roundw;case rel=>exact⟨_,_,_,.inr (.inl ⟨rfl,HN⟩)⟩
     case measure=>simp [intOf]
    ·obtain⟨hb,hrow,hk,M,ha,G⟩:=HS.o
     simp only [show ¬1<=0 from by decide,show 1<=1 from by decide,show ¬2<=0 from by decide,show ¬2<=1 from by decide,if_false,if_true] at ha G;subst G;have q:=hb.rl;have kr:=hk.rl;obtain⟨c0,c1,c2,c3⟩:=HC.o;obtain⟨g,c,W3,U,T,O,F,J,ap,B,D,hk5,N,E⟩:=Vl.push HS.o ⟨#[34]⟩ rfl 92 34;rw [show((((⟨#[34]⟩:ByteArray).data[0]!).toNat:Nat):Int)=34 from rfl] at F;have ah:=UX wr 34 34 rfl;have r3:=J.rl;have r5:=B.rl;have HN:Hi (Vl w (O.setCell (A1 w 34) (pF (some (A_ U 0)) 2 T)) (w+1) a (pF (some (A_ U 0)) 2 T) (pF (some (A_ g 0)) (1+1) c) 2):=lH (by
      have hk6:Aa [w.heap.size+1] O (O.setCell (A1 w 34) (pF (some (A_ U 0)) 2 T)):=(Aa.refl _ _).setCell (.inl bA) _;have hS:∀q C fr,O.heap[q]? = some (.cells C 5 fr)->q∉[w.heap.size+1]:=fun q C fr hq hm=>by
       simp only [Ac,Ab,or_false] at hm;subst hm;unfold Blk at B;rw [hq] at B;injection B with B
       injection B with _ ht
       exact absurd ht bE
      refine⟨?_,Ah D hk6 (fun g' Y hm'=>N5 D B bE (by simp only [Ac,Ab,or_false] at hm';subst hm';simp [Y])),hk5.own hk6 bF,M,?_,?_⟩
      ·have:=B.set_ 34 (pF (some (A_ U 0)) 2 T)
       rw [Te] at this;exact this
      ·exact(E _ _ _ ha).keeps hk6 hS
      ·exact N.keeps hk6 hS)
     clear hb hrow hk M ha HS J B D hk5 N E;go_wp2_with (at_builtin;refine Au _ rfl _ _ 41 rfl rfl rfl F ?_);go_roundw;case rel=>exact⟨_,_,_,.inr (.inr ⟨rfl,HN⟩)⟩
     case measure=>simp [intOf]
    ·go_wp2
     go_ret;exact⟨_,a,b,v,rfl,by omega,HS.o⟩
end
section
open Go.RowKit Go.Shelf
attribute [local go_sem] pN Lr Ls Lp Lq
attribute [local go_sem ↓] wp_at_zero wp_at_succ
def LQ(w:World)(bb:Nat):Prop:=∃a b t c,Blk w bb 487 (FM a b (pF (some ⟨t,0,none⟩) 2 c))/\L0 w a 92 92/\L0 w b 92 34/\∃C fr,w.heap[t]? = some (.cells C 9 fr)/\C[0]? = some (Dz ⟨#[92]⟩)/\C[1]? = some (Dz ⟨#[34]⟩)
theorem Vl.at_{w w':World}{D:Nat}{a b v:Value}(h:Vl w w' D a b v 2):LQ w' D:=by
 obtain⟨h1,h2,-,-,h3,h4⟩:=h;rw [if_pos bE] at h3 h4;rcases h2.2 with⟨_,h0⟩ | ⟨g,c,cur,hv,_,hg,E,_,hs,B⟩
 ·simp [Ui] at h0
 ·have e:(Ui.take 2).length=2:=rfl
  rw [e] at hv B;subst hv;refine⟨a,b,g,c,h1,h3,h4,cur,_,hg,?_,?_⟩
  ·have:=congrArg (·[0]?) B
   simp only [Dh] at this;simpa [Ui,Gf] using this
  ·have:=congrArg (·[1]?) B
   simp only [Dh] at this;simpa [Ui,Gf] using this
theorem M6{w:World}{g h:Nat}{cs B:Array Value}{t E:TypeId}{F D:Nat×Nat}(h1:w.heap[g]? = some (.cells cs t F))(h2:w.heap[h]? = some (.cells B E D))(hne:t≠E):g≠h:=by
 rintro rfl;rw [h1] at h2;injection h2 with h2
 injection h2 with _ ht
 exact hne ht
theorem LQ.keeps1{w w':World}{D E:Nat}{cs:Array Value}(h:LQ w D)(hr:Blk w E 434 cs)(hk:Aa [E] w w'):LQ w' D:=by
 obtain⟨a,b,t,c,h1,h2,h3,C,B,h4,F,G⟩:=h;exact⟨a,b,t,c,h1.keeps hk (by simpa using M6 h1 hr bE),h2.keeps hk (fun q C B hq=>by simpa using M6 hq hr bE),h3.keeps hk (fun q C B hq=>by simpa using M6 hq hr bE),C,B,
  (hk.block t (Ai.1 h4).1 (by simpa using M6 h4 hr bE)).trans h4,F,G⟩
def NI(d s:Int)(u r o:Value):Array Value:=#[.int .u32 d,.int .i32 s,u,r,o]
theorem Oo(B E F oc:Nat)(d s:Int)(u r:Value)(w:World)(hb:Blk w B 434 (NI d s u r (pF (some (A_ E F)) 4 oc)))
 (J:w.cell? (A_ E F)=some (Dz ⟨#[34]⟩))(M:w.cell? (A_ E (F+1))=some (Dz ⟨#[92,34]⟩))(N:w.cell? (A_ E (F+2))=some (Dz ⟨#[92]⟩))(O:w.cell? (A_ E (F+3))=some (Dz ⟨#[92,92]⟩))(G:E<w.heap.size):
  Calls prog 265 #[pG (some (A_ B 0))] w fun e w'=>e = pJ (.tuple #[])/\∃bb,LQ w' bb/\Blk w' B 434 (NI d s u (.iface 488 (p_ bb 0)) (pF none 0 0))/\Aa [B] w w':=by
 have HC:=VE B E F oc _ _ _ _ w hb J M N O G;have HB:=lH hb;clear hb J M N O;go_enter func265,ntmps265;go_wp2_with fail;refine HC.mono ?_;rintro e w1 ⟨bb,a,b,v,rfl,D,hI⟩;have hb1:=HB.o.keeps hI.2.2.1 bA;have U:=hb1.rl;simp only [NI] at U;have HI:=lH (Bl hI (Bl D hb1));clear hI D hb1;go_wp2;obtain⟨hI,D,hb1⟩:=HI.o
 go_end0
 have T:=((Aa.refl [B] w1).setCell (p:=A_ B 3) (.inl bA) (.iface 488 (p_ bb 0))).setCell (p:=A_ B 4) (.inl bA) (pF none 0 0);exact⟨rfl,bb,hI.at_.keeps1 hb1 T,(hb1.set_ 3 _).set_ 4 _,(hI.2.2.1.mono bA).trans T⟩
theorem ZI(B E F oc:Nat)(r u:Value)(w:World)(hb:Blk w B 434 (NI 0 0 u r (pF (some (A_ E F)) 4 oc)))
 (U:w.cell? (A_ E F)=some (Dz ⟨#[34]⟩))(X:w.cell? (A_ E (F+1))=some (Dz ⟨#[92,34]⟩))(Y:w.cell? (A_ E (F+2))=some (Dz ⟨#[92]⟩))(c3:w.cell? (A_ E (F+3))=some (Dz ⟨#[92,92]⟩))(D:E<w.heap.size)(hne:E≠B):
  Calls prog 287 #[pG (some (A_ B 0)),.func (.func 265) #[pG (some (A_ B 0))] #[]] w fun e w'=>e = pJ (.tuple #[])/\∃bb,LQ w' bb/\Blk w' B 434 (NI 1 0 u (.iface 488 (p_ bb 0)) (pF none 0 0))/\Aa [B] w w':=by
 obtain⟨w1,hw1⟩:=eX (w.setCell (A_ B 1) (.int .i32 1));have G:Aa [B] w w1:=by rw [<- hw1];exact(Aa.refl [B] w).setCell (.inl bA) _
 have O:Blk w1 B 434 (NI 0 1 u r (pF (some (A_ E F)) 4 oc)):=by rw [<- hw1];exact hb.set_ 1 _
 have ab:∀(x:Bool) (w:World),(Op.unary .not (pI x)).run prog w = .ok (pI (!x)) w:=fun _ _=>rfl;have M:=Oo B E F oc 0 1 u r w1 O ((G.cell (p:=A_ E F) D aV).trans U) ((G.cell (p:=A_ E (F+1)) D aV).trans X) ((G.cell (p:=A_ E (F+2)) D aV).trans Y) ((G.cell (p:=A_ E (F+3)) D aV).trans c3) (BS D G.size);have J:=Wx B 1 w (by rw [hb.cell];rfl) (hb.frozen 1);have N:=Sb B 0 0 w1 (by rw [O.cell];rfl);rw [hw1] at J;clear U X Y c3 D hne hb O hw1
 go_enter_defers func287,ntmps287
 go_wp2_with fail
 with_reducible refine J.mono ?_
 rintro e w' ⟨rfl,rfl⟩;go_wp2_with fail
 with_reducible refine N.mono ?_
 rintro e w' ⟨rfl,rfl⟩;go_wp2_with fail
 with_reducible refine M.mono ?_
 rintro e w' ⟨rfl,bb,h1,h2,h3⟩;go_wp2_with fail;have k4:Aa [B] w' (((w'.drew.setCell (A_ B 0) (.int .u32 1))).setCell (A_ B 1) (.int .i32 0)):=(((Aa.refl [B] w').drew).setCell (p:=A_ B 0) (.inl bA) _).setCell (p:=A_ B 1) (.inl bA) _;have b4:=(h2.drew.set_ 0 (.int .u32 1)).set_ 1 (.int .i32 0);have a4:=h1.keeps1 h2 k4;refine leaves_cons (f:=302) (args:=#[pG (some (A_ B 0)),pI true]) bA (by simp [go_sem]) ?_;refine(NW B 0 (.int .u32 0) .returning _ (by rw [h2.cell];rfl) (h2.frozen 0)).mono ?_;rintro e u' T ⟨rfl,rfl,rfl⟩;refine leaves_cons (f:=301) (args:=#[pG (some (A_ B 1))]) (by simp [settle]) (by simp [go_sem]) ?_;refine(M0 B 1 _ _ (by rw [(h2.drew.set_ 0 (.int .u32 1)).cell];rfl) ((h2.drew.set_ 0 (.int .u32 1)).frozen 1)).mono ?_;rintro e u' T ⟨rfl,rfl,rfl⟩;simp [Leaves,settle,results,results287];exact⟨bb,a4,b4,(G.trans h3).trans k4⟩
theorem Yj(D B E oc:Nat)(r u:Value)(w:World)(hb:Blk w D 434 (NI 0 0 u r (pF (some (A_ B E)) 4 oc)))
 (J:w.cell? (A_ B E)=some (Dz ⟨#[34]⟩))(M:w.cell? (A_ B (E+1))=some (Dz ⟨#[92,34]⟩))(N:w.cell? (A_ B (E+2))=some (Dz ⟨#[92]⟩))(O:w.cell? (A_ B (E+3))=some (Dz ⟨#[92,92]⟩))(F:B<w.heap.size)(hne:B≠D):
  Calls prog 264 #[pG (some (A_ D 0)),.func (.func 265) #[pG (some (A_ D 0))] #[]] w fun e w'=>e = pJ (.tuple #[])/\∃bb,LQ w' bb/\Blk w' D 434 (NI 1 0 u (.iface 488 (p_ bb 0)) (pF none 0 0))/\Aa [D] w w':=by
 have T:∀(x:Bool) (w:World),(Op.unary .not (pI x)).run prog w = .ok (pI (!x)) w:=fun _ _=>rfl;have G:=Sb D 0 0 w (by rw [hb.cell];rfl);have HS:=ZI D B E oc r u w hb J M N O F hne;clear J M N O F hne hb;go_enter func264,ntmps264;go_wp2_with fail
 with_reducible refine G.mono ?_
 rintro e w' ⟨rfl,rfl⟩;go_wp2_with fail
 with_reducible refine HS.mono ?_
 rintro e w' ⟨rfl,h⟩;go_wp2_with fail
 go_end0
 exact⟨rfl,h⟩
def dF:List ByteArray:=[⟨#[34]⟩,⟨#[92,34]⟩,⟨#[92]⟩,⟨#[92,92]⟩]
theorem Nv(p:Option Addr)(c:Nat)(w:World)(hS:AR Gf 1 w p c dF):
  Calls prog 241 #[pF p 4 c] w fun e w'=>∃rb og oc,e = pJ (p_ rb 0)/\w.heap.size<=rb/\Blk w' rb 434 (NI 0 0 (.int .u32 0) .nilIface (pF (some (A_ og 0)) 4 oc))/\AR Gf 1 w' (some (A_ og 0)) oc dF/\og≠rb/\Aa [] w w':=by
 obtain⟨Y,E,F,G,J⟩:=Mm;obtain⟨v,W,h1,h2,h3⟩:=AR.app (ys:=([]:List ByteArray)) (enc:=Gf) (n:=1) (B:=w.heap.size) (v:=pF none 0 0) prog underlying41 E F G J rfl bE (fun _=>rfl) (fun x u hu=>by unfold Gf at hu;simp only [Ac,Ab,or_false] at hu;subst hu;rfl) (BQ _ _ _ _) (Aw _) hS bE bE 41;rw [BH] at h2;obtain⟨a,O,rfl,D,N⟩:=AR.of_row (enc:=Gf) (n:=1) (fun _=>rfl) h2;obtain⟨og,off,rfl,hlt,U⟩:=D.at_ bE;obtain rfl:off=0:=by
  rcases h2.2 with⟨e,_⟩ | ⟨g,X,cur,e,_⟩
  ·cases e
  ·injection e with e;injection e with e;injection e
 have hk:Aa [] w W:=(Aa.refl [] w).grown h3 (fun k hk=>by cases hk);have M:(BI #[41,41] 41 #[pF none 0 0,pF p 4 c]).run prog w = .ok (pF (some (A_ og 0)) 4 O) W:=h1;clear E F G J h1 h2 h3 U;have T:=lH (Bl D (Bl hlt hk));clear D hk hS N;go_enter func241,ntmps241;go_wp2_with (at_builtin;refine Au _ rfl _ _ 41 rfl rfl rfl M ?_);obtain⟨D,_,hk⟩:=T.o;go_ret;exact⟨W,og,O,rfl,hk.size,Blk.new W _ _,D.keeps ((Aa.refl [] W).alloc _),by omega,hk.alloc _⟩
end
end Go.Proofs.YtncebikgoleolaaGreatDoor
