/- Steps. -/
import Derived.Test.YtncebikgoleolaaGreatDoorKab
import Derived.Stop.RegionWithIn
set_option maxRecDepth 100000
set_option maxHeartbeats 8000000
set_option linter.all false
namespace Go.Proofs.YtncebikgoleolaaGreatDoor
open Tryz
open _root_.Go renaming undef→UD
open _root_.And renaming intro→Bl
open _root_.Array renaming replicate_succ→Bt,replicate_zero→Bu
open _root_.Bool renaming and_assoc→EJ,and_eq_true→Af,false_and→Ep
open Ending renaming returned→pJ
open Instr renaming lookup→Ed
open _root_.Int renaming toNat_natCast→pW
open IntKind renaming i64→pK
open _root_.List renaming all_eq_true→Bm,append_assoc→CC,append_toArray→BD,cons_append→AL,eq_nil_of_length_eq_zero→Ds,getD_eq_getElem?_getD→AO,getElem?_cons_succ→Ao,getElem?_cons_zero→Aj,getElem?_eq_getElem→Aq,getElem?_eq_some_iff→Ad,getElem?_map→qH,getElem?_toArray→An,length_append→Al,length_cons→Av,length_map→Bd,length_nil→D4,length_range→AP,length_singleton→Bp,length_take→Ax,map_append→pO,map_cons→CR,mem_append→AQ,mem_cons→Ac,mem_of_getElem?→CD,nil_append→BH,not_mem_nil→Ab,push_toArray→Cd,range→AC,size_toArray→Cz,take_append_drop→Dn,take_of_length_le→Ak
open _root_.Nat renaming add_zero→AT,le_refl→Aw,le_trans→A8,lt_of_lt_of_le→BS,mul_one→pR,reduceAdd→pL,reduceSub→pM,zero_le→Ba
open Oper renaming semAt_some→pN
open Program renaming fieldsOf→CK
open Value renaming agg→pH,bool→pI,int→pE,pointer→pG,slice→pF,string→Dz
open World renaming block_lt_of_cell?→Be,ownsRow_nil→BQ,size_alloc→Eo
section
open Go.RowKit Go.Shelf
attribute [local go_sem] pN
attribute [local go_sem ↓] wp_at_zero wp_at_succ
theorem LD(used:List Bool):∀(L met:List Int),Fk used met L=true->∀x∈L,0<=x/\x<used.length/\used.getD x.toNat true=false
 | [],_,_,x,hx=>by simp at hx
 | y::L,met,h,x,hx=>by
  simp only [Fk,Af,decide_eq_true_eq,Bool.not_eq_true'] at h;rcases Ac.1 hx with rfl | hx
  ·exact⟨h.1.1.1.1,h.1.1.1.2,h.1.1.2⟩
  ·exact LD used L _ h.2 x hx
theorem AR.cap{α:Type}{enc:α->List Value}{n:Nat}{w:World}{p:Addr}{c c2:Nat}{xs:List α}(h:AR enc n w (some p) c xs)(hc:xs.length<=c2):AR enc n w (some p) c2 xs:=⟨hc,(fun e=>by cases e),h.at_⟩
theorem AR.set1{α:Type}{f:α->Value}{enc:α->List Value}(he:∀x,enc x = [f x]){w:World}{g o c j:Nat}{xs:List α}(h:AR enc 1 w (some (A_ g o)) c xs)(hj:j<xs.length)(y:α):AR enc 1 (w.setCell (A_ g (o+j)) (f y)) (some (A_ g o)) c (xs.set j y):=by
 obtain⟨D,o',e,hg,E⟩:=h.at_ bB;injection e with e
 obtain⟨rfl,rfl⟩:g=D/\o=o':=by injection e with e1 e2;exact⟨e1,e2⟩
 refine⟨by simpa using h.le,(fun e=>by cases e),fun _=>⟨g,o,rfl,by simpa [World.setCell] using hg,fun i hi k u hk=>?_⟩⟩;rw [List.length_set] at hi;rw [he] at hk;cases k with
 | succ k=>simp at hk
 | zero=>
  simp only [Aj,Option.some.injEq] at hk;have h0:=E i hi 0 (f xs[i]) (by rw [he];rfl);by_cases e2:i=j
  ·subst e2
   rw [List.getElem_set_self] at hk;rw [<- hk];simp only [pR,AT] at h0 ⊢;exact World.cell?_setCell_same _ _ _ h0
  ·rw [List.getElem_set_ne (fun B=>e2 B.symm)] at hk
   rw [<- hk,World.cell?_setCell_other _ _ _ _ (by intro B;injection B with _ e4;omega)];exact h0
theorem P5{m un fc j:Nat}(hj:j<un)(hc:m+1<=fc)(hm:m+1<=1000):IntKind.i64.wrap (((m+1:Nat):Int) - 1)=(m:Int)/\wrap64 (m:Int)=(m:Int)/\(0:Int)<=(j:Int)/\(j:Int)<(un:Int)/\(0:Int)<=(m:Int)/\decide ((m:Int)<0)=false/\(m:Int)<((m+1:Nat):Int)/\(m:Int)<=(fc:Int):=
 ⟨by rw [show((m+1:Nat):Int) - 1=(m:Int) by omega];exact IntWalk.i64_in _ bB,IntWalk.wrap64_in _ ⟨by omega,by omega⟩,by omega,by omega,by omega,decide_eq_false bB,by omega,by omega⟩
theorem MA{i:Int}{u:Nat}(h0:0<=i)(h1:i<u):∃j:Nat,i=(j:Int)/\j<u:=⟨i.toNat,by omega,by omega⟩
theorem X7(v:DF)(s:Fz)(gn un fn:Nat)(hg:s.gens.length=gn)(hu:s.used.length=un)(hf:s.free.length=fn)(hb:Dv s=false)(w:World)(h:Dy w v s):
  Calls prog 130 #[pH (S_ v gn un fn)] w fun e w'=>∃x,e = pJ (.tuple #[x,pH #[pE pK (Bn s).2.1.1,I_ (Bn s).2.1.2],I_ (Bn s).2.2])/\Di w w' (Bn s).1 x/\Aa [] w w':=by
 obtain⟨wz,hwz⟩:=eX (((w.alloc (.cells (S_ v gn un fn) 26)).alloc (.cells IY.k 26)).alloc (.cells #[pE pK 0,I_ 0] 65));have F:Aa [] w wz:=by rw [<- hwz];exact(((Aa.refl [] w).alloc _).alloc _).alloc _
 have E:Blk wz w 26 (S_ v gn un fn):=by rw [<- hwz];exact((Blk.new w _ _).alloc _).alloc _
 have M:Blk wz (w+1) 26 IY.k:=by rw [<- hwz];exact(Ar _ _ _ _ bA).alloc _
 have J:Blk wz (w+1+1) 65 #[pE pK 0,I_ 0]:=by rw [<- hwz];exact Ar _ _ _ _ bA
 have HR:=lH (fun W (hkk:Aa [] wz W)=>DR v s gn un fn hg hu hf false hb W (h.keeps (F.trans hkk)));have HO:=lH (fun W (hkk:Aa [] wz W)=>I0 v s gn un fn hg hu hf W (h.keeps (F.trans hkk)));have HB:=lH hb;have HG:=lH hg;have HU:=lH hu;have HF:=lH hf;have aa:=lH (Bl h.sg (Bl h.su h.sf));have HK0:=lH F;have HB0:=lH E;have T:=lH M;have HBH:=lH J;have U:=E.ce 0;have p1:=E.ce 1;have p2:=E.ce 2;clear h hg hu hf hb F E M J;go_enter func130,ntmps130;go_wp2_with fail;clear hwz U p1 p2;refine(HR.o wz (Aa.refl [] wz)).mono ?_;rintro e w1 ⟨rfl,hk1⟩;have HK1:=lH hk1;have U:=(HB0.o.keeps hk1 bA).ce 0;have p1:=(HB0.o.keeps hk1 bA).ce 1;have p2:=(HB0.o.keeps hk1 bA).ce 2;have B:=lH (T.o.keeps hk1 bA);have D:=lH (HBH.o.keeps hk1 bA);have Y:Hi (w.heap.size+1+1<w1.heap.size):=lH D.o.lt;clear hk1;have HKW:=lH (HK0.o.trans HK1.o);have G:Hi (∀(er:Int) (W:World),Aa [] w1 W->Bn s=(Ez,(0,0),er)->∀N,Aa [w.heap.size+1,w.heap.size+1+1] W N->Di w N (Bn s).1 (.agg IY.k)/\Aa [] w N):=lH fun er W hW O N hk=>by
  rw [O];exact⟨Di.zero _ _,(HKW.o.trans hW).own hk bF⟩
 have O:Bn s=(Ez,(0,0),90):=by unfold Bn;rw [if_neg lT]
 have X:=lH O;clear O U p1 p2;have c0:=B.o.ce 0;have c1:=B.o.ce 1;have c2:=B.o.ce 2;have d0:=D.o.ce 0;have d1:=D.o.ce 1;have f0:=B.o.frozen 0;have f1:=B.o.frozen 1;have f2:=B.o.frozen 2;have g0:=D.o.frozen 0;have g1:=D.o.frozen 1;go_wp2_with fail;exact bodyPost_ret (v:=.tuple #[.agg IY.k,pH #[pE pK 0,I_ 0],I_ 90]) (by simp [results,results130,go_sem,c0,c1,c2,d0,d1]) rfl ⟨_,by rw [X.o],G.o 90 w1 nG X.o _ bY⟩
theorem SU(v:DF)(s:Fz)(gn un fn:Nat)(hg:s.gens.length=gn)(hu:s.used.length=un)(hf:s.free.length=fn)(hb:Dv s=true)(ab:Hi (fn=0))(w:World)(h:Dy w v s):
  Calls prog 130 #[pH (S_ v gn un fn)] w fun e w'=>∃x,e = pJ (.tuple #[x,pH #[pE pK (Bn s).2.1.1,I_ (Bn s).2.1.2],I_ (Bn s).2.2])/\Di w w' (Bn s).1 x/\Aa [] w w':=by
 obtain⟨wz,hwz⟩:=eX (((w.alloc (.cells (S_ v gn un fn) 26)).alloc (.cells IY.k 26)).alloc (.cells #[pE pK 0,I_ 0] 65));have J:Aa [] w wz:=by rw [<- hwz];exact(((Aa.refl [] w).alloc _).alloc _).alloc _
 have E:Blk wz w 26 (S_ v gn un fn):=by rw [<- hwz];exact((Blk.new w _ _).alloc _).alloc _
 have aa:Blk wz (w+1) 26 IY.k:=by rw [<- hwz];exact(Ar _ _ _ _ bA).alloc _
 have Y:Blk wz (w+1+1) 65 #[pE pK 0,I_ 0]:=by rw [<- hwz];exact Ar _ _ _ _ bA
 have HR:=lH (fun W (hkk:Aa [] wz W)=>DR v s gn un fn hg hu hf true hb W (h.keeps (J.trans hkk)));have HO:=lH (fun W (hkk:Aa [] wz W)=>I0 v s gn un fn hg hu hf W (h.keeps (J.trans hkk)));have HB:=lH hb;have HG:=lH hg;have HU:=lH hu;have HF:=lH hf;have ap:=lH (Bl h.sg (Bl h.su h.sf));have HK0:=lH J;have HB0:=lH E;have af:=lH aa;have HBH:=lH Y;have p0:=E.ce 0;have p1:=E.ce 1;have p2:=E.ce 2;clear h hg hu hf hb J E aa Y;go_enter func130,ntmps130;go_wp2_with fail;clear hwz p0 p1 p2;refine(HR.o wz (Aa.refl [] wz)).mono ?_;rintro e w1 ⟨rfl,hk1⟩;have HK1:=lH hk1;have p0:=(HB0.o.keeps hk1 bA).ce 0;have p1:=(HB0.o.keeps hk1 bA).ce 1;have p2:=(HB0.o.keeps hk1 bA).ce 2;have U:=lH (af.o.keeps hk1 bA);have N:=lH (HBH.o.keeps hk1 bA);have ak:Hi (w.heap.size+1+1<w1.heap.size):=lH N.o.lt;clear hk1;have HKW:=lH (HK0.o.trans HK1.o);have X:Hi (∀(er:Int) (W:World),Aa [] w1 W->Bn s=(Ez,(0,0),er)->∀W',Aa [w.heap.size+1,w.heap.size+1+1] W W'->Di w W' (Bn s).1 (.agg IY.k)/\Aa [] w W'):=lH fun er W hW ht W' hk=>by
  rw [ht];exact⟨Di.zero _ _,(HKW.o.trans hW).own hk bF⟩
 have T:=HB.o;unfold Dv at T;simp only [Af,decide_eq_true_eq] at T;obtain⟨⟨⟨⟨⟨ag,ah⟩,ac⟩,G⟩,F⟩,M⟩:=T;obtain rfl:un=gn:=by rw [<- HU.o,<- HG.o];exact ac
 have am:=lH F;have an:=lH G;clear ag ah G M ac F;go_wp2_with fail;clear p0 p1 p2;refine(HO.o w1 HK1.o).mono ?_;rintro e w2 ⟨tb,g,ua,uc,fa,fc,rfl,O⟩;have t0:=O.blk.ce 0;have t1:=O.blk.ce 1;have t2:=O.blk.ce 2;have HOT:=lH O;have B:=lH (U.o.keeps O.kw bA);have D:=lH (N.o.keeps O.kw bA);clear O;have HTK:Hi (Bn s=(match s.free.getLast? with
  | none=>(Ez,(0,0),92)
  | some i=>if s.gens.getD i.toNat 0=1000000000 then(Ez,(0,0),92) else(⟨s.gens.set i.toNat (s.gens.getD i.toNat 0+1),s.used.set i.toNat true,s.free.dropLast⟩,(i,s.gens.getD i.toNat 0+1),0))):=lH nJ
 have ht:Bn s=(Ez,(0,0),92):=by rw [HTK.o,Ds (HF.o.trans ab.out)];rfl
 have HT:=lH ht;clear ht;obtain rfl:fn=0:=ab.out;go_wp2_with fail;go_quiet (fail);clear t0 t1 t2;have c0:=B.o.ce 0;have c1:=B.o.ce 1;have c2:=B.o.ce 2;have d0:=D.o.ce 0;have d1:=D.o.ce 1;have f0:=B.o.frozen 0;have f1:=B.o.frozen 1;have f2:=B.o.frozen 2;have g0:=D.o.frozen 0;have g1:=D.o.frozen 1;go_wp2_with fail;exact bodyPost_ret (v:=.tuple #[.agg IY.k,pH #[pE pK 0,I_ 0],I_ 92]) (by simp [results,results130,go_sem,c0,c1,c2,d0,d1]) rfl ⟨_,by rw [HT.o],X.o 92 w2 nG HT.o _ bY⟩
theorem Vt(v:DF)(s:Fz)(gn un fn:Nat)(hg:s.gens.length=gn)(hu:s.used.length=un)(hf:s.free.length=fn)(hb:Dv s=true)(m:Nat)(av:Hi (fn=m+1))(G:Hi (Bn s=(Ez,(0,0),92)))(w:World)(h:Dy w v s):
  Calls prog 130 #[pH (S_ v gn un fn)] w fun e w'=>∃x,e = pJ (.tuple #[x,pH #[pE pK (Bn s).2.1.1,I_ (Bn s).2.1.2],I_ (Bn s).2.2])/\Di w w' (Bn s).1 x/\Aa [] w w':=by
 obtain⟨wz,hwz⟩:=eX (((w.alloc (.cells (S_ v gn un fn) 26)).alloc (.cells IY.k 26)).alloc (.cells #[pE pK 0,I_ 0] 65));have N:Aa [] w wz:=by rw [<- hwz];exact(((Aa.refl [] w).alloc _).alloc _).alloc _
 have E:Blk wz w 26 (S_ v gn un fn):=by rw [<- hwz];exact((Blk.new w _ _).alloc _).alloc _
 have aj:Blk wz (w+1) 26 IY.k:=by rw [<- hwz];exact(Ar _ _ _ _ bA).alloc _
 have ai:Blk wz (w+1+1) 65 #[pE pK 0,I_ 0]:=by rw [<- hwz];exact Ar _ _ _ _ bA
 have HR:=lH (fun W (hkk:Aa [] wz W)=>DR v s gn un fn hg hu hf true hb W (h.keeps (N.trans hkk)));have HO:=lH (fun W (hkk:Aa [] wz W)=>I0 v s gn un fn hg hu hf W (h.keeps (N.trans hkk)));have HB:=lH hb;have HG:=lH hg;have HU:=lH hu;have HF:=lH hf;have aq:=lH (Bl h.sg (Bl h.su h.sf));have HK0:=lH N;have HB0:=lH E;have ao:=lH aj;have HBH:=lH ai;have p0:=E.ce 0;have p1:=E.ce 1;have p2:=E.ce 2;clear h hg hu hf hb N E aj ai;go_enter func130,ntmps130;go_wp2_with fail;clear hwz p0 p1 p2;refine(HR.o wz (Aa.refl [] wz)).mono ?_;rintro e w1 ⟨rfl,hk1⟩;have HK1:=lH hk1;have p0:=(HB0.o.keeps hk1 bA).ce 0;have p1:=(HB0.o.keeps hk1 bA).ce 1;have p2:=(HB0.o.keeps hk1 bA).ce 2;have ad:=lH (ao.o.keeps hk1 bA);have U:=lH (HBH.o.keeps hk1 bA);have a0:Hi (w.heap.size+1+1<w1.heap.size):=lH U.o.lt;clear hk1;have HKW:=lH (HK0.o.trans HK1.o);have ae:Hi (∀(er:Int) (W:World),Aa [] w1 W->Bn s=(Ez,(0,0),er)->∀W',Aa [w.heap.size+1,w.heap.size+1+1] W W'->Di w W' (Bn s).1 (.agg IY.k)/\Aa [] w W'):=lH fun er W hW ht W' hk=>by
  rw [ht];exact⟨Di.zero _ _,(HKW.o.trans hW).own hk bF⟩
 have ac:=HB.o;unfold Dv at ac;simp only [Af,decide_eq_true_eq] at ac;obtain⟨⟨⟨⟨⟨ar,au⟩,al⟩,J⟩,F⟩,O⟩:=ac;obtain rfl:un=gn:=by rw [<- HU.o,<- HG.o];exact al
 have ap:=lH F;have a4:=lH J;clear ar au J O al F;go_wp2_with fail;clear p0 p1 p2;refine(HO.o w1 HK1.o).mono ?_;rintro e w2 ⟨tb,g,ua,uc,fa,fc,rfl,Y⟩;have t0:=Y.blk.ce 0;have t1:=Y.blk.ce 1;have t2:=Y.blk.ce 2;have HOT:=lH Y;have B:=lH (ad.o.keeps Y.kw bA);have D:=lH (U.o.keeps Y.kw bA);clear Y;have HTK:Hi (Bn s=(match s.free.getLast? with
  | none=>(Ez,(0,0),92)
  | some i=>if s.gens.getD i.toNat 0=1000000000 then(Ez,(0,0),92) else(⟨s.gens.set i.toNat (s.gens.getD i.toNat 0+1),s.used.set i.toNat true,s.free.dropLast⟩,(i,s.gens.getD i.toNat 0+1),0))):=lH nJ
 have ag:=G;clear G;obtain rfl:fn=m+1:=av.out;have T:=AR.row Eu (show w2.ownsRow w1 3 1 (pF fa s.free.length fc) s.free.length (s.free.flatMap Fb) by rw [HF.o];exact HOT.o.f);obtain⟨g3,o3,i,rfl,aw,hx,hat⟩:=T.at_k (k:=m) (by rw [HF.o];exact Nat.lt_succ_self m);have q3:=hat 0 (I_ i) rfl;rw [AT,pR] at q3;obtain⟨ak,aa,ab⟩:=LD s.used s.free [] ap.o i (CD hx);rw [HU.o] at aa;obtain⟨j,rfl,hj⟩:=MA ak aa;rw [pW] at ab;have M:s.free.getLast? = some (j:Int):=by rw [List.getLast?_eq_getElem?,HF.o];exact hx
 obtain⟨z,hz⟩:∃z,s.gens[j]? = some z:=⟨_,Aq (by rw [HG.o];exact hj)⟩;have am:s.gens.getD j 0=z:=by rw [AO,hz];rfl
 have qg:=HOT.o.gb.cell j;rw [An,qH,hz,Option.map_some] at qg;have ah:Hi (Bn s=if z=1000000000 then(Ez,(0,0),92) else(⟨s.gens.set j (z+1),s.used.set j true,s.free.dropLast⟩,((j:Int),z+1),0)):=lH (by rw [HTK.o,M];simp only [pW,am]);have X:m+1<=fc:=by have:=T.le;rw [HF.o] at this;exact this
 obtain⟨hw1,bf,bg,bh,bi,bm,bj,bl⟩:=P5 hj X (by have:=aq.o.2.2;rw [HF.o] at this;exact this);have a3:=lH T;have HZ:=lH hz;have HJ:=lH hj;have a5:=lH ab;clear hat hx ak aa ab M hz am T aw X hj;have ax:z=1000000000:=by
  by_cases e:z=1000000000
  ·exact e
  ·have h1:=ah.o
   rw [if_neg e,ag.o] at h1;injection h1 with _ h1;injection h1 with _ h1;exact absurd h1 bE
 subst ax;have HT:=ag;clear ah;go_wp2_with fail;go_quiet (fail);clear t0 t1 t2 q3 qg;have c0:=B.o.ce 0;have c1:=B.o.ce 1;have c2:=B.o.ce 2;have d0:=D.o.ce 0;have d1:=D.o.ce 1;have f0:=B.o.frozen 0;have f1:=B.o.frozen 1;have f2:=B.o.frozen 2;have g0:=D.o.frozen 0;have g1:=D.o.frozen 1;go_wp2_with fail;exact bodyPost_ret (v:=.tuple #[.agg IY.k,pH #[pE pK 0,I_ 0],I_ 92]) (by simp [results,results130,go_sem,c0,c1,c2,d0,d1]) rfl ⟨_,by rw [HT.o],ae.o 92 w2 nG HT.o _ bY⟩
theorem Dy.keepsS{w w':World}{v:DF}{s:Fz}{S:List Nat}(h:Dy w v s)(hk:Aa S w w')(h1:∀g o,v.ga=some (A_ g o)->g∉S)(h2:∀g o,v.ua=some (A_ g o)->g∉S)(h3:∀g o,v.fa=some (A_ g o)->g∉S):Dy w' v s:={ h with g:=h.g.keepsS hk h1,u:=h.u.keepsS hk h2,f:=h.f.keepsS hk h3 }
theorem aP(v:DF)(s:Fz)(gn un fn:Nat)(hg:s.gens.length=gn)(hu:s.used.length=un)(hf:s.free.length=fn)(hb:Dv s=true)(m:Nat)(bx:Hi (fn=m+1))(hno:Hi (Bn s≠(Ez,(0,0),92)))(w:World)(h:Dy w v s):
  Calls prog 130 #[pH (S_ v gn un fn)] w fun e w'=>∃x,e = pJ (.tuple #[x,pH #[pE pK (Bn s).2.1.1,I_ (Bn s).2.1.2],I_ (Bn s).2.2])/\Di w w' (Bn s).1 x/\Aa [] w w':=by
 obtain⟨wz,hwz⟩:=eX (((w.alloc (.cells (S_ v gn un fn) 26)).alloc (.cells IY.k 26)).alloc (.cells #[pE pK 0,I_ 0] 65));have aa:Aa [] w wz:=by rw [<- hwz];exact(((Aa.refl [] w).alloc _).alloc _).alloc _
 have N:Blk wz w 26 (S_ v gn un fn):=by rw [<- hwz];exact((Blk.new w _ _).alloc _).alloc _
 have a5:Blk wz (w+1) 26 IY.k:=by rw [<- hwz];exact(Ar _ _ _ _ bA).alloc _
 have a4:Blk wz (w+1+1) 65 #[pE pK 0,I_ 0]:=by rw [<- hwz];exact Ar _ _ _ _ bA
 have HR:=lH (fun W (hkk:Aa [] wz W)=>DR v s gn un fn hg hu hf true hb W (h.keeps (aa.trans hkk)));have HO:=lH (fun W (hkk:Aa [] wz W)=>I0 v s gn un fn hg hu hf W (h.keeps (aa.trans hkk)));have HB:=lH hb;have HG:=lH hg;have HU:=lH hu;have HF:=lH hf;have Y:=lH (Bl h.sg (Bl h.su h.sf));have HK0:=lH aa;have HB0:=lH N;have bi:=lH a5;have HBH:=lH a4;have p0:=N.ce 0;have p1:=N.ce 1;have p2:=N.ce 2;clear h hg hu hf hb aa N a5 a4;go_enter func130,ntmps130;go_wp2_with fail;clear hwz p0 p1 p2;refine(HR.o wz (Aa.refl [] wz)).mono ?_;rintro e w1 ⟨rfl,hk1⟩;have HK1:=lH hk1;have p0:=(HB0.o.keeps hk1 bA).ce 0;have p1:=(HB0.o.keeps hk1 bA).ce 1;have p2:=(HB0.o.keeps hk1 bA).ce 2;have a1:=lH (bi.o.keeps hk1 bA);have af:=lH (HBH.o.keeps hk1 bA);have ak:Hi (w.heap.size+1+1<w1.heap.size):=lH af.o.lt;clear hk1;have HKW:=lH (HK0.o.trans HK1.o);have b4:Hi (∀(er:Int) (W:World),Aa [] w1 W->Bn s=(Ez,(0,0),er)->∀W',Aa [w.heap.size+1,w.heap.size+1+1] W W'->Di w W' (Bn s).1 (.agg IY.k)/\Aa [] w W'):=lH fun er W hW ht W' hk=>by
  rw [ht];exact⟨Di.zero _ _,(HKW.o.trans hW).own hk bF⟩
 have ax:=HB.o;unfold Dv at ax;simp only [Af,decide_eq_true_eq] at ax;obtain⟨⟨⟨⟨⟨bv,bw⟩,ae⟩,T⟩,O⟩,ab⟩:=ax;obtain rfl:un=gn:=by rw [<- HU.o,<- HG.o];exact ae
 have bm:=lH O;have bo:=lH T;clear bv bw T ab ae O;go_wp2_with fail;clear p0 p1 p2;refine(HO.o w1 HK1.o).mono ?_;rintro e w2 ⟨tb,g,ua,uc,fa,fc,rfl,hO⟩;have t0:=hO.blk.ce 0;have t1:=hO.blk.ce 1;have t2:=hO.blk.ce 2;have HOT:=lH hO;have a2:=lH (a1.o.keeps hO.kw bA);have a0:=lH (af.o.keeps hO.kw bA);clear hO;have HTK:Hi (Bn s=(match s.free.getLast? with
  | none=>(Ez,(0,0),92)
  | some i=>if s.gens.getD i.toNat 0=1000000000 then(Ez,(0,0),92) else(⟨s.gens.set i.toNat (s.gens.getD i.toNat 0+1),s.used.set i.toNat true,s.free.dropLast⟩,(i,s.gens.getD i.toNat 0+1),0))):=lH nJ
 have HNO:=hno;clear hno;obtain rfl:fn=m+1:=bx.out;have ac:=AR.row Eu (show w2.ownsRow w1 3 1 (pF fa s.free.length fc) s.free.length (s.free.flatMap Fb) by rw [HF.o];exact HOT.o.f);obtain⟨M,o3,i,rfl,bz,hx,hat⟩:=ac.at_k (k:=m) (by rw [HF.o];exact Nat.lt_succ_self m);have q3:=hat 0 (I_ i) rfl;rw [AT,pR] at q3;obtain⟨a7,av,aw⟩:=LD s.used s.free [] bm.o i (CD hx);rw [HU.o] at av;obtain⟨j,rfl,hj⟩:=MA a7 av;rw [pW] at aw;have X:s.free.getLast? = some (j:Int):=by rw [List.getLast?_eq_getElem?,HF.o];exact hx
 obtain⟨z,hz⟩:∃z,s.gens[j]? = some z:=⟨_,Aq (by rw [HG.o];exact hj)⟩;have bb:s.gens.getD j 0=z:=by rw [AO,hz];rfl
 have qg:=HOT.o.gb.cell j;rw [An,qH,hz,Option.map_some] at qg;have aq:Hi (Bn s=if z=1000000000 then(Ez,(0,0),92) else(⟨s.gens.set j (z+1),s.used.set j true,s.free.dropLast⟩,((j:Int),z+1),0)):=lH (by rw [HTK.o,X];simp only [pW,bb]);have ai:m+1<=fc:=by have:=ac.le;rw [HF.o] at this;exact this
 obtain⟨hw1,ck,cm,cn,co,cr,cp,cq⟩:=P5 hj ai (by have:=Y.o.2.2;rw [HF.o] at this;exact this);have bl:=lH ac;have HZ:=lH hz;have HJ:=lH hj;have ca:=lH aw;have az:z≠1000000000:=fun e=>HNO.o (by rw [aq.o,if_pos e]);have HT:Hi (Bn s=(⟨s.gens.set j (z+1),s.used.set j true,s.free.dropLast⟩,((j:Int),z+1),0)):=lH (by rw [aq.o,if_neg az]);have fz:(z==1000000000)=false:=by simpa using az
 have cl:IntKind.i64.wrap (z+1)=z+1:=by
  have:=Bm.1 bo.o z (CD hz);simp only [Af,decide_eq_true_eq] at this;exact IntWalk.i64_in _ bB
 clear hat hx a7 av aw X hz bb ac bz ai hj aq az;have ay:=AR.row KG (show w2.ownsRow w1 4 1 (pF ua s.used.length uc) s.used.length (s.used.flatMap JM) by rw [HU.o];exact HOT.o.u);obtain⟨E,uo,b0,rfl,ae,b1,ah⟩:=ay.at_k (k:=j) lO;have F:Hi (E≠tb/\g≠tb/\E≠g/\M≠tb/\M≠g/\M≠E):=lH ⟨CX HOT.o.u HOT.o.blk bE E rfl,Blk.ne_ HOT.o.gb HOT.o.blk bE,HOT.o.nu E rfl,CX HOT.o.f HOT.o.blk bE M rfl,HOT.o.ne M rfl,FP HOT.o.f HOT.o.u bE M E rfl rfl⟩;have bs:=lH (DP HOT.o.u rfl);have bt:=lH ay;have br:=lH (ah 0 _ rfl);clear ay ae b1 ah;go_wp2_with fail;go_quiet (fail);go_upto_region 8 with fail
 go_cut [57] (fun _ wc=>Hi (Blk wc tb 210 #[pF (some (A_ g 0)) un un,pF (some (A_ E uo)) un uc,pF (some (A_ M o3)) m m]/\Aa [tb] w2 wc))
 case first=>
  have ad:=HOT.o.blk.frozen 2;go_wp2_with fail;go_meet;exact lH ⟨by simpa using(HOT.o.blk.keeps ((Aa.refl [] w2).drewN _) bA).set_ 2 (pF (some (A_ M o3)) m m),((Aa.refl [tb] w2).drewN _).setCell (.inl bA) _⟩
 case rest=>
  rename World=>wc
  have G:=hcut;clear t0 t1 t2 q3 qg hcut;have t1:=G.o.1.ce 1;obtain⟨cu,au⟩:=bs.o;have aj:=au.keeps G.o.2 (by simpa using F.o.1);have q1:=(G.o.2.cell (p:=A_ E (uo+j*1+0)) au.lt (by simpa using F.o.1)).trans br.o;rw [AT,pR] at q1;have ad:=aj.frozen (uo+j);clear au aj;go_upto_region 9 with fail
  go_cut [69] (fun _ wd=>Hi (wd=wc.setCell (A_ E (uo+j)) (pI true)))
  case first=>
   go_wp2_with fail;go_meet;exact lH rfl
  case rest=>
   rename World=>wd
   have an:=hcut;have hk2:Aa [E] wc wd:=by rw [an.o];exact Ae _ _ _ _
   have HB2:=lH (G.o.1.keeps hk2 (by simpa using F.o.1.symm));have a6:=HOT.o.gb.keeps G.o.2 (by simpa using F.o.2.1);have ap:=lH (a6.keeps hk2 (by simpa using F.o.2.2.1.symm));have bp:Hi (GX wd (some (A_ E uo)) uc (s.used.set j true)):=lH (by
    rw [an.o];exact(bt.o.keepsS G.o.2 (fun g' o' e=>by injection e with e;injection e with e _;subst e;simpa using F.o.1)).set1 (f:=pI) (fun _=>rfl) lO true)
   have HK2:=lH hk2;clear hcut t1 q1 ad hk2 a6 an;have t0:=HB2.o.ce 0;have q2:=ap.o.cell j;have ad:=ap.o.frozen j;rw [An,qH,HZ.o,Option.map_some] at q2;go_upto_region 10 with fail
   go_cut [80] (fun _ wf=>Hi (wf=wd.setCell (A_ g j) (I_ (z+1))))
   case first=>
    go_wp2_with fail;go_meet;exact lH rfl
   case rest=>
    rename World=>wf
    have ao:=hcut;have hk3:Aa [g] wd wf:=by rw [ao.o];exact Ae _ _ _ _
    have am:=lH (HB2.o.keeps hk3 (by simpa using F.o.2.1.symm));have a3:Hi (Blk wf g 3 ((s.gens.set j (z+1)).map (pE .i64)).toArray):=lH (by rw [ao.o,List.map_set];simpa using ap.o.set_ j (I_ (z+1)));have U:Aa [tb,E,g] w2 wf:=((G.o.2.mono bA).trans (HK2.o.mono bA)).trans (hk3.mono bA);have HKF:Hi (Aa [tb,E,g] w2 wf):=lH U;have bq:Hi (GX wf (some (A_ E uo)) uc (s.used.set j true)):=lH (bp.o.keepsS hk3 (fun g' o' e=>by injection e with e;injection e with e _;subst e;simpa using F.o.2.2.1));have bj:Hi (F1 wf (some (A_ M o3)) m s.free.dropLast):=lH (by
     rw [List.dropLast_eq_take,HF.o];exact((bl.o.take m).cap (by rw [Ax,HF.o];simp)).keepsS U (fun g' o' e=>by
      injection e with e;injection e with e _;subst e
      have:=F.o;simp only [Ac,Ab,or_false,not_or];exact⟨this.2.2.2.1,this.2.2.2.2.2,this.2.2.2.2.1⟩))
    clear hcut t0 q2 ad hk3 U ao;have t0:=am.o.ce 0;have t1:=am.o.ce 1;have t2:=am.o.ce 2;have q2:=a3.o.cell j;rw [An,qH,List.getElem?_set_self (by rw [HG.o];exact HJ.o),Option.map_some] at q2;have B:Hi (w.heap.size+1+1<tb/\w.heap.size+1+1<E/\w.heap.size+1+1<g):=lH (by
     have h0:=ak.out;have h1:=HOT.o.te;have h2:=HOT.o.ge;have h3:=AZ HOT.o.u E iW;omega)
    have a9:w.heap.size+1∉[tb,E,g]:=by have:=B.o;simp only [Ac,Ab,or_false];omega
    have ba:w.heap.size+1+1∉[tb,E,g]:=by have:=B.o;simp only [Ac,Ab,or_false];omega
    have D:=lH (a2.o.keeps HKF.o a9);have J:=lH (a0.o.keeps HKF.o ba);have c0:=D.o.ce 0;have c1:=D.o.ce 1;have c2:=D.o.ce 2;have d0:=J.o.ce 0;have d1:=J.o.ce 1;have f0:=D.o.frozen 0;have f1:=D.o.frozen 1;have f2:=D.o.frozen 2;have g0:=J.o.frozen 0;have g1:=J.o.frozen 1;have x1:¬g=w.heap.size+1:=by have:=B.o;omega
    have x2:¬g=w.heap.size+1+1:=by have:=B.o;omega
    have x3:¬tb=w.heap.size+1:=by have:=B.o;omega
    have x4:¬tb=w.heap.size+1+1:=by have:=B.o;omega
    have x5:¬w.heap.size+1=g:=by have:=B.o;omega
    have x6:¬w.heap.size+1+1=g:=by have:=B.o;omega
    have x7:¬w.heap.size+1=tb:=by have:=B.o;omega
    have x8:¬w.heap.size+1+1=tb:=by have:=B.o;omega
    clear a9 ba;go_wp2_with fail;go_region;go_wp2_with fail;refine bodyPost_ret (v:=.tuple #[pH #[pF (some (A_ g 0)) un un,pF (some (A_ E uo)) un uc,pF (some (A_ M o3)) m m],pH #[pE pK (j:Int),I_ (z+1)],I_ 0]) (by simp [results,results130,go_sem,c0,c1,c2,d0,d1]) rfl ⟨_,by rw [HT.o],?_,?_⟩
    ·rw [HT.o]
     have hm:Dy wf ⟨some (A_ g 0),un,some (A_ E uo),uc,some (A_ M o3),m⟩ ⟨s.gens.set j (z+1),s.used.set j true,s.free.dropLast⟩:=⟨AR.of_blk (f:=pE .i64) (fun _=>rfl) (by simpa using HG.o) a3.o,bq.o,bj.o,by simpa using Y.o.1,by simpa using Y.o.2.1,by have:=Y.o.2.2;simp only [List.length_dropLast];omega⟩;have h5:=B.o;have h6:=AZ HOT.o.f M iW;have h7:=ak.out;refine⟨_,un,un,m,rfl,by simpa using HG.o,by simpa using HU.o,by simp [HF.o],hm.keepsS (S:=[w.heap.size+1,w.heap.size+1+1]) bY ?_ ?_ ?_,?_,?_,?_⟩<;>
     ·intro g' o' e
      injection e with e;injection e with e _;subst e
      try simp only [Ac,Ab,or_false]
      omega
    ·refine(((HKW.o.trans HOT.o.kw).own HKF.o (fun y hy=>?_))).own (S:=[w.heap.size+1,w.heap.size+1+1]) bY (fun y hy=>?_)
     ·have:=B.o
      simp only [Ac,Ab,or_false] at hy;omega
     ·simp only [Ac,Ab,or_false] at hy
      omega
theorem X6(v:DF)(s:Fz)(gn un fn:Nat)(hg:s.gens.length=gn)(hu:s.used.length=un)(hf:s.free.length=fn)(w:World)(h:Dy w v s):
  Calls prog 130 #[pH (S_ v gn un fn)] w fun e w'=>∃x,e = pJ (.tuple #[x,pH #[pE pK (Bn s).2.1.1,I_ (Bn s).2.1.2],I_ (Bn s).2.2])/\Di w w' (Bn s).1 x/\Aa [] w w':=by
 cases hb:Dv s with
 | false=>exact X7 v s gn un fn hg hu hf hb w h
 | true=>
  cases hn:fn with
  | zero=>subst hn;exact SU v s gn un 0 hg hu hf hb (lH rfl) w h
  | succ m=>
   subst hn;by_cases ht:Bn s=(Ez,(0,0),92)
   ·exact Vt v s gn un (m+1) hg hu hf hb m (lH rfl) (lH ht) w h
   ·exact aP v s gn un (m+1) hg hu hf hb m (lH rfl) (lH ht) w h
theorem LO:∀(u:List Bool) (g:List Int) (i:Nat) (x y:Int),(x,y)∈usedL i u g->(i:Int)<=x/\x<((i+u.length:Nat):Int)
 | true::l,g::m,i,x,y,h=>by
  simp only [usedL,Ac,Prod.mk.injEq] at h;rcases h with h | h
  ·obtain⟨rfl,-⟩:=h
   simp only [Av];omega
  ·have:=LO l m (i+1) x y h
   simp only [Av];omega
 | false::l,_::m,i,x,y,h=>by
  simp only [usedL] at h;have:=LO l m (i+1) x y h;simp only [Av];omega
 | [],_,_,_,_,h=>by simp [usedL] at h
 | true::_,[],_,_,_,h=>by simp [usedL] at h
 | false::_,[],_,_,_,h=>by simp [usedL] at h
theorem Wi{s:Fz}(h:Dv s=true):s.free.length<=64:=by
 unfold Dv at h;simp only [Af,decide_eq_true_eq] at h;omega
theorem Y2{s:Fz}{x y:Int}(h:(Dt s).contains (x,y)=true):∃j:Nat,x=(j:Int)/\j<s.used.length:=by
 have h1:(x,y)∈Dt s:=bK;unfold Dt at h1;split at h1
 ·have:=LO _ _ _ _ _ h1
  exact MA bB bB
 ·simp at h1
theorem X0(v:DF)(s:Fz)(gn un fn:Nat)(hg:s.gens.length=gn)(hu:s.used.length=un)(hf:s.free.length=fn)(x y:Int)(hb:Dv s=false)(w:World)(h:Dy w v s):
  Calls prog 133 #[pH (S_ v gn un fn),pH #[pE pK x,I_ y]] w fun e w'=>∃r,e = pJ (.tuple #[r,I_ (CW s (x,y)).2])/\Di w w' (CW s (x,y)).1 r/\Aa [] w w':=by
 obtain⟨wz,hwz⟩:=eX (((w.alloc (.cells (S_ v gn un fn) 26)).alloc (.cells #[pE pK x,I_ y] 65)).alloc (.cells IY.k 26));have E:Aa [] w wz:=by rw [<- hwz];exact(((Aa.refl [] w).alloc _).alloc _).alloc _
 have D:Blk wz w 26 (S_ v gn un fn):=by rw [<- hwz];exact((Blk.new w _ _).alloc _).alloc _
 have G:Blk wz (w+1) 65 #[pE pK x,I_ y]:=by rw [<- hwz];exact(Ar _ _ _ _ bA).alloc _
 have J:Blk wz (w+1+1) 26 IY.k:=by rw [<- hwz];exact Ar _ _ _ _ bA
 have HR:=lH (fun W (hkk:Aa [] wz W)=>DR v s gn un fn hg hu hf false hb W (h.keeps (E.trans hkk)));have HV:=lH (fun b hb2 W (hkk:Aa [] wz W)=>L4 v s gn un fn hg hu hf x y b hb2 W (h.keeps (E.trans hkk)));have HO:=lH (fun W (hkk:Aa [] wz W)=>I0 v s gn un fn hg hu hf W (h.keeps (E.trans hkk)));have HB:=lH hb;have HG:=lH hg;have HU:=lH hu;have HF:=lH hf;have ab:=lH (Bl h.sg (Bl h.su h.sf));have HK0:=lH E;have HB0:=lH D;have O:=lH J;have HBH:=lH G;have T:=D.ce 0;have p1:=D.ce 1;have p2:=D.ce 2;clear h hg hu hf hb E D J G;go_enter func133,ntmps133;go_wp2_with fail;clear hwz T p1 p2;refine(HR.o wz (Aa.refl [] wz)).mono ?_;rintro e w1 ⟨rfl,hk1⟩;have HK1:=lH hk1;have T:=(HB0.o.keeps hk1 bA).ce 0;have p1:=(HB0.o.keeps hk1 bA).ce 1;have p2:=(HB0.o.keeps hk1 bA).ce 2;have r0:=(HBH.o.keeps hk1 bA).ce 0;have r1:=(HBH.o.keeps hk1 bA).ce 1;have B:=lH (O.o.keeps hk1 bA);have X:=lH (HBH.o.keeps hk1 bA);have U:=lH (HB0.o.keeps hk1 bA);have aa:Hi (w.heap.size+1+1<w1.heap.size):=lH B.o.lt;clear hk1;have HKW:=lH (HK0.o.trans HK1.o);have F:Hi (∀(er:Int) (W:World),Aa [] w1 W->CW s (x,y)=(Ez,er)->∀M,Aa [w.heap.size+1+1] W M->Di w M (CW s (x,y)).1 (.agg IY.k)/\Aa [] w M):=lH fun er W hW N M hk=>by
  rw [N];exact⟨Di.zero _ _,(HKW.o.trans hW).own hk bF⟩
 have N:CW s (x,y)=(Ez,90):=by unfold CW;rw [if_neg lT]
 have Y:=lH N;clear N T p1 p2 r0 r1;have c0:=B.o.ce 0;have c1:=B.o.ce 1;have c2:=B.o.ce 2;have f0:=B.o.frozen 0;have f1:=B.o.frozen 1;have f2:=B.o.frozen 2;go_wp2_with fail;exact bodyPost_ret (v:=.tuple #[.agg IY.k,I_ 90]) (by simp [results,results133,go_sem,c0,c1,c2]) rfl ⟨_,by rw [Y.o],F.o 90 w1 (Aa.refl _ _) Y.o _ bY⟩
theorem Vp(v:DF)(s:Fz)(gn un fn:Nat)(hg:s.gens.length=gn)(hu:s.used.length=un)(hf:s.free.length=fn)(x y:Int)(hb:Dv s=true)(hc:Hi ((Dt s).contains (x,y)=false))(w:World)(h:Dy w v s):
  Calls prog 133 #[pH (S_ v gn un fn),pH #[pE pK x,I_ y]] w fun e w'=>∃r,e = pJ (.tuple #[r,I_ (CW s (x,y)).2])/\Di w w' (CW s (x,y)).1 r/\Aa [] w w':=by
 obtain⟨wz,hwz⟩:=eX (((w.alloc (.cells (S_ v gn un fn) 26)).alloc (.cells #[pE pK x,I_ y] 65)).alloc (.cells IY.k 26));have E:Aa [] w wz:=by rw [<- hwz];exact(((Aa.refl [] w).alloc _).alloc _).alloc _
 have D:Blk wz w 26 (S_ v gn un fn):=by rw [<- hwz];exact((Blk.new w _ _).alloc _).alloc _
 have N:Blk wz (w+1) 65 #[pE pK x,I_ y]:=by rw [<- hwz];exact(Ar _ _ _ _ bA).alloc _
 have O:Blk wz (w+1+1) 26 IY.k:=by rw [<- hwz];exact Ar _ _ _ _ bA
 have HR:=lH (fun W (hkk:Aa [] wz W)=>DR v s gn un fn hg hu hf true hb W (h.keeps (E.trans hkk)));have HV:=lH (fun b hb2 W (hkk:Aa [] wz W)=>L4 v s gn un fn hg hu hf x y b hb2 W (h.keeps (E.trans hkk)));have HO:=lH (fun W (hkk:Aa [] wz W)=>I0 v s gn un fn hg hu hf W (h.keeps (E.trans hkk)));have HB:=lH hb;have HG:=lH hg;have HU:=lH hu;have HF:=lH hf;have af:=lH (Bl h.sg (Bl h.su h.sf));have HK0:=lH E;have HB0:=lH D;have X:=lH O;have HBH:=lH N;have Y:=D.ce 0;have p1:=D.ce 1;have p2:=D.ce 2;clear h hg hu hf hb E D O N;go_enter func133,ntmps133;go_wp2_with fail;clear hwz Y p1 p2;refine(HR.o wz (Aa.refl [] wz)).mono ?_;rintro e w1 ⟨rfl,hk1⟩;have HK1:=lH hk1;have Y:=(HB0.o.keeps hk1 bA).ce 0;have p1:=(HB0.o.keeps hk1 bA).ce 1;have p2:=(HB0.o.keeps hk1 bA).ce 2;have r0:=(HBH.o.keeps hk1 bA).ce 0;have r1:=(HBH.o.keeps hk1 bA).ce 1;have F:=lH (X.o.keeps hk1 bA);have J:=lH (HBH.o.keeps hk1 bA);have G:=lH (HB0.o.keeps hk1 bA);have ae:Hi (w.heap.size+1+1<w1.heap.size):=lH F.o.lt;clear hk1;have HKW:=lH (HK0.o.trans HK1.o);have M:Hi (∀(er:Int) (W:World),Aa [] w1 W->CW s (x,y)=(Ez,er)->∀T,Aa [w.heap.size+1+1] W T->Di w T (CW s (x,y)).1 (.agg IY.k)/\Aa [] w T):=lH fun er W hW U T hk=>by
  rw [U];exact⟨Di.zero _ _,(HKW.o.trans hW).own hk bF⟩
 have U:CW s (x,y)=(Ez,91):=by unfold CW;rw [if_pos HB.o,if_neg (by rw [hc.out];decide)]
 have HT:=lH U;clear U;go_wp2_with fail;refine(HV.o false (by have:=hc.out;simp only [List.contains_eq_mem] at this;exact this) w1 HK1.o).mono ?_;rintro e w2 ⟨rfl,hk2⟩;have HK2:=lH hk2;have B:=lH (F.o.keeps hk2 bA);have ab:=lH (J.o.keeps hk2 bA);have aa:=lH (G.o.keeps hk2 bA);clear hk2 Y p1 p2 r0 r1;have c0:=B.o.ce 0;have c1:=B.o.ce 1;have c2:=B.o.ce 2;have f0:=B.o.frozen 0;have f1:=B.o.frozen 1;have f2:=B.o.frozen 2;go_wp2_with fail;exact bodyPost_ret (v:=.tuple #[.agg IY.k,I_ 91]) (by simp [results,results133,go_sem,c0,c1,c2]) rfl ⟨_,by rw [HT.o],M.o 91 w2 HK2.o HT.o _ bY⟩
theorem aL(v:DF)(s:Fz)(gn un fn:Nat)(hg:s.gens.length=gn)(hu:s.used.length=un)(hf:s.free.length=fn)(x y:Int)(hb:Dv s=true)(hc:Hi ((Dt s).contains (x,y)=true))(w:World)(h:Dy w v s):
  Calls prog 133 #[pH (S_ v gn un fn),pH #[pE pK x,I_ y]] w fun e w'=>∃r,e = pJ (.tuple #[r,I_ (CW s (x,y)).2])/\Di w w' (CW s (x,y)).1 r/\Aa [] w w':=by
 obtain⟨wz,hwz⟩:=eX (((w.alloc (.cells (S_ v gn un fn) 26)).alloc (.cells #[pE pK x,I_ y] 65)).alloc (.cells IY.k 26));have X:Aa [] w wz:=by rw [<- hwz];exact(((Aa.refl [] w).alloc _).alloc _).alloc _
 have U:Blk wz w 26 (S_ v gn un fn):=by rw [<- hwz];exact((Blk.new w _ _).alloc _).alloc _
 have a6:Blk wz (w+1) 65 #[pE pK x,I_ y]:=by rw [<- hwz];exact(Ar _ _ _ _ bA).alloc _
 have a7:Blk wz (w+1+1) 26 IY.k:=by rw [<- hwz];exact Ar _ _ _ _ bA
 have HR:=lH (fun W (hkk:Aa [] wz W)=>DR v s gn un fn hg hu hf true hb W (h.keeps (X.trans hkk)));have HV:=lH (fun b hb2 W (hkk:Aa [] wz W)=>L4 v s gn un fn hg hu hf x y b hb2 W (h.keeps (X.trans hkk)));have HO:=lH (fun W (hkk:Aa [] wz W)=>I0 v s gn un fn hg hu hf W (h.keeps (X.trans hkk)));have HB:=lH hb;have HG:=lH hg;have HU:=lH hu;have HF:=lH hf;have al:=lH (Bl h.sg (Bl h.su h.sf));have HK0:=lH X;have HB0:=lH U;have bq:=lH a7;have HBH:=lH a6;have p0:=U.ce 0;have p1:=U.ce 1;have p2:=U.ce 2;clear h hg hu hf hb X U a7 a6;go_enter func133,ntmps133;go_wp2_with fail;clear hwz p0 p1 p2;refine(HR.o wz (Aa.refl [] wz)).mono ?_;rintro e w1 ⟨rfl,hk1⟩;have HK1:=lH hk1;have p0:=(HB0.o.keeps hk1 bA).ce 0;have p1:=(HB0.o.keeps hk1 bA).ce 1;have p2:=(HB0.o.keeps hk1 bA).ce 2;have r0:=(HBH.o.keeps hk1 bA).ce 0;have r1:=(HBH.o.keeps hk1 bA).ce 1;have af:=lH (bq.o.keeps hk1 bA);have aw:=lH (HBH.o.keeps hk1 bA);have au:=lH (HB0.o.keeps hk1 bA);have be:Hi (w.heap.size+1+1<w1.heap.size):=lH af.o.lt;clear hk1;have HKW:=lH (HK0.o.trans HK1.o);have b6:Hi (∀(er:Int) (W:World),Aa [] w1 W->CW s (x,y)=(Ez,er)->∀W',Aa [w.heap.size+1+1] W W'->Di w W' (CW s (x,y)).1 (.agg IY.k)/\Aa [] w W'):=lH fun er W hW ht W' hk=>by
  rw [ht];exact⟨Di.zero _ _,(HKW.o.trans hW).own hk bF⟩
 have bs:Hi (s.free.length+1<=1000):=lH (by have:=Wi HB.o;omega);have HT:Hi (CW s (x,y)=(⟨s.gens,s.used.set x.toNat false,s.free++[x]⟩,0)):=lH (by unfold CW;rw [if_pos HB.o,if_pos hc.out]);obtain⟨j,rfl,hj⟩:=Y2 hc.out;rw [HU.o] at hj;have HJ:=lH hj;have cm:(0:Int)<=(j:Int):=bB;have cn:(j:Int)<(un:Int):=bB;clear hj;go_wp2_with fail;refine(HV.o true (by have:=hc.out;simp only [List.contains_eq_mem] at this;exact this) w1 HK1.o).mono ?_;rintro e w2 ⟨rfl,hk2⟩;have HK2:=lH hk2;have ay:=lH (af.o.keeps hk2 bA);have ax:=lH (aw.o.keeps hk2 bA);have O:=lH (au.o.keeps hk2 bA);clear hk2 p0 p1 p2 r0 r1;have p0:=O.o.ce 0;have p1:=O.o.ce 1;have p2:=O.o.ce 2;go_wp2_with fail;clear p0 p1 p2;refine(HO.o w2 (HK1.o.trans HK2.o)).mono ?_;rintro e w3 ⟨tb,g,ua,uc,fa,fc,rfl,hO⟩;have HOT:=lH hO;have az:=lH (ay.o.keeps hO.kw bA);have T:=lH (ax.o.keeps hO.kw bA);have t0:=hO.blk.ce 0;have t1:=hO.blk.ce 1;have t2:=hO.blk.ce 2;have r0:=T.o.ce 0;have r1:=T.o.ce 1;clear hO;have ap:=AR.row KG (show w3.ownsRow w2 4 1 (pF ua s.used.length uc) s.used.length (s.used.flatMap JM) by rw [HU.o];exact HOT.o.u);obtain⟨D,uo,b0,rfl,b2,b3,ag⟩:=ap.at_k (k:=j) lO;have ak:Hi (D≠tb/\g≠tb/\D≠g):=lH ⟨CX HOT.o.u HOT.o.blk bE D rfl,Blk.ne_ HOT.o.gb HOT.o.blk bE,HOT.o.nu D rfl⟩;obtain⟨cu,an⟩:=DP HOT.o.u rfl;have q1:=ag 0 _ rfl;rw [AT,pR] at q1;have b1:=an.frozen (uo+j);have cf:=lH an;have bw:=lH ap;have B:Hi (w.heap.size+1+1<w2.heap.size/\w2.heap.size<=tb/\w2.heap.size<=D/\w2.heap.size<=g):=lH ⟨BS be.out HK2.o.size,HOT.o.te,AZ HOT.o.u D iW,HOT.o.ge⟩;clear ap b2 b3 ag an;go_upto_region 6 with fail
 go_cut [27] (fun _ wc=>Hi (Aa [D] w3 wc/\GX wc (some (A_ D uo)) uc (s.used.set j false)))
 case first=>
  go_region;go_wp2_with fail;go_meet;refine lH ⟨?_,?_⟩
  ·first | exact(((Aa.refl [D] w3).drew).setCell (.inl bA) _) | exact(((Aa.refl [D] w3)).setCell (.inl bA) _).drew
  ·have h9:=bw.o.set1 (f:=pI) (j:=j) (fun _=>rfl) lO false
   exact h9.keeps ((Aa.refl [] _).drew)
 case rest=>
  rename World=>wc
  have HC:=hcut;clear hcut t0 t1 t2 r0 r1 q1 b1;obtain⟨N,bg⟩:=HC.o;have ae:=HOT.o.blk.keeps N (by simpa using ak.o.1.symm);have bv:=lH bg;have HKC:=lH N;have cd:=lH ae;have a9:=T.o.keeps N (by have:=B.o;simp only [Ac,Ab,or_false];omega);have t2:=ae.ce 2;have r0:=a9.ce 0;have hfr:wc.drew.ownsRow w2 3 1 (pF fa s.free.length fc) s.free.length (s.free.flatMap Fb):=by
   rw [HF.o];exact Ah HOT.o.f N.drew (fun z hz=>by
    have:=FP HOT.o.f HOT.o.u bE z D hz rfl;simpa using this)
  obtain⟨M,c9,w9,E,G,hk9,bd⟩:=CO (enc:=Fb) prog (t:=23) underlying23 Nj bE Eu KH hfr (A8 HOT.o.kw.size N.drew.size) (j:Int) (by have:=al.o.2.2;omega) 23;have ai:tb∉(pF fa s.free.length fc).ownBlock.toList:=fun hm=>(CX HOT.o.f HOT.o.blk bE tb (by rw [HF.o] at hm;simpa using hm)) rfl;have ab:=ae.drew.keeps hk9 ai;have e2:=ab.ce 2;have f2:=ab.frozen 2;have Y:Blk (w9.setCell (A_ tb 2) (pF (some (A_ M 0)) (s.free.length+1) c9)) tb 210 #[pF (some (A_ g 0)) gn gn,pF (some (A_ D uo)) un uc,pF (some (A_ M 0)) (s.free.length+1) c9]:=by simpa using ab.set_ 2 (pF (some (A_ M 0)) (s.free.length+1) c9)
  have bp:=lH Y;have a1:=lH hk9;have HR9:=lH G;have aj:Hi (∀z,(pF fa s.free.length fc).ownBlock=some z->w2.heap.size<=z/\z≠D/\z≠g/\z≠tb):=lH fun z hz=>by
   rw [HF.o] at hz;exact⟨AZ HOT.o.f z (by simpa using hz),FP HOT.o.f HOT.o.u bE z D hz rfl,HOT.o.ne z hz,CX HOT.o.f HOT.o.blk bE z hz⟩
  rw [HF.o] at E Y;simp only [Fb] at E;obtain⟨n9,ao⟩:=eX (fn+1);rw [ao] at E Y;have bu:=lH ao;have a4:=lH E;have bt:Hi (M≠tb):=lH (by
   have h1:=G;rw [HF.o] at h1;exact CX h1 ab bE M rfl)
  have av:=lH Y;clear G hk9 ai ab N bg ae a9 ao Y hfr bd bp E;have d2:=Ct t2 (.cells #[pE pK (j:Int)] 3);go_upto_region 7 with fail
  go_cut [40] (fun _ wd=>Hi (wd=w9.setCell (A_ tb 2) (pF (some (A_ M 0)) n9 c9)))
  case first=>
   go_region_law (refine BG _ _ 23 bD bD bD bD a4.o ?_)
   all_goals
    go_wp2_with fail;go_meet;exact lH rfl
  case rest=>
   rename World=>wd
   have br:=hcut;clear hcut;have a5:=br;have ad:Aa [tb] w9 wd:=by rw [a5.o];exact Ae _ _ _ _
   have hB:Blk wd tb 210 #[pF (some (A_ g 0)) gn gn,pF (some (A_ D uo)) un uc,pF (some (A_ M 0)) n9 c9]:=by rw [a5.o];exact av.o
   have J:Aa ((pF fa s.free.length fc).ownBlock.toList++[tb,D]) w3 wd:=((HKC.o.mono bA).trans ((((Aa.refl (pF fa s.free.length fc).ownBlock.toList wc).drew).trans a1.o).mono (fun y hy=>List.mem_append_left _ hy))).trans (ad.mono bA);have aa:∀y∈(pF fa s.free.length fc).ownBlock.toList++[tb,D],w2.heap.size<=y:=fun y hy=>by
    rcases AQ.1 hy with hy | hy
    ·exact(aj.o y bU).1
    ·have:=B.o
     simp only [Ac,Ab,or_false] at hy;omega
   have ah:w.heap.size+1+1∉(pF fa s.free.length fc).ownBlock.toList++[tb,D]:=fun hm=>by have:=aa _ hm;have:=B.o;omega
   have F:=az.o.keeps J ah;have bb:=HOT.o.gb.keeps J (fun hm=>by
    rcases AQ.1 hm with hm | hm
    ·exact(aj.o g bT).2.2.1 rfl
    ·have:=ak.o
     simp only [Ac,Ab,or_false] at hm;rcases hm with hm | hm
     ·exact this.2.1 hm
     ·exact this.2.2 hm.symm)
   have bf:GX wd (some (A_ D uo)) uc (s.used.set j false):=((bv.o.keeps ((Aa.refl [] wc).drew)).keepsS a1.o (fun g' o' e hm=>by
    injection e with e;injection e with e _;subst e
    exact(aj.o _ bT).2.1 rfl)).keepsS ad (fun g' o' e=>by injection e with e;injection e with e _;subst e;simpa using ak.o.1)
   have ba:F1 wd (some (A_ M 0)) c9 (s.free++[(j:Int)]):=(AR.row Eu (show w9.ownsRow w2 3 1 (pF (some (A_ M 0)) (s.free++[(j:Int)]).length c9) (s.free++[(j:Int)]).length ((s.free++[(j:Int)]).flatMap Fb) by simpa using HR9.o)).keepsS ad (fun g' o' e=>by injection e with e;injection e with e _;subst e;simpa using bt.o);have hm:Dy wd ⟨some (A_ g 0),gn,some (A_ D uo),uc,some (A_ M 0),c9⟩ ⟨s.gens,s.used.set j false,s.free++[(j:Int)]⟩:=⟨AR.of_blk (f:=pE .i64) (fun _=>rfl) HG.o bb,bf,ba,al.o.1,by simpa using al.o.2.1,by have h1:=bs.o;simp only [Al,Bp];omega⟩;have t0:=hB.ce 0;have t1:=hB.ce 1;have t2:=hB.ce 2;have c0:=F.ce 0;have c1:=F.ce 1;have c2:=F.ce 2;have f0:=F.frozen 0;have f1:=F.frozen 1;have f2:=F.frozen 2;have HM:=lH hm;have a2:=lH J;have a3:=lH aa;have a0:Hi (w2.heap.size<=M):=lH (AZ HR9.o M iW);have x1:¬tb=w.heap.size+1+1:=by have:=B.o;omega
   have x2:¬w.heap.size+1+1=tb:=by have:=B.o;omega
   clear ad hB J aa ah F bb bf ba hm;go_wp2_with fail;refine bodyPost_ret (v:=.tuple #[pH #[pF (some (A_ g 0)) gn gn,pF (some (A_ D uo)) un uc,pF (some (A_ M 0)) n9 c9],I_ 0]) (by simp [results,results133,go_sem,c0,c1,c2]) rfl ⟨_,by rw [HT.o],?_,?_⟩
   ·rw [HT.o]
    have h5:=B.o;have h7:=a0.o;refine⟨_,gn,un,n9,rfl,HG.o,by simpa using HU.o,by simp [HF.o,bu.o],HM.o.keepsS (S:=[w.heap.size+1+1]) bY ?_ ?_ ?_,?_,?_,?_⟩<;>
    ·intro g' o' e
     injection e with e;injection e with e _;subst e
     try simp only [Ac,Ab,or_false]
     omega
   ·refine(((HKW.o.trans HK2.o).trans HOT.o.kw).own a2.o (fun y hy=>?_)).own (S:=[w.heap.size+1+1]) bY (fun y hy=>?_)
    ·have:=B.o
     have:=a3.o y hy;omega
    ·simp only [Ac,Ab,or_false] at hy
     omega
theorem Xz(v:DF)(s:Fz)(gn un fn:Nat)(hg:s.gens.length=gn)(hu:s.used.length=un)(hf:s.free.length=fn)(x y:Int)(w:World)(h:Dy w v s):
  Calls prog 133 #[pH (S_ v gn un fn),pH #[pE pK x,I_ y]] w fun e w'=>∃r,e = pJ (.tuple #[r,I_ (CW s (x,y)).2])/\Di w w' (CW s (x,y)).1 r/\Aa [] w w':=by
 cases hb:Dv s with
 | false=>exact X0 v s gn un fn hg hu hf x y hb w h
 | true=>
  cases hc:(Dt s).contains (x,y) with
  | false=>exact Vp v s gn un fn hg hu hf x y hb (lH hc) w h
  | true=>exact aL v s gn un fn hg hu hf x y hb (lH hc) w h
def JJ(seq:Int)(met:List ByteArray)(h:Int×Int)(t:Ten):Bool:=decide ((t.slot,t.gen)=h)&&(!met.contains t.name&&Gq seq t)
theorem NZ(seq:Int):∀(A:List (Int×Int)) (X:List Ten) (B:List (Int×Int)) (Y:List Ten) (met:List ByteArray),A.length=X.length->De seq met (A++B) (X++Y)=(De seq met A X&&De seq (met++X.map (·.name)) B Y)
 | [],[],B,Y,met,_=>by simp [De]
 | a::A,x::X,B,Y,met,h=>by
  simp only [AL,De,CR];rw [NZ seq A X B Y _ bK,CC];simp only [EJ];rfl
 | [],_::_,_,_,_,h=>by simp at h
 | _::_,[],_,_,_,h=>by simp at h
theorem P8{seq:Int}{A:List (Int×Int)}{X:List Ten}{k:Nat}{h:Int×Int}{t:Ten}(h1:A[k]? = some h)(h2:X[k]? = some t):De seq [] (A.take (k+1)) (X.take (k+1))=(De seq [] (A.take k) (X.take k)&&JJ seq ((X.take k).map (·.name)) h t):=by
 have B:k<A.length:=(Ad.1 h1).1;have D:k<X.length:=(Ad.1 h2).1;rw [A0 h1,A0 h2,NZ _ _ _ _ _ _ nH];simp [De,JJ,EJ]
theorem ZM{seq:Int}{A:List (Int×Int)}{X:List Ten}{k:Nat}{h:Int×Int}{t:Ten}(h1:A[k]? = some h)(h2:X[k]? = some t)(hb:JJ seq ((X.take k).map (·.name)) h t=false):De seq [] A X=false:=by
 have B:k<A.length:=(Ad.1 h1).1;have D:k<X.length:=(Ad.1 h2).1;have h3:=P8 (seq:=seq) h1 h2;rw [hb,Bool.and_false] at h3;have:=NZ seq (A.take (k+1)) (X.take (k+1)) (A.drop (k+1)) (X.drop (k+1)) [] nH;rw [Dn,Dn,h3,Ep] at this;exact this
theorem Lj{seq:Int}: ∀ {A:List (Int×Int)} {X:List Ten} {met:List ByteArray},De seq met A X=true->A.length=X.length
 | [],[],_,_=>rfl
 | a::A,x::X,met,h=>by
  simp only [De,Af] at h;have:=Lj h.2;simp [this]
 | [],_::_,_,h=>by simp [De] at h
 | _::_,[],_,h=>by simp [De] at h
theorem AX.get?{w:World}{V:List TV}{L:List Ten}(h:AX w V L){k:Nat}{u:TV}(hu:V[k]? = some u):∃t,L[k]? = some t/\Cj w u t:=by
 obtain⟨h1,rfl⟩:=Ad.1 hu;have h2:k<L.length:=by rw [<- h.len];exact h1
 exact⟨L[k],Aq h2,h.get k h1 h2⟩
theorem gQ(a b x y:Int)(w:World):(binOp .neq 65 (pH #[pE pK a,I_ x]) (pH #[pE pK b,I_ y])).run prog w = .ok (pI (!decide ((a,x)=(b,y)))) w:=by
 have hS:prog.underlying 65=some (.struct (prog.fieldsOf 65)):=bC;have hp:prog.stoodInHeld 65=false:=bC;rw [run_neq_struct,show(10000:Nat)=9999+1 from rfl,run_equalIn_agg w 9999 65 _ _ hS hp];simp only [CK,underlying65];go_simp;by_cases h1:a=b<;>by_cases h2:x=y<;>simp [h1,h2]
theorem I3{α:Type}{B:Nat}{I Ix:List α->World->Prop}{xs:List α}{W2 WX WF:World}{S:List Nat}{a:Act}(hk:Aa [] W2 WX)(hk2:Aa S WX WF)(hB:B+1<W2.heap.size)(h1:B∉S)(h2:B+1∉S)(hx:Ix xs WF):Jw B I Ix xs W2 .ret a WF:=
 ⟨A8 hk.size hk2.size,fun y hy=>by
  have:=hk.size;simp only [Ac,Ab,or_false] at hy;rcases hy with rfl | rfl
  ·exact(hk2.block _ bB h1).trans (hk.block _ bB bA)
  ·exact(hk2.block _ bB h2).trans (hk.block _ bB bA),hx⟩
theorem FJ{α:Type}{B:Nat}{I Ix:List α->World->Prop}{xs:List α}{W2 WX WF:World}{S:List Nat}{a:Act}(hk:Aa [] W2 WX)(hk2:Aa S WX WF)(hB:B+1<W2.heap.size)(h1:B∉S)(h2:B+1∉S)(hx:I xs WF):Jw B I Ix xs W2 .normal a WF:=
 ⟨A8 hk.size hk2.size,fun y hy=>by
  have:=hk.size;simp only [Ac,Ab,or_false] at hy;rcases hy with rfl | rfl
  ·exact(hk2.block _ bB h1).trans (hk.block _ bB bA)
  ·exact(hk2.block _ bB h2).trans (hk.block _ bB bA),hx⟩
structure jG(w2:World)(v:B6)(gn un fn ln:Nat)(seq:Int)(met:List ByteArray)(A:World):Prop where
 mp:DV Dz A w2.heap.size met
 mx:Blk A (w2.heap.size+1) 151 #[.map (some w2.heap.size)]
 pb:Blk A (w2.heap.size+1+1) 29 (R_ v gn un fn ln seq)
 kw:Aa [] w2 A
theorem jG.keeps{w2:World}{v:B6}{gn un fn ln:Nat}{seq:Int}{met:List ByteArray}{A A':World}{S:List Nat}(h:jG w2 v gn un fn ln seq met A)(hk:Aa S A A')(hS:∀y∈S,w2.heap.size+2<y):jG w2 v gn un fn ln seq met A':=
 have hn:∀y,y<=w2.heap.size+2->y∉S:=fun y hy hm=>by have:=hS y hm;omega
 ⟨h.mp.keeps hk (hn _ bB),h.mx.keeps hk (hn _ bB),h.pb.keeps hk (hn _ bB),h.kw.own hk bM⟩
theorem Kd(v:B6)(r:CJ)(gn un fn ln:Nat)(hg:r.slots.gens.length=gn)(hu:r.slots.used.length=un)(hf:r.slots.free.length=fn)(hln:v.lv.length=ln)(seq:Int)(hsq:r.seq=seq)(b:Bool)(hb:I1 r=b)(w:World)(h:CH w v r):
  Calls prog 30 #[pH (R_ v gn un fn ln seq)] w fun x w'=>x = pJ (pI b)/\Aa [] w w':=by
 subst hsq;obtain⟨seq,aa⟩:=eX (r.seq);have ar:=fun W=>FU v r gn un fn ln W;rw [aa] at ar ⊢;obtain⟨wz,hwz⟩:=eX ((w.alloc (.cells (R_ v gn un fn ln seq) 29)).alloc (.cells #[pI false] 4));have HZ:Hi (Aa [] w wz):=lH lY;have HB0:Hi (Blk wz w 29 (R_ v gn un fn ln seq)):=lH kI;have HB1:Hi (Blk wz (w+1) 4 #[pI false]):=lH aF;obtain⟨b1,hb1⟩:=eX (Dv r.slots);have aw:=lH (fun W (hk:Aa [] w W)=>U0 v.s r.slots gn un fn hg hu hf W (h.s.keeps hk));have bg:=lH (fun W (hk:Aa [] w W)=>DR v.s r.slots gn un fn hg hu hf b1 hb1 W (h.s.keeps hk));have HM:=lH h;have HLN:=lH hln;have bh:=lH ar;have HB:=lH hb;have an:=lH hb1;have HSQ:=lH aa;have af:ln<=1000:=by rw [<- hln,h.t.len];exact h.sl
 obtain⟨hs,ap⟩:=eX (Dt r.slots);rw [ap] at aw;have al:=lH ap;clear h hg hu hf hln ar hb hb1 aa ap;refine(callsIn_wide (n:=9)).1 ?_;refine callsIn_of_wp_marks func30 rfl trivial ?_ rfl;simp only [ntmps30,Cz,Av,D4,pL,pM,Bt,Bu,Cd,BD,BH,AL];have p0:=HB0.o.ce 0;have p1:=HB0.o.ce 1;have p2:=HB0.o.ce 2;gi_wp2_with (fail);clear hwz p0 p1 p2;refine⟨trivial,(callsIn_wide.2 (aw.o wz HZ.o)).mono ?_⟩;rintro e w1 ⟨a,c,rfl,a5,hk1⟩;obtain⟨wa,ah⟩:=eX (w1.alloc (.cells #[pF a hs.length c] 88));have ae:Aa [] wz wa:=by rw [<- ah];exact hk1.alloc _
 have ab:=lH (HB0.o.keeps ae bA);have bb:=lH (HB1.o.keeps ae bA);have bd:Hi (Blk wa w1 88 #[pF a hs.length c]):=lH (by rw [<- ah];exact Blk.new w1 _ _);have bf:Hi (AR Rt 2 wa a c hs):=lH (a5.keeps (by rw [<- ah];exact(Aa.refl [] w1).alloc _));have ax:=lH (HZ.o.trans ae);have p0:=ab.o.ce 0;have p1:=ab.o.ce 1;have p2:=ab.o.ce 2;clear a5 hk1 ae;gi_wp2_with (fail);clear ah p0 p1 p2;refine⟨trivial,(callsIn_wide.2 (bg.o wa ax.o)).mono ?_⟩;rintro e w2 ⟨rfl,hk2⟩;have M:=lH (ab.o.keeps hk2 bA);have N:=lH (bb.o.keeps hk2 bA);have HR3:=lH (bd.o.keeps hk2 bA);have az:=lH (bf.o.keeps hk2);have HK2:=lH (ax.o.trans hk2);clear hk2;have c0:=N.o.ce 0;have f0:=N.o.frozen 0;have r0:=M.o.ce 0;have r1:=M.o.ce 1;have r2:=M.o.ce 2;have r3:=M.o.ce 3;have r4:=M.o.ce 4;have s0:=HR3.o.ce 0;have ac:Hi (b=false->∀K:Prop,True):=lH (fun _ _=>trivial);have a3:Aa [w.heap.size+1] w2 (w2.setCell (A1 w 0) (pI false)):=Ae _ _ _ _;have HKF:Hi (Aa [] w (w2.setCell (A1 w 0) (pI false))):=lH (HK2.o.own a3 bF);clear a3 ac;have X:b1=true/\0<=seq/\seq<=1000000000000/\hs.length=ln\/b=false:=by
  by_cases hx:b1=true/\0<=seq/\seq<=1000000000000/\hs.length=ln
  ·exact .inl hx
  ·refine .inr ?_
   cases hbb:b with
   | false=>rfl
   | true=>
    exfalso;have h1:=HB.o;rw [hbb] at h1;unfold I1 at h1;rw [an.o,HSQ.o,al.o] at h1;simp only [Af,decide_eq_true_eq] at h1;exact hx ⟨h1.1.1.1,h1.1.1.2,h1.1.2,by rw [Lj h1.2,<- HM.o.t.len,HLN.o]⟩
 have ad:=lH X;clear X;cases b1 with
 | false=>
  obtain rfl:b=false:=ad.o.resolve_left bA;gi_wp2_with (fail);exact⟨pI false,by simp [results,results30,go_sem,c0],rfl,HKF.o⟩
 | true=>
  by_cases h1:seq<0
  ·obtain rfl:b=false:=ad.o.resolve_left bB
   gi_wp2_with (fail);exact⟨pI false,by simp [results,results30,go_sem,c0],rfl,HKF.o⟩
  ·by_cases h2:1000000000000<seq
   ·obtain rfl:b=false:=ad.o.resolve_left bB
    gi_wp2_with (fail);exact⟨pI false,by simp [results,results30,go_sem,c0],rfl,HKF.o⟩
   ·by_cases h3:hs.length=ln
    rotate_left
    ·obtain rfl:b=false:=ad.o.resolve_left bB
     have f3:((hs.length:Int) != (ln:Int))=true:=by simp;omega
     gi_wp2_with (fail);exact⟨pI false,by simp [results,results30,go_sem,c0],rfl,HKF.o⟩
    ·have f3:((hs.length:Int) != (ln:Int))=false:=by simp;omega
     have ck:=fun W=>run_makeMap (P:=prog) 151 W;have am:=lH h3;clear h3;have a4:Aa [] w2 ((w2.alloc (.map #[] 0)).alloc (.cells #[.map (some w2)] 151)):=((Aa.refl [] w2).alloc _).alloc _;have O:=M.o.keeps a4 bA;have t0:=O.ce 0;have t1:=O.ce 1;have t2:=O.ce 2;have t3:=O.ce 3;have t4:=O.ce 4;clear O a4;gi_wp2_with (fail);refine⟨trivial,(callsIn_wide.2 (bh.o _)).mono ?_⟩;rintro e w3 ⟨rfl,ag⟩;clear t0 t1 t2 t3 t4 r0 r1 r2 r3 r4 s0;gi_wp2_with (fail);have hsz:w3.heap.size=w2.heap.size+3:=by rw [<- ag];simp
     have a2:jG w2 v gn un fn ln seq [] w3:=by
      have hk:Aa [] w2 w3:=by rw [<- ag];exact(((Aa.refl [] w2).alloc _).alloc _).alloc _
      refine⟨?_,?_,?_,hk⟩<;>rw [<- ag]
      ·exact((DV.new w2).keeps ((Aa.refl [] _).alloc _) bA).keeps ((Aa.refl [] _).alloc _) bA
      ·exact(Ar _ _ _ _ bA).alloc _
      ·exact Ar _ _ _ _ bA
     have be:=lH a2;clear a2 ag;have b7:w.heap.size+1<w2.heap.size:=N.o.lt;have b5:prog.eqGuardType prog.depth 65=false:=by kernel_rfl
     refine Cc rfl bB (gf:=72) (lb:=#[pG (some (A2 w2 0))]) rfl trivial (enters_of func72 bC rfl) (FV 8 (w2+1+1) v.la v.lc ln v.lv HLN.o af seq) (fun _=>rfl)
      (fun G A=>De seq [] (hs.take G.length) (r.l.take G.length)=true/\jG w2 v gn un fn ln seq ((r.l.take G.length).map (·.name)) A) (fun _ A=>De seq [] hs r.l=false/\Blk A (w+1) 4 #[pI false]/\Aa [] w A)
      (fun G A A' h hk=>⟨h.1,h.2.keeps hk bF⟩)
      (fun G A A' h hk=>⟨h.1,h.2.1.keeps hk (by have:=N.o.lt;simp only [Ac,Ab,or_false];omega),h.2.2.own hk mS⟩)
      (fun G A h=>⟨h.2.pb.cell 3,h.2.pb.cell 4,HM.o.l.keeps (HK2.o.trans h.2.kw)⟩) ⟨rfl,be.o⟩
      (fun k W=>(fun u:TV=>(({ tmps:=#[pH (R_ v gn un fn ln seq),pG (some (A_ w 0)),pG (some (A1 w 0)),pG (some (A_ w1 0)),pG (some (A1 w2 0)),pE pK (k:Int),pG (some (A_ W 0)),pG (some (A_ w 0)),pH (S_ v.s gn un fn),pF a hs.length c,pG (some (A_ w 0)),pH (S_ v.s gn un fn),pI true,pI false,pI false,pG (some (A_ w 4)),pE pK seq,pI (decide (seq<0)),pI (decide (seq<0)),pI (decide (seq<0)),pG (some (A_ w 4)),pE pK seq,pI (decide (1000000000000<seq)),pI (decide (seq<0)||decide (1000000000000<seq)),pI (decide (seq<0)||decide (1000000000000<seq)),pF a hs.length c,pE pK (hs.length:Int),pG (some (A_ w 3)),pF v.la ln v.lc,pE pK (ln:Int),pI false,pI (decide (seq<0)||decide (1000000000000<seq)),.map (some w2),pH (R_ v gn un fn ln seq),.func (.func 72) #[] #[pG (some (A2 w2 0))],pE pK (k:Int),pH (U_ u seq),UD,UD,UD,UD,UD,UD,UD,UD,UD,UD,UD,UD,UD,UD,UD,UD,UD,UD,UD,UD,UD,UD,UD,UD,UD],defers:=[] } : Act),W.alloc (.cells (U_ u seq) 114))) (v.lv.getD k tv0))
      (fun k W=>(Aa.refl [] W).alloc _) ?assign ?body ?done ?stop
     case assign=>
      intro l k W K hK;simp only [Mg];dsimp only at hK;generalize v.lv.getD k tv0=u at hK ⊢;gi_wp2;exact hK
     case body=>
      rintro l G k W W2 ⟨hN,hI⟩ Y ak hk2;obtain⟨rfl,hkn⟩:=E8 Y;obtain⟨u,hu⟩:∃u,v.lv[k]? = some u:=⟨_,Aq iV⟩;have hgd:v.lv.getD k tv0=u:=by rw [AO,hu];rfl
      dsimp only at hk2 ⊢;rw [hgd] at hk2 ⊢;rw [AP] at hN hI;obtain⟨t,ht,T⟩:=HM.o.t.get? hu;obtain⟨g1,o1,⟨hx,hy⟩,rfl,hg1,hx1,hat1⟩:=az.o.at_k (k:=k) (by rw [am.o];exact hkn);have b6:W.heap.size<=W2.heap.size:=by have:=hk2.size;rw [Eo] at this;omega
      have F:=(hI.keeps ((Aa.refl [] W).alloc (.cells (U_ u seq) 114)) bA).keeps hk2 bF;have hb:=(Blk.new W 114 (U_ u seq)).keeps hk2 bI;have d0:=hb.ce 0;have d1:=hb.ce 1;have d2:=hb.ce 2;have d3:=hb.ce 3;have d4:=hb.ce 4;have d5:=hb.ce 5;have d6:=hb.ce 6;have d7:=hb.ce 7;have d8:=hb.ce 8;have s0:=(HR3.o.keeps F.kw bA).ce 0;have m0:=F.mx.ce 0;have B:=N.o.keeps F.kw bA;have q0:=B.ce 0;have qf:=B.frozen 0;have z0:=(F.kw.cell (p:=A_ g1 (o1+k*2+0)) hg1 bA).trans (hat1 0 _ rfl);have z1:=(F.kw.cell (p:=A_ g1 (o1+k*2+1)) hg1 bA).trans (hat1 1 _ rfl);rw [AT] at z0;have i1:(0:Int)<=(k:Int):=by omega
      have i2:(k:Int)<(hs.length:Int):=by rw [am.o];omega
      have hlk:=Un F.mp u.name;obtain⟨y1,au⟩:=eX (decide ((u.slot,u.gen)=(hx,hy)));obtain⟨y2,ai⟩:=eX (decide (u.name∈(r.l.take k).map (·.name)));obtain⟨y3,av⟩:=eX (Gq seq t);have hne:=fun W=>gQ u.slot hx u.gen hy W;rw [au] at hne;rw [ai] at hlk;have HST:Hi (JJ seq ((r.l.take k).map (·.name)) (hx,hy) t=(y1&&(!y2&&y3))):=lH (by
       unfold JJ;rw [<- T.slot,<- T.gen,au,<- T.name,List.contains_eq_mem,ai,av])
      have a0:=lH (fun W3 (hk:Aa [] w W3) fb ty hf=>Uu u t seq (HM.o.small t (CD ht)) fb ty y3 av W3 (T.keeps hk) hf);have E:=lH F;have HN:=lH hN;have HX1:=lH hx1;have ao:=lH ht;have HY2:=lH ai;have HNM:=lH T.name;have J:=B;clear hI Y hk2 F hb hgd hu hN hat1 hx1 ht T B hg1 au ai av;have HSS:Hi (∀w':World,Aa [] W2 w'->(Aa [] W2 w'/\w'.cell? (A_ W 0)=some (pE pK u.slot)/\w'.cell? (A_ W 1)=some (pE pK u.gen)/\w'.cell? (A_ W 2)=some (Dz u.name)/\w'.cell? (A_ W 3)=some (pE pK u.state)/\w'.cell? (A_ W 4)=some (pE pK u.version)/\w'.cell? (A_ W 5)=some (pF u.ra u.rl u.rc)/\w'.cell? (A_ W 6)=some (pF u.ca u.cl u.cc)/\w'.cell? (A_ W 7)=some (pE pK u.deadline)/\w'.cell? (A_ W 8)=some (pE pK seq)/\w'.cell? (A_ w1 0)=some (pF (some (A_ g1 o1)) hs.length c)/\w'.cell? (A1 w2 0)=some (.map (some w2))/\w'.cell? (A_ g1 (o1+k*2))=some (pE pK hx)/\w'.cell? (A_ g1 (o1+k*2+1))=some (pE pK hy)/\(Ed 151 (.map (some w2)) (Dz u.name) false).run prog w' = .ok (pI y2) w'/\w'.cell? (A1 w 0)=some (pI false)/\w'.frozen? (A1 w 0)=false)):=lH fun w' hk=>⟨hk,(hk.cellsV _ _ d0),(hk.cellsV _ _ d1),(hk.cellsV _ _ d2),(hk.cellsV _ _ d3),(hk.cellsV _ _ d4),(hk.cellsV _ _ d5),(hk.cellsV _ _ d6),(hk.cellsV _ _ d7),(hk.cellsV _ _ d8),(hk.cellsV _ _ s0),(hk.cellsV _ _ m0),(hk.cellsV _ _ z0),(hk.cellsV _ _ z1),by rw [<- HY2.o];exact Un (E.o.mp.keeps hk bA) u.name,hk.cellsV _ _ q0,(J.keeps hk bA).frozen 0⟩;have D:=lH J;have U:Hi (JJ seq ((r.l.take k).map (·.name)) (hx,hy) t=false->De seq [] hs r.l=false):=lH (fun h=>ZM HX1.o ao.o h);have cj:w3.heap.size+1<W2.heap.size:=by omega
      clear d0 d1 d2 d3 d4 d5 d6 d7 d8 s0 m0 z0 z1 hlk q0 qf J;cases y1 with
      | false=>
       simp only [Bool.not_false] at hne;have HBD:Hi (De seq [] hs r.l=false):=lH (U.o kB);gi_wp2;refine BA (S:=(fun w':World=>Aa [] W2 w'/\w'.cell? (A_ W 0)=some (pE pK u.slot)/\w'.cell? (A_ W 1)=some (pE pK u.gen)/\w'.cell? (A_ W 2)=some (Dz u.name)/\w'.cell? (A_ W 3)=some (pE pK u.state)/\w'.cell? (A_ W 4)=some (pE pK u.version)/\w'.cell? (A_ W 5)=some (pF u.ra u.rl u.rc)/\w'.cell? (A_ W 6)=some (pF u.ca u.cl u.cc)/\w'.cell? (A_ W 7)=some (pE pK u.deadline)/\w'.cell? (A_ W 8)=some (pE pK seq)/\w'.cell? (A_ w1 0)=some (pF (some (A_ g1 o1)) hs.length c)/\w'.cell? (A1 w2 0)=some (.map (some w2))/\w'.cell? (A_ g1 (o1+k*2))=some (pE pK hx)/\w'.cell? (A_ g1 (o1+k*2+1))=some (pE pK hy)/\(Ed 151 (.map (some w2)) (Dz u.name) false).run prog w' = .ok (pI y2) w'/\w'.cell? (A1 w 0)=some (pI false)/\w'.frozen? (A1 w 0)=false)) bC bC (fun _ _ h=>h) bQ (fun hHeld=>?_);refine rQ 0 ?_;refine rQ 1 ?_;refine rQ 2 ?_;refine rQ 3 ?_;refine rQ 4 ?_;refine rQ 5 ?_;refine rQ 6 ?_;refine rQ 7 ?_;refine rQ 8 ?_;refine rN 9 ?_;refine rN 10 ?_;refine rN 11 ?_;refine rN 12 ?_;refine rN 13 ?_;refine rQ 14 ?_;refine rQ 15 ?_;refine rN 16 ?_;refine rN 17 ?_;refine rN 18 ?_;refine rN 19 ?_;refine rQ 20 ?_;refine wpAnyH_done bC ?_ _
       (gi_wp2;exact I3 (S:=[w.heap.size+1]) hHeld.1 (Ae _ (w+1) 0 (pI false)) bB bI bI ⟨HBD.o,(D.o.keeps hHeld.1 bA).set_ 0 (pI false),((HK2.o.trans E.o.kw).trans hHeld.1).own (Ae _ (w+1) 0 (pI false)) bF⟩)
      | true=>
       simp only [Bool.not_true] at hne;cases y2 with
       | true=>
        have HBD:Hi (De seq [] hs r.l=false):=lH (U.o kB);gi_wp2;refine BA (S:=(fun w':World=>Aa [] W2 w'/\w'.cell? (A_ W 0)=some (pE pK u.slot)/\w'.cell? (A_ W 1)=some (pE pK u.gen)/\w'.cell? (A_ W 2)=some (Dz u.name)/\w'.cell? (A_ W 3)=some (pE pK u.state)/\w'.cell? (A_ W 4)=some (pE pK u.version)/\w'.cell? (A_ W 5)=some (pF u.ra u.rl u.rc)/\w'.cell? (A_ W 6)=some (pF u.ca u.cl u.cc)/\w'.cell? (A_ W 7)=some (pE pK u.deadline)/\w'.cell? (A_ W 8)=some (pE pK seq)/\w'.cell? (A_ w1 0)=some (pF (some (A_ g1 o1)) hs.length c)/\w'.cell? (A1 w2 0)=some (.map (some w2))/\w'.cell? (A_ g1 (o1+k*2))=some (pE pK hx)/\w'.cell? (A_ g1 (o1+k*2+1))=some (pE pK hy)/\(Ed 151 (.map (some w2)) (Dz u.name) false).run prog w' = .ok (pI true) w'/\w'.cell? (A1 w 0)=some (pI false)/\w'.frozen? (A1 w 0)=false)) bC bC (fun _ _ h=>h) bQ (fun hHeld=>?_);refine rQ 0 ?_;refine rQ 1 ?_;refine rQ 2 ?_;refine rQ 3 ?_;refine rQ 4 ?_;refine rQ 5 ?_;refine rQ 6 ?_;refine rQ 7 ?_;refine rQ 8 ?_;refine rQ 9 ?_;refine rQ 10 ?_;refine rQ 11 ?_;refine rQ 12 ?_;refine rC 13 fun K hK=>?_;go_simp;refine rO hK bQ fun hHeld=>?_;clear hK K;refine rQ 14 ?_;refine rQ 15 ?_;refine rN 16 ?_;refine rN 17 ?_;refine rN 18 ?_;refine rN 19 ?_;refine rQ 20 ?_;refine wpAnyH_done bC ?_ _
        (gi_wp2;exact I3 (S:=[w.heap.size+1]) hHeld.1 (Ae _ (w+1) 0 (pI false)) bB bI bI ⟨HBD.o,(D.o.keeps hHeld.1 bA).set_ 0 (pI false),((HK2.o.trans E.o.kw).trans hHeld.1).own (Ae _ (w+1) 0 (pI false)) bF⟩)
       | false=>
        cases y3 with
        | false=>
         have HBD:Hi (De seq [] hs r.l=false):=lH (U.o kB);gi_wp2;refine BA (S:=(fun w':World=>Aa [] W2 w'/\w'.cell? (A_ W 0)=some (pE pK u.slot)/\w'.cell? (A_ W 1)=some (pE pK u.gen)/\w'.cell? (A_ W 2)=some (Dz u.name)/\w'.cell? (A_ W 3)=some (pE pK u.state)/\w'.cell? (A_ W 4)=some (pE pK u.version)/\w'.cell? (A_ W 5)=some (pF u.ra u.rl u.rc)/\w'.cell? (A_ W 6)=some (pF u.ca u.cl u.cc)/\w'.cell? (A_ W 7)=some (pE pK u.deadline)/\w'.cell? (A_ W 8)=some (pE pK seq)/\w'.cell? (A_ w1 0)=some (pF (some (A_ g1 o1)) hs.length c)/\w'.cell? (A1 w2 0)=some (.map (some w2))/\w'.cell? (A_ g1 (o1+k*2))=some (pE pK hx)/\w'.cell? (A_ g1 (o1+k*2+1))=some (pE pK hy)/\(Ed 151 (.map (some w2)) (Dz u.name) false).run prog w' = .ok (pI false) w'/\w'.cell? (A1 w 0)=some (pI false)/\w'.frozen? (A1 w 0)=false)) bC bC (fun _ _ h=>h) bQ (fun hHeld=>?_);refine rQ 0 ?_;refine rQ 1 ?_;refine rQ 2 ?_;refine rQ 3 ?_;refine rQ 4 ?_;refine rQ 5 ?_;refine rQ 6 ?_;refine rQ 7 ?_;refine rQ 8 ?_;refine rQ 9 ?_;refine rQ 10 ?_;refine rQ 11 ?_;refine rQ 12 ?_;refine rC 13 fun K hK=>?_;go_simp;refine rO hK bQ fun hHeld=>?_;clear hK K;refine rQ 14 ?_;refine rQ 15 ?_;refine rQ 16 ?_;refine rC 17 fun K hK=>?_;go_simp;refine rO hK bQ fun hHeld=>?_;clear hK K;refine rC 18 fun K hK=>?_;go_simp
         (refine(a0.o _ ((HK2.o.trans E.o.kw).trans hHeld.1) _ 159 (by first | exact Blk.new _ _ _ | exact(Blk.new _ _ _).drew)).mono ?_;rintro e5 w5 ⟨rfl,hk5⟩)
         refine rO hK bQ fun hHeld=>?_;clear hK K;refine rQ 19 ?_;refine rQ 20 ?_;refine wpAnyH_done bC ?_ _
         (gi_wp2;exact I3 (S:=[w.heap.size+1]) hHeld.1 (Ae _ (w+1) 0 (pI false)) bB bI bI ⟨HBD.o,(D.o.keeps hHeld.1 bA).set_ 0 (pI false),((HK2.o.trans E.o.kw).trans hHeld.1).own (Ae _ (w+1) 0 (pI false)) bF⟩)
        | true=>
         have a1:Hi (De seq [] (hs.take (AC k++[k]).length) (r.l.take (AC k++[k]).length)=true):=lH (by rw [Al,AP,Bp,P8 HX1.o ao.o,HN.o,HST.o];rfl);have ay:Hi ((r.l.take (AC k++[k]).length).map (·.name)=(r.l.take k).map (·.name)++[u.name]):=lH (by rw [Al,AP,Bp,A0 ao.o,pO,HNM.o];rfl);gi_wp2;refine BA (S:=(fun w':World=>Aa [] W2 w'/\w'.cell? (A_ W 0)=some (pE pK u.slot)/\w'.cell? (A_ W 1)=some (pE pK u.gen)/\w'.cell? (A_ W 2)=some (Dz u.name)/\w'.cell? (A_ W 3)=some (pE pK u.state)/\w'.cell? (A_ W 4)=some (pE pK u.version)/\w'.cell? (A_ W 5)=some (pF u.ra u.rl u.rc)/\w'.cell? (A_ W 6)=some (pF u.ca u.cl u.cc)/\w'.cell? (A_ W 7)=some (pE pK u.deadline)/\w'.cell? (A_ W 8)=some (pE pK seq)/\w'.cell? (A_ w1 0)=some (pF (some (A_ g1 o1)) hs.length c)/\w'.cell? (A1 w2 0)=some (.map (some w2))/\w'.cell? (A_ g1 (o1+k*2))=some (pE pK hx)/\w'.cell? (A_ g1 (o1+k*2+1))=some (pE pK hy)/\(Ed 151 (.map (some w2)) (Dz u.name) false).run prog w' = .ok (pI false) w'/\w'.cell? (A1 w 0)=some (pI false)/\w'.frozen? (A1 w 0)=false)) bC bC (fun _ _ h=>h) bQ (fun hHeld=>?_);refine rQ 0 ?_;refine rQ 1 ?_;refine rQ 2 ?_;refine rQ 3 ?_;refine rQ 4 ?_;refine rQ 5 ?_;refine rQ 6 ?_;refine rQ 7 ?_;refine rQ 8 ?_;refine rQ 9 ?_;refine rQ 10 ?_;refine rQ 11 ?_;refine rQ 12 ?_;refine rC 13 fun K hK=>?_;go_simp;refine rO hK bQ fun hHeld=>?_;clear hK K;refine rQ 14 ?_;refine rQ 15 ?_;refine rQ 16 ?_;refine rC 17 fun K hK=>?_;go_simp;refine rO hK bQ fun hHeld=>?_;clear hK K;refine rC 18 fun K hK=>?_;go_simp
         (refine(a0.o _ ((HK2.o.trans E.o.kw).trans hHeld.1) _ 159 (by first | exact Blk.new _ _ _ | exact(Blk.new _ _ _).drew)).mono ?_;rintro e5 w5 ⟨rfl,hk5⟩)
         refine rO hK bQ fun hHeld=>?_;clear hK K;refine rQ 19 ?_;refine rQ 20 ?_;refine wpAnyH_done bC ?_ _
         (obtain⟨o,cm,aq⟩:=Ve (E.o.mp.keeps hHeld.1 bA) u.name (of_decide_eq_false HY2.o);gi_wp2;exact FJ (S:=[w2.heap.size]) hHeld.1 (Ec _ w2 o) bB bI bI ⟨a1.o,by(rw [ay.o];exact⟨aq,(E.o.mx.keeps hHeld.1 bA).keeps (Ec _ w2 o) bA,(E.o.pb.keeps hHeld.1 bA).keeps (Ec _ w2 o) bG,(E.o.kw.trans hHeld.1).own (Ec _ w2 o) bF⟩)⟩)
     case done=>
      rintro W ⟨hN,hI⟩ ak hK;rw [AP] at hN;have bm:b=true:=by
       rw [<- HB.o];unfold I1;rw [an.o,HSQ.o,al.o];rw [Ak (by rw [am.o];exact Aw _),Ak (by rw [<- HM.o.t.len,HLN.o];exact Aw _)] at hN;rw [hN,decide_eq_true bB,decide_eq_true bB];rfl
      subst bm;have B:=N.o.keeps hI.kw bA;have q0:=B.ce 0;have qf:=B.frozen 0;have HI:=lH hI;have D:=lH B;clear hI hN B;gi_wp2;have hk3:=Ae W (w+1) 0 (pI true);have bj:(W.setCell (A1 w 0) (pI true)).heap[w3.heap.size]? = some (.deferred (some [])):=(hk3.block _ bB bI).trans hK;refine⟨by simp,.inl ⟨_,_,rfl,run_takeDeferred bj,?_⟩⟩;have hk4:=AG (S:=[w3.heap.size]) (W.setCell (A1 w 0) (pI true)) (.deferred none) (l:=w3.heap.size) bA;have d2:Blk (W.setCell (A1 w 0) (pI true)) (w+1) 4 #[pI true]:=by simpa using D.o.set_ 0 (pI true)
      have e2:=(d2.keeps hk4 bG).ce 0;exact⟨pI true,by simp [results,results30,go_sem,e2],rfl,(((HK2.o.trans HI.o.kw).own hk3 bF).own hk4 mS)⟩
     case stop=>
      rintro G W Y ⟨aj,B,hkw⟩ ak hK;have bl:b=false:=by
       rw [<- HB.o];unfold I1;rw [an.o,HSQ.o,al.o,aj,Bool.and_false]
      subst bl;have D:=lH B;have HKW:=lH hkw;have HSZ:=lH hsz;clear aj B hkw hsz;gi_wp2;have hsz:=HSZ.o;refine⟨by simp,.inl ⟨_,_,rfl,run_takeDeferred hK,?_⟩⟩;have hk4:=AG (S:=[w3.heap.size]) W (.deferred none) (l:=w3.heap.size) bA;have e2:=(D.o.keeps hk4 bG).ce 0;exact⟨pI false,by simp [results,results30,go_sem,e2],rfl,HKW.o.own hk4 mS⟩
theorem Sc{w:World}: ∀ {V:List TV} {L:List Ten},AX w V L->V.map (·.name)=L.map (·.name)
 | [],[],_=>rfl
 | v::V,t::L,h=>by rw [CR,CR,Sc h.2,h.1.name]
 | [],_::_,h=>h.elim
 | _::_,[],h=>h.elim
structure iQ(w:World)(v:B6)(gn un fn ln:Nat)(seq:Int)(ns:List ByteArray)(A:World):Prop where
 run:∃x,A.ownsRow (w.heap.size+5) 9 1 x ns.length (ns.flatMap Fd)∧Blk A (w.heap.size+1) 41 #[x]
 pb:Blk A (w.heap.size+1+1) 29 (R_ v gn un fn ln seq)
 kw:Aa [] w A
theorem iQ.keeps{w:World}{v:B6}{gn un fn ln:Nat}{seq:Int}{E:List ByteArray}{A D:World}{S:List Nat}(h:iQ w v gn un fn ln seq E A)(hk:Aa S A D)(hS:∀y∈S,w.heap.size+3<=y/\y<w.heap.size+5):iQ w v gn un fn ln seq E D:=by
 obtain⟨x,h1,h2⟩:=h.run;have hn:∀y,y<w.heap.size+3->y∉S:=fun y hy hm=>by have:=hS y hm;omega
 exact⟨⟨x,Ah h1 hk (fun g B hm=>by have:=(h1.lt g B).1;have:=hS g hm;omega),h2.keeps hk (hn _ bB)⟩,h.pb.keeps hk (hn _ bB),h.kw.own hk bM⟩
theorem Vr(v:B6)(r:CJ)(gn un fn ln:Nat)(hln:v.lv.length=ln)(Y:ln<=1000)(seq:Int)(hsq:r.seq=seq)(w:World)(hl:AR BE 8 w v.la v.lc v.lv)(ht:AX w v.lv r.l):
  Calls prog 9 #[pH (R_ v gn un fn ln seq)] w fun x w'=>∃a c,x = pJ (pF a ln c)/\Kv w' a c (Bz r)/\w'.ownsRow w 9 1 (pF a ln c) (Bz r).length ((Bz r).flatMap Fd)/\Aa [] w w':=by
 subst hsq;obtain⟨seq,T⟩:=eX r.seq;have ab:=fun W=>FU v r gn un fn ln W;rw [T] at ab ⊢;refine(callsIn_wide (n:=9)).1 ?_;have HL:=lH hl;have HT:=lH ht;have HLN:=lH hln;have aj:=lH ab;clear hl ht hln ab T;refine callsIn_of_wp_marks func9 rfl trivial ?_ rfl;simp only [ntmps9,Cz,Av,D4,pL,pM,Bt,Bu,Cd,BD,BH,AL];gi_wp2_with fail;refine⟨trivial,(callsIn_wide.2 (aj.o _)).mono ?_⟩;rintro e w1 ⟨rfl,hw1⟩;gi_wp2_with fail;have hsz:w1.heap.size=w.heap.size+3:=by rw [<- hw1];simp
 have ad:iQ w v gn un fn ln seq [] w1:=by
  have hk:Aa [] w w1:=by rw [<- hw1];exact(((Aa.refl [] w).alloc _).alloc _).alloc _
  refine⟨⟨pF none 0 0,BQ _ _ _ _,?_⟩,?_,hk⟩<;>rw [<- hw1]
  ·exact(Ar _ _ _ _ bA).alloc _
  ·exact Ar _ _ _ _ bA
 have ai:=lH ad;clear ad hw1;refine Cc rfl bB (gf:=72) (lb:=#[pG (some (A2 w 0))]) rfl trivial (enters_of func72 bC rfl) (FV 8 (w+1+1) v.la v.lc ln v.lv HLN.o Y seq) (fun _=>rfl)
  (fun G A=>iQ w v gn un fn ln seq ((v.lv.take G.length).map (fun t:TV=>t.name)) A) (fun _ _=>False)
  (fun G A A' h hk=>h.keeps hk bF)
  (fun G A A' h hk=>h)
  (fun G A h=>⟨h.pb.cell 3,h.pb.cell 4,HL.o.keeps h.kw⟩) ai.o
  (fun k W=>(fun u:TV=>(({ tmps:=#[pH (R_ v gn un fn ln seq),p_ w 0,pF none 0 0,p1 w 0,UD,p_ W 0,pH (R_ v gn un fn ln seq),
     .func (.func 72) #[] #[pG (some (A2 w 0))],I_ (k:Int),pH (U_ u seq),UD,UD,UD,UD,UD,UD,UD],defers:=[] } : Act),W.alloc (.cells (U_ u seq) 114))) (v.lv.getD k tv0))
  (fun k W=>(Aa.refl [] W).alloc _) ?assign ?body ?done ?stop
 case assign=>
  intro l k W K hK;simp only [Mg];dsimp only at hK;generalize v.lv.getD k tv0=u at hK ⊢;gi_wp2;exact hK
 case body=>
  rintro l G k W W2 hI M U hk2;obtain⟨rfl,hkn⟩:=E8 M;obtain⟨u,hu⟩:∃u,v.lv[k]? = some u:=⟨_,Aq iV⟩;have hgd:v.lv.getD k tv0=u:=by rw [AO,hu];rfl
  dsimp only at hk2 ⊢;rw [hgd] at hk2 ⊢;rw [AP] at hI;have an:W.heap.size+1<=W2.heap.size:=by have:=hk2.size;rw [Eo] at this;exact this
  have J:=(hI.keeps ((Aa.refl [] W).alloc (.cells (U_ u seq) 114)) bA).keeps hk2 bF;have hb:=(Blk.new W 114 (U_ u seq)).keeps hk2 bI;have ac:Hi ((v.lv.take (AC k++[k]).length).map (·.name)=(v.lv.take k).map (·.name)++[u.name]):=lH (by rw [Al,AP,Bp,A0 hu,pO];rfl);obtain⟨ns,E⟩:=eX ((v.lv.take k).map (·.name));have ae:ns.length<=1000:=by rw [<- E,Bd,Ax];omega
  rw [E] at J ac;obtain⟨x,hrow,F⟩:=J.run;obtain⟨g,c,W3,N,B,hk3,al⟩:=CO (enc:=Fd) prog (t:=41) underlying41 Gl bE DY Ho hrow bB u.name bB 41;have d2:=hb.ce 2;have q0:=F.ce 0;have hgeS:=AZ hrow;have D:=F.keeps hk3 (fun hm=>by have:=hgeS _ hm;omega);have q3:=D.ce 0;have f3:=D.frozen 0;have O:=lH (D.set_ 0 (pF (some (A_ g 0)) (ns.length+1) c));obtain⟨m,hm⟩:=eX (ns.length+1);have HPB:=lH (J.pb.keeps hk3 (fun hm=>by have:=hgeS _ hm;omega));have HKW:=lH (J.kw.own hk3 jW);have HROW:=lH B;have HSZ:Hi (W2.heap.size<=W3.heap.size):=lH hk3.size;have ah:Hi (∀k∈[w1.heap.size,w1.heap.size+1],W3.heap[k]? = W2.heap[k]?):=lH (fun k hk=>hk3.block k mY (fun hm=>by have:=hgeS k hm;simp only [Ac,Ab,or_false] at hk;omega));rw [hm] at N O HROW;simp only [Fd] at N;clear hI M hk2 J hb hrow F ae B hk3 al hgeS D hm hgd hu E;gi_wp2_with (gi_at_builtin;refine EI _ rfl _ _ 41 rfl rfl rfl N ?_);have hk4:Aa [w.heap.size+1] W3 (W3.setCell (A1 w 0) (pF (some (A_ g 0)) m c)):=Ae _ _ _ _;have h9:=Ah HROW.o hk4 (fun g' ak hm'=>by have:=(HROW.o.lt g' ak).1;simp only [Ac,Ab,or_false] at hm';omega);refine⟨A8 HSZ.o hk4.size,fun y hy=>(hk4.block y mV iT).trans (ah.o y hy),?_⟩;show iQ w v gn un fn ln seq ((v.lv.take (AC k++[k]).length).map (fun t:TV=>t.name)) _;rw [ac.o];exact⟨⟨_,h9,O.o⟩,HPB.o.keeps hk4 bA,HKW.o.own hk4 bF⟩
 case done=>
  rintro W hI U hK;rw [AP,Ak lM] at hI;have X:Hi (v.lv.map (·.name)=Bz r):=lH (Sc HT.o);have HNL:Hi ((v.lv.map (·.name)).length=ln):=lH (by rw [Bd];exact HLN.o);obtain⟨ns,E⟩:=eX (v.lv.map (·.name));rw [E] at hI X HNL;obtain⟨x,hrow,F⟩:=hI.run;have q0:=F.ce 0;have HROW:=lH hrow;have HKW:=lH hI.kw;clear hI hrow F E;gi_wp2;refine⟨by simp,.inl ⟨_,_,rfl,run_takeDeferred hK,?_⟩⟩;have hk4:=AG (S:=[w1.heap.size]) W (.deferred none) (l:=w1.heap.size) bA;have aa:=Ah HROW.o hk4 (fun g hg hm=>by have:=(HROW.o.lt g hg).1;simp only [Ac,Ab,or_false] at hm;omega);obtain⟨a,c,rfl,am,_⟩:=AR.of_row DY aa;have B:=Ah HROW.o hk4 (fun g hg hm=>by have:=(HROW.o.lt g hg).1;simp only [Ac,Ab,or_false] at hm;omega);refine⟨_,by simp [results,results9,go_sem];rfl,?_⟩;exact⟨a,c,by rw [HNL.o],by rw [<- X.o];exact am,by rw [<- X.o,<- HNL.o];exact Bw B bB,HKW.o.own hk4 bF⟩
 case stop=>
  rintro G W M hX U hK;exact hX.elim
def FY(n:Int):Value:=if n=0 then .nilIface else .iface 200 (pH #[pE pK n])
def K7(u:TV)(seq:Int)(c:FW)(now:Int):Array Value:=#[pE pK u.slot,pE pK u.gen,Dz u.name,pE pK u.state,pE pK u.version,pF u.ra u.rl u.rc,pF u.ca u.cl u.cc,pE pK u.deadline,pE pK seq,
 pE pK c.verb,Dz c.name,pE pK c.want,pE pK c.at_,pI c.rule.allow,pE pK c.rule.addr,pE pK c.rule.bits,pE pK c.rule.from_,pE pK c.rule.to_,Dz c.key,pE pK c.n,pE pK c.m,pE pK now]
def Dj(B:Nat)(a:Option Addr):Prop:=∀g o,a=some ⟨g,o,none⟩->B<=g
def Kx(B:Nat)(u:TV):Prop:=Dj B u.ra/\Dj B u.ca
theorem Dj.mono{B B':Nat}{a:Option Addr}(h:Dj B a)(hb:B'<=B):Dj B' a:=fun g o e=>A8 hb (h g o e)
theorem Dj.out{B:Nat}{a:Option Addr}(h:Dj B a){S:List Nat}(hS:∀y∈S,y<B):∀g o,a=some (A_ g o)->g∉S:=fun g o e hm=>by
 have:=h g o e;have:=hS g hm;omega
theorem Dj.none_(B:Nat):Dj B none:=fun _ _ e=>by cases e
theorem Kx.mono{B B':Nat}{u:TV}(h:Kx B u)(hb:B'<=B):Kx B' u:=⟨h.1.mono hb,h.2.mono hb⟩
def EY(B:Nat)(u u':TV):Prop:=((u'.ra=u.ra/\u'.rl=u.rl)\/Dj B u'.ra)/\((u'.ca=u.ca/\u'.cl=u.cl)\/Dj B u'.ca)
theorem EY.ge{B B':Nat}{u u':TV}(h:EY B u u')(hg:Kx B' u)(hb:B'<=B):Kx B' u':=
 ⟨h.1.elim (fun e=>by rw [e.1];exact hg.1) (fun e=>e.mono hb),h.2.elim (fun e=>by rw [e.1];exact hg.2) (fun e=>e.mono hb)⟩
def Gt(cb:Nat)(u:TV)(seq:Int)(c:FW)(now:Int)(res:Ten×Int)(w:World):Ending->World->Prop:=fun e w'=>e = pJ (FY res.2)/\(res.2=0->∃u',Blk w' cb 143 (K7 u' seq c now)/\Cj w' u' res.1/\EY w.heap.size u u')/\Aa [cb] w w'
theorem Cj.keepsS{w w':World}{v:TV}{t:Ten}{S:List Nat}(h:Cj w v t)(hk:Aa S w w')(h1:∀g o,v.ra=some (A_ g o)->g∉S)(h2:∀g o,v.ca=some (A_ g o)->g∉S):Cj w' v t:={ h with rs:=h.rs.keepsS hk h1,cs:=h.cs.keepsS hk h2 }
def FX(cb:Nat)(u:TV):Prop:=(0<u.rl->∀g o,u.ra=some ⟨g,o,none⟩->g≠cb)/\(0<u.cl->∀g o,u.ca=some ⟨g,o,none⟩->g≠cb)
theorem AR.keepsN{α:Type}{enc:α->List Value}{n:Nat}{w w':World}{a:Option Addr}{c:Nat}{xs:List α}{S:List Nat}(h:AR enc n w a c xs)(hk:Aa S w w')(hS:0<xs.length->∀g off,a=some (A_ g off)->g∉S):AR enc n w' a c xs:=
 ⟨h.le,h.nil,fun h0=>by
  obtain⟨g,off,ha,hg,hc⟩:=h.at_ h0;exact⟨g,off,ha,BS hg hk.size,fun i hi j u hj=>(hk.cell (p:=A_ g (off+i*n+j)) hg (hS h0 g off ha)).trans (hc i hi j u hj)⟩⟩
theorem Cj.far{w w':World}{v:TV}{t:Ten}{cb:Nat}(h:Cj w v t)(hk:Aa [cb] w w')(hf:FX cb v):Cj w' v t:={ h with rs:=h.rs.keepsN hk (fun h0 g o e=>by simpa using hf.1 (by rw [<- h.rl];exact h0) g o e),cs:=h.cs.keepsN hk (fun h0 g o e=>by simpa using hf.2 (by rw [<- h.cl];exact h0) g o e) }
theorem Cj.src{w0 W w':World}{B:Nat}{u u':TV}{t t':Ten}{S:List Nat}(h0:Cj w0 u t)(h:Cj W u' t')(hs:EY B u u')(hk:Aa S W w')(hS:∀y∈S,w0.heap.size<=y/\y<B):Cj w' u' t':=
 { h with rs:=h.rs.keepsN hk (fun hp g o e hm=>by
   have hy:=hS g hm;rcases hs.1 with e1 | e1
   ·obtain⟨g',o',e',hl,_⟩:=h0.rs.at_ (by rw [h0.rl,<- e1.2,<- h.rl];exact hp)
    rw [<- e1.1,e] at e';injection e' with e';injection e' with e' _ _
    omega
   ·have:=e1 g o e;omega),cs:=h.cs.keepsN hk (fun hp g o e hm=>by
   have hy:=hS g hm;rcases hs.2 with e1 | e1
   ·obtain⟨g',o',e',hl,_⟩:=h0.cs.at_ (by rw [h0.cl,<- e1.2,<- h.cl];exact hp)
    rw [<- e1.1,e] at e';injection e' with e';injection e' with e' _ _
    omega
   ·have:=e1 g o e;omega) }
theorem FX.of{w:World}{v:TV}{t:Ten}{cb:Nat}(h:Cj w v t)(hc:w.heap.size<=cb):FX cb v:=
 ⟨fun h0 g o e=>by
  obtain⟨g',o',e',hl,_⟩:=h.rs.at_ (by rw [h.rl];exact h0);rw [e'] at e;injection e with e;injection e with e _ _
  omega,fun h0 g o e=>by
  obtain⟨g',o',e',hl,_⟩:=h.cs.at_ (by rw [h.cl];exact h0);rw [e'] at e;injection e with e;injection e with e _ _
  omega⟩
theorem QF(cb:Nat)(st:Int)(w:World):Calls prog 96 #[pG (some (A_ cb 0)),I_ st,pI false] w fun e w'=>e = pJ (.iface 200 (pH #[pE pK 156]))/\w=w':=by
 go_enter func96,ntmps96;go_wp2;go_ret;exact⟨rfl,rfl⟩
theorem Ob(cb:Nat)(u:TV)(seq:Int)(c:FW)(now st:Int)(w:World)(h:Blk w cb 143 (K7 u seq c now)):Calls prog 96 #[pG (some (A_ cb 0)),I_ st,pI true] w fun e w'=>e = pJ .nilIface/\Blk w' cb 143 (K7 { u with state:=st,deadline:=0 } seq c now)/\Aa [cb] w w':=by
 have B:=h.cell 3;have D:=h.cell 7;have E:=h.frozen 3;have F:=h.frozen 7;simp only [K7,An,Aj,Ao] at B D;have HB:Hi (Blk ((w.setCell (A_ cb 3) (I_ st)).setCell (A_ cb 7) (I_ 0)) cb 143 (K7 { u with state:=st,deadline:=0 } seq c now)):=lH ((h.set_ 3 (I_ st)).set_ 7 (I_ 0));have HK:Hi (Aa [cb] w ((w.setCell (A_ cb 3) (I_ st)).setCell (A_ cb 7) (I_ 0))):=lH ((Ae w cb 3 _).trans (Ae _ cb 7 _));clear h;go_enter func96,ntmps96;go_wp2;go_ret;exact⟨rfl,HB.o,HK.o⟩
theorem Mq(cb:Nat)(u:TV)(t:Ten)(seq:Int)(c:FW)(now:Int)(w:World)(h:Blk w cb 143 (K7 u seq c now))(B:Cj w u t)(hf:FX cb u):Calls prog 51 #[pG (some (A_ cb 0))] w (Gt cb u seq c now (if t.state≠2 then({ t with state:=2,deadline:=0 },0) else(t,156)) w):=by
 have F:=h.cell 3;simp only [K7,An,Aj,Ao] at F;have HB:=lH h;have E:=lH B;have D:=lH hf;have hst:=B.state;by_cases hs:u.state=2
 ·rw [if_neg (by rw [<- hst];simpa using hs)]
  have f1:(u.state != 2)=false:=by simpa using hs
  clear h B hf hst hs;go_enter func51,ntmps51;go_wp2_with fail;refine(QF cb 2 w).mono ?_;rintro e w1 ⟨rfl,rfl⟩;go_wp2;go_ret;exact⟨rfl,(fun e=>by cases e),Aa.refl _ _⟩
 ·rw [if_pos jY]
  have f1:(u.state != 2)=true:=by simpa using hs
  clear h B hf hst hs;go_enter func51,ntmps51;go_wp2_with fail;refine(Ob cb u seq c now 2 w HB.o).mono ?_;rintro e w1 ⟨rfl,hb,hk⟩;have HB1:=lH hb;have HK:=lH hk;clear hb hk;go_wp2;go_ret;exact⟨rfl,fun _=>⟨_,HB1.o,{ E.o.far HK.o D.o with state:=rfl,deadline:=rfl },⟨.inl ⟨rfl,rfl⟩,.inl ⟨rfl,rfl⟩⟩⟩,HK.o⟩
theorem Uj(cb:Nat)(u:TV)(t:Ten)(seq:Int)(c:FW)(now:Int)(w:World)(h:Blk w cb 143 (K7 u seq c now))(B:Cj w u t)(hf:FX cb u):Calls prog 169 #[pG (some (A_ cb 0))] w (Gt cb u seq c now (if t.state=2 then({ t with state:=1,deadline:=0 },0) else(t,156)) w):=by
 have F:=h.cell 3;simp only [K7,An,Aj,Ao] at F;have HB:=lH h;have E:=lH B;have D:=lH hf;have hst:=B.state;by_cases hs:u.state=2
 ·rw [if_pos jY]
  have f1:(u.state==2)=true:=by simpa using hs
  clear h B hf hst hs;go_enter func169,ntmps169;go_wp2_with fail;refine(Ob cb u seq c now 1 w HB.o).mono ?_;rintro e w1 ⟨rfl,hb,hk⟩;have HB1:=lH hb;have HK:=lH hk;clear hb hk;go_wp2;go_ret;exact⟨rfl,fun _=>⟨_,HB1.o,{ E.o.far HK.o D.o with state:=rfl,deadline:=rfl },⟨.inl ⟨rfl,rfl⟩,.inl ⟨rfl,rfl⟩⟩⟩,HK.o⟩
 ·rw [if_neg jY]
  have f1:(u.state==2)=false:=by simpa using hs
  clear h B hf hst hs;go_enter func169,ntmps169;go_wp2_with fail;refine(QF cb 1 w).mono ?_;rintro e w1 ⟨rfl,rfl⟩;go_wp2;go_ret;exact⟨rfl,(fun e=>by cases e),Aa.refl _ _⟩
theorem Jo(cb:Nat)(u:TV)(t:Ten)(seq:Int)(c:FW)(now:Int)(w:World)(h:Blk w cb 143 (K7 u seq c now))(B:Cj w u t):Calls prog 173 #[pG (some (A_ cb 0))] w (Gt cb u seq c now (t,0) w):=by
 have HB:=lH h;have D:=lH B;clear h B;go_enter func173,ntmps173;go_wp2;go_ret;exact⟨rfl,fun _=>⟨u,HB.o,D.o,⟨.inl ⟨rfl,rfl⟩,.inl ⟨rfl,rfl⟩⟩⟩,Aa.refl _ _⟩
theorem Kk(n:Int)(w:World):Calls prog 203 #[pE pK n] w fun e w'=>e = pJ (FY n)/\w=w':=by
 by_cases h:n=0
 ·subst h
  go_enter func203,ntmps203;go_wp2;go_ret;exact⟨rfl,rfl⟩
 ·have f1:(n != 0)=true:=bK;simp only [FY,if_neg h];clear h;go_enter func203,ntmps203;go_wp2;go_ret;exact⟨rfl,rfl⟩
theorem Blk.put4{w:World}{g:Nat}{t:TypeId}{x0 x1 x2 x3:Value}(h:Blk w g t #[x0,x1,x2,x3])(a b c d:Value):Blk ((((w.setCell (A_ g 0) a).setCell (A_ g 1) b).setCell (A_ g 2) c).setCell (A_ g 3) d) g t #[a,b,c,d]:=(((h.set_ 0 a).set_ 1 b).set_ 2 c).set_ 3 d
theorem Iv(w:World)(g:Nat)(a b c d:Value):Aa [g] w ((((w.setCell (A_ g 0) a).setCell (A_ g 1) b).setCell (A_ g 2) c).setCell (A_ g 3) d):=(G5 w g a b c).trans (Ae _ g 3 d)
def F6(now ov:Int)(c:El):El:=if c.to_<=now then⟨0,⟨#[]⟩,0,0⟩ else { c with to_:=if now+ov<c.to_ then now+ov else c.to_ }
theorem N3(l:List El)(now ov:Int):Cq l now ov=l.filterMap fun c=>if(F6 now ov c).from_<(F6 now ov c).to_ then some (F6 now ov c) else none:=by
 unfold Cq
 congr 1
 funext c
 unfold F6;split
 ·simp
 ·rfl
theorem N2{L:List El}{k:Nat}{c:El}(h:L[k]? = some c)(now ov:Int):Cq (L.take (k+1)) now ov=Cq (L.take k) now ov++(if(F6 now ov c).from_<(F6 now ov c).to_ then [F6 now ov c] else []):=by
 rw [N3,N3,A0 h,List.filterMap_append]
 congr 1
 by_cases hl:(F6 now ov c).from_<(F6 now ov c).to_<;>simp [hl]
theorem Pk(L:List El)(now ov:Int):(Cq L now ov).length<=L.length:=List.length_filterMap_le _ _
theorem WA{L:List El}{k:Nat}{c:El}(h:L[k]? = some c):DO (L.take (k+1))=c.id+1:=by
 rw [A0 h];simp [DO]
theorem Z9(c:El)(D nb ob:Nat)(i0 now ov:Int)(hi:wrap64 (c.id+1)=c.id+1)(hs:IntKind.i64.wrap (now+ov)=now+ov)(w:World)(h:Blk w D 3 #[pE pK i0])(hn:w.cell? (A_ nb 0)=some (I_ now))(ho:w.cell? (A_ ob 0)=some (I_ ov))(hne:nb≠D)(ac:ob≠D):
  Calls prog 202 #[pH #[pE pK c.id,Dz c.key,I_ c.from_,I_ c.to_],p_ D 0,p_ nb 0,p_ ob 0] w
   fun e w'=>e = pJ (pH #[pE pK (F6 now ov c).id,Dz (F6 now ov c).key,I_ (F6 now ov c).from_,I_ (F6 now ov c).to_])/\Blk w' D 3 #[pE pK (c.id+1)]/\Aa [D] w w':=by
 obtain⟨i,O,J,F⟩:=c;dsimp only at hi ⊢;obtain⟨wz,hwz⟩:=eX ((w.alloc (.cells #[pE pK i,Dz O,I_ J,I_ F] 194)).alloc (.cells #[pE pK 0,Dz ⟨#[]⟩,I_ 0,I_ 0] 194));have B:Aa [] w wz:=by rw [<- hwz];exact((Aa.refl [] w).alloc _).alloc _
 have M:Blk wz w 194 #[pE pK i,Dz O,I_ J,I_ F]:=by rw [<- hwz];exact(Blk.new w _ _).alloc _
 have U:Blk wz (w+1) 194 #[pE pK 0,Dz ⟨#[]⟩,I_ 0,I_ 0]:=by rw [<- hwz];exact Ar _ _ _ _ bA
 have X:=h.lt;have hI:=h.keeps B bA;have hnl:=Be w _ hn;have N:=Be w _ ho;have hk1:=Ae wz D 0 (I_ (i+1));have G:=M.keeps hk1 bI;have E:=U.keeps hk1 bI;have p0:=hI.ce 0;have pf:=hI.frozen 0;have z0:=M.ce 0;have c0:=G.ce 0;have c1:=G.ce 1;have c2:=G.ce 2;have c3:=G.ce 3;have f3:=G.frozen 3;have d0:=E.ce 0;have d1:=E.ce 1;have d2:=E.ce 2;have d3:=E.ce 3;have g0:=E.frozen 0;have g1:=E.frozen 1;have g2:=E.frozen 2;have g3:=E.frozen 3;have n1:=(hk1.cell (p:=A_ nb 0) (BS hnl B.size) aV).trans ((B.cell (p:=A_ nb 0) hnl bA).trans hn);have o1:=(hk1.cell (p:=A_ ob 0) (BS N B.size) (by simpa using ac)).trans ((B.cell (p:=A_ ob 0) N bA).trans ho);have HB1:Hi (Blk (wz.setCell (A_ D 0) (I_ (i+1))) D 3 #[pE pK (i+1)]):=lH (by simpa using hI.set_ 0 (I_ (i+1)));have aj:=lH G;have ak:=lH E;have HK0:=lH B;have HK1:Hi (Aa [D] w (wz.setCell (A_ D 0) (I_ (i+1)))):=lH ((B.mono bA).trans hk1);have T:=lH X;have al:Hi (wz.heap.size=w.heap.size+1+1):=lH gA;clear h hn ho B M U hI hk1 G E X hnl N;have x1:¬w.heap.size=w.heap.size+1:=bB;by_cases hto:F<=now
 ·have Y:F6 now ov ⟨i,O,J,F⟩=⟨0,⟨#[]⟩,0,0⟩:=by unfold F6;rw [if_pos hto]
  rw [Y];clear Y;go_enter func202,ntmps202;go_wp2_with fail;exact bodyPost_ret (v:=pH #[pE pK 0,Dz ⟨#[]⟩,I_ 0,I_ 0]) (by simp [results,results202,go_sem,d0,d1,d2,d3]) rfl ⟨rfl,HB1.o.keeps (Iv _ (w+1) _ _ _ _) (by have:=T.o;simp only [Ac,Ab,or_false];omega),HK1.o.trans' (Iv _ (w+1) _ _ _ _) (fun y hy=>by simp only [Ac,Ab,or_false] at hy;exact .inr bB)⟩
 ·obtain⟨m,hm⟩:=eX ((if now+ov<F then now+ov else F))
  have Y:F6 now ov ⟨i,O,J,F⟩=⟨i,O,J,m⟩:=by unfold F6;rw [if_neg hto,hm]
  rw [Y];have ai:(if now+ov<F then now+ov else F)=m:=hm;clear Y hm;go_enter func202,ntmps202;go_wp2_with fail;have hkk:Aa [w.heap.size,w.heap.size+1] (wz.setCell (A_ D 0) (I_ (i+1))) (((((((wz.setCell (A_ D 0) (I_ (i+1))).setCell (A_ w 3) (I_ m)).setCell (A1 w 0) (I_ i)).setCell (A1 w 1) (Dz O)).setCell (A1 w 2) (I_ J)).setCell (A1 w 3) (I_ m))):=((Ae _ w 3 _).mono bA).trans ((Iv _ (w+1) _ _ _ _).mono bA);have hd:∀y∈[w.heap.size,w.heap.size+1],w.heap.size<=y:=fun y hy=>by simp only [Ac,Ab,or_false] at hy;omega
  exact bodyPost_ret (v:=pH #[pE pK i,Dz O,I_ J,I_ m]) (by simp [results,results202,go_sem,d0,d1,d2,d3]) rfl ⟨rfl,HB1.o.keeps hkk (fun hm=>by have:=hd _ hm;have:=T.o;omega),HK1.o.trans' hkk (fun y hy=>.inr (hd y hy))⟩
theorem ON:D1 (prog.info? 194) 4=true:=bC
theorem Ra(a:Option Addr)(c:Nat)(L:List El)(n:Nat)(hn:L.length=n)(hL:n<=1000)(ib nb ob:Nat)(now ov:Int)(hid:∀x∈L,-1000000000000<=x.id/\x.id<=1000000000000)(hs:IntKind.i64.wrap (now+ov)=now+ov)(w:World)(h:Hg w a c L)(hi:Blk w ib 3 #[pE pK 1])(ai:w.cell? (A_ nb 0)=some (I_ now))(ak:w.cell? (A_ ob 0)=some (I_ ov))(hne:nb≠ib)(al:ob≠ib)(aj:0<n->∀g o,a=some (A_ g o)->g≠ib):
  Calls prog 201 #[pF a n c,.func (.func 202) #[] #[pG (some (A_ ib 0)),p_ nb 0,p_ ob 0]] w
   fun e w'=>∃u,e = pJ u/\w'.ownsRow w 194 4 u (Cq L now ov).length ((Cq L now ov).flatMap BT)/\Blk w' ib 3 #[pE pK (DO L)]/\Aa [ib] w w':=by
 have HH:=lH h;have HN:=lH hn;have HID:=lH hid;have aa:=lH ai;have ab:=lH ak;have av:=lH aj;have au:Hi (Blk w ib 3 #[pE pK (DO (L.take 0))]):=lH hi;have af:=lH hi.lt;have U:=lH (Bl hne al);have HSS:=lH hs;clear h hn hid ai ak aj hi hne al hs;go_enter func201,ntmps201;go_wp2;go_loopw [10,5] (fun i u wr=>∃k:Nat,i = I_ k/\k<=n/\Hi (wr.ownsRow w 194 4 u (Cq (L.take k) now ov).length ((Cq (L.take k) now ov).flatMap BT))/\Hi (Blk wr ib 3 #[pE pK (DO (L.take k))])/\Hi (Aa [ib] w wr)) (fun i _ _=>n - (intOf i).toNat)
 case atStart=>exact⟨0,rfl,Ba _,lH (BQ _ _ _ _),au,lH (Aa.refl _ _)⟩
 case round=>
  obtain⟨k,rfl,hk,HR,HB,HK⟩:=hrel;by_cases hlt:k<n
  ·obtain⟨g,off,⟨i,ky,fr,tt⟩,rfl,hg,hx,hat⟩:=HH.o.at_k (k:=k) bO
   have q0:=hat 0 (I_ i) rfl;have q1:=hat 1 (Dz ky) rfl;have q2:=hat 2 (I_ fr) rfl;have q3:=hat 3 (I_ tt) rfl;have G:g≠ib:=av.o bB g off rfl;rw [AT] at q0;rw [<- HK.o.cell (p:=A_ g (off+k*4)) hg (by simpa using G)] at q0;rw [<- HK.o.cell (p:=A_ g (off+k*4+1)) hg (by simpa using G)] at q1;rw [<- HK.o.cell (p:=A_ g (off+k*4+2)) hg (by simpa using G)] at q2;rw [<- HK.o.cell (p:=A_ g (off+k*4+3)) hg (by simpa using G)] at q3;have i1:(0:Int)<=(k:Int):=bB;have i2:(k:Int)<(n:Int):=bB;have HX:=lH hx;have hk0:=(Aa.refl [] wr).alloc (.cells #[pE pK i,Dz ky,I_ fr,I_ tt] 194);have F:=lH (Blk.new wr 194 #[pE pK i,Dz ky,I_ fr,I_ tt]);have HK0:=lH hk0;have aw:Hi (wrap64 (i+1)=i+1):=lH (by have:=HID.o _ (CD hx);dsimp only at this;exact IntWalk.wrap64_in _ ⟨by omega,by omega⟩);have d0:=F.o.ce 0;have d1:=F.o.ce 1;have d2:=F.o.ce 2;have d3:=F.o.ce 3;have Y:Hi (ib<wr.heap.size):=lH HB.o.lt;clear hat hg G hx hk0;go_wp2_with fail;refine(Z9 ⟨i,ky,fr,tt⟩ ib nb ob (DO (L.take k)) now ov aw.o HSS.o _ (HB.o.keeps HK0.o bA) ((HK0.o.cell (p:=A_ nb 0) (BS (Be w _ aa.o) HK.o.size) bA).trans ((HK.o.cell (p:=A_ nb 0) (Be w _ aa.o) (by simpa using U.o.1)).trans aa.o)) ((HK0.o.cell (p:=A_ ob 0) (BS (Be w _ ab.o) HK.o.size) bA).trans ((HK.o.cell (p:=A_ ob 0) (Be w _ ab.o) (by simpa using U.o.2)).trans ab.o)) U.o.1 U.o.2).mono ?_;rintro e w1 ⟨rfl,hb1,hk1⟩;clear d0 d1 d2 d3 q0 q1 q2 q3;obtain⟨⟨ti,tk,tf,T⟩,hT⟩:∃t,F6 now ov ⟨i,ky,fr,tt⟩=t:=⟨_,rfl⟩;rw [hT];dsimp only;have B:=F.o.keeps hk1 (by have:=Y.o;simp only [Ac,Ab,or_false];omega);have d0:=B.ce 0;have d1:=B.ce 1;have d2:=B.ce 2;have d3:=B.ce 3;have f0:=B.frozen 0;have f1:=B.frozen 1;have f2:=B.frozen 2;have f3:=B.frozen 3;have HT:=lH hT;obtain⟨w2,E⟩:=eX ((((w1.setCell (A_ wr 0) (I_ ti)).setCell (A_ wr 1) (Dz tk)).setCell (A_ wr 2) (I_ tf)).setCell (A_ wr 3) (I_ T));have hk2:Aa [wr.heap.size] w1 w2:=by rw [<- E];exact Iv _ _ _ _ _ _
   have D:Blk w2 wr 194 #[pE pK ti,Dz tk,I_ tf,I_ T]:=by rw [<- E];exact B.put4 _ _ _ _
   have J:Aa [ib] wr w2:=((HK0.o.mono bA).trans hk1).trans' hk2 (fun y hy=>.inr gB);have M:=Ah HR.o J (fun g9 a0 hm=>by
    simp only [Ac,Ab,or_false] at hm;have h1:=(HR.o.lt g9 a0).1;have:=af.o;omega)
   have HROW:=lH M;have HB2:Hi (Blk w2 ib 3 #[pE pK (DO (L.take (k+1)))]):=lH (by rw [WA HX.o];exact hb1.keeps hk2 (by have:=Y.o;simp only [Ac,Ab,or_false];omega));have HK2:Hi (Aa [ib] w w2):=lH (HK.o.trans J);have e0:=D.ce 0;have e1:=D.ce 1;have e2:=D.ce 2;have e3:=D.ce 3;clear B hk1 hb1 hk2 D J M hT;by_cases hlo:tf<T
   ·have X:Hi (Cq (L.take (k+1)) now ov=Cq (L.take k) now ov++[⟨ti,tk,tf,T⟩]):=lH (by rw [N2 HX.o,HT.o,if_pos hlo])
    obtain⟨ys,hys⟩:=eX (Cq (L.take k) now ov);have a1:ys.length<=k:=by rw [<- hys];exact A8 (Pk _ _ _) nP
    rw [hys] at HROW X;obtain⟨g9,c9,w9,O,N,hk9,ah⟩:=CO (enc:=BT) prog (t:=110) underlying110 ON bE D0 Iq HROW.o (HK2.o.size) ⟨ti,tk,tf,T⟩ bB 110;have HR9:Hi (w9.ownsRow w 194 4 (pF (some (A_ g9 0)) (ys.length+1) c9) (Cq (L.take (k+1)) now ov).length ((Cq (L.take (k+1)) now ov).flatMap BT)):=lH (by rw [X.o];exact N);have ac:=AZ HROW.o;have ar:=lH (HB2.o.keeps hk9 (fun hm=>by have:=ac _ hm;have:=af.o;omega));have HK9:Hi (Aa [ib] w w9):=lH (HK2.o.trans' hk9 (fun y hy=>.inr (ac y hy)));simp only [BT] at O;have hsz:w2.heap.size=w1.heap.size:=by rw [<- E];simp [World.setCell]
    rw [hsz,<- E] at O;rw [<- E] at e2 e3;clear hsz;clear N hk9 ah ac E hys a1 e0 e1;go_wp2_with (first | (at_builtin;refine Au _ rfl _ _ 110 rfl rfl rfl O ?_) | fail);go_roundw;case rel=>exact⟨k+1,by go_num,by omega,HR9,ar,HK9⟩
    case measure=>simp [intOf];omega
   ·have X:Hi (Cq (L.take (k+1)) now ov=Cq (L.take k) now ov):=lH (by rw [N2 HX.o,HT.o,if_neg hlo,List.append_nil])
    rw [<- X.o] at HROW;rw [<- E] at HROW HB2 HK2 e2 e3;clear E e0 e1;go_wp2_with fail;go_roundw;case rel=>exact⟨k+1,by go_num,by omega,HROW,HB2,HK2⟩
    case measure=>simp [intOf];omega
  ·obtain rfl:k=n:=bB;have ht:L.take k=L:=Ak bL;rw [ht] at HR HB;clear ht;go_wp2;go_ret;exact⟨_,rfl,HR.o,HB.o,HK.o⟩
end
end Go.Proofs.YtncebikgoleolaaGreatDoor
