/- Steps. -/
import Derived.Test.YtjieiikpolahfaaGreatDoorMah
import Derived.Lib.AppendZerosOnto
import Derived.Lib.Overlaps
set_option maxRecDepth 100000
set_option maxHeartbeats 8000000
set_option linter.all false
namespace Go.Proofs.YtjieiikpolahfaaGreatDoor
open Tryz
open _root_.Go renaming undef→UD
open _root_.And renaming intro→Bl
open _root_.Array renaming length_toList→BX,replicate_succ→Bt,replicate_zero→Bu
open _root_.Bool renaming and_assoc→EJ,and_eq_true→Af,eq_iff_iff→DI,false_and→Ep,true_and→DJ
open Builtin renaming append_→BI,copy_→E3,zeroCells→AN
open Ending renaming returned→pJ
open Instr renaming lookup→Ed,slice→AV
open _root_.Int renaming toNat_natCast→pW
open IntKind renaming i64→pK
open _root_.List renaming all_eq_true→Bm,append_assoc→CC,append_toArray→BD,cons_append→AL,flatMap_append→BY,getD_eq_getElem?_getD→AO,getElem?_cons_succ→Ao,getElem?_cons_zero→Aj,getElem?_eq_getElem→Aq,getElem?_eq_some_iff→Ad,getElem?_take→Dh,getElem?_toArray→An,length_append→Al,length_cons→Av,length_drop→B1,length_map→Bd,length_nil→D4,length_range→AP,length_singleton→Bp,length_take→Ax,map_append→pO,map_cons→CR,mem_append→AQ,mem_cons→Ac,mem_flatMap→E6,mem_of_getElem?→CD,nil_append→BH,not_mem_nil→Ab,push_toArray→Cd,range→AC,size_toArray→Cz,take_append_drop→Dn,take_append_of_le_length→CI,take_of_length_le→Ak
open _root_.Nat renaming add_zero→AT,le_refl→Aw,le_trans→A8,lt_of_lt_of_le→BS,lt_or_ge→pP,min_eq_left→DE,mul_le_mul_right→Ch,mul_one→pR,reduceAdd→pL,reduceSub→pM,zero_add→AW,zero_le→Ba
open Oper renaming semAt_some→pN
open Program renaming fieldsOf→CK
open Result renaming andThen→Bg
open Value renaming agg→pH,bool→pI,int→pE,ownBlock→EZ,pointer→pG,slice→pF,string→Dz
open World renaming block_lt_of_cell?→Be,ownsRow_nil→BQ,size_alloc→Eo
section
open Go.RowKit Go.Shelf
attribute [local go_sem] pN
attribute [local go_sem ↓] wp_at_zero wp_at_succ
theorem Dy.keepsS{w w':World}{v:DF}{s:Fz}{S:List Nat}(h:Dy w v s)(hk:Aa S w w')(h1:∀g o,v.ga=some (A_ g o)->g∉S)(h2:∀g o,v.ua=some (A_ g o)->g∉S)(h3:∀g o,v.fa=some (A_ g o)->g∉S):Dy w' v s:={ h with g:=h.g.keepsS hk h1,u:=h.u.keepsS hk h2,f:=h.f.keepsS hk h3 }
theorem aP(v:DF)(s:Fz)(gn un fn:Nat)(hg:s.gens.length=gn)(hu:s.used.length=un)(hf:s.free.length=fn)(hb:Dv s=true)(m:Nat)(b1:Hi (fn=m+1))(hno:Hi (Bn s≠(Ez,(0,0),92)))(w:World)(h:Dy w v s):
  Calls prog 154 #[pH (S_ v gn un fn)] w fun e w'=>∃x,e = pJ (.tuple #[x,pH #[pE pK (Bn s).2.1.1,I_ (Bn s).2.1.2],I_ (Bn s).2.2])/\Di w w' (Bn s).1 x/\Aa [] w w':=by
 obtain⟨wz,hwz⟩:=eX (((w.alloc (.cells (S_ v gn un fn) 26)).alloc (.cells IY.k 26)).alloc (.cells #[pE pK 0,I_ 0] 44));have aa:Aa [] w wz:=by rw [<- hwz];exact(((Aa.refl [] w).alloc _).alloc _).alloc _
 have N:Blk wz w 26 (S_ v gn un fn):=by rw [<- hwz];exact((Blk.new w _ _).alloc _).alloc _
 have a6:Blk wz (w+1) 26 IY.k:=by rw [<- hwz];exact(Ar _ _ _ _ bA).alloc _
 have a5:Blk wz (w+1+1) 44 #[pE pK 0,I_ 0]:=by rw [<- hwz];exact Ar _ _ _ _ bA
 have HR:=lH (fun W (hkk:Aa [] wz W)=>DR v s gn un fn hg hu hf true hb W (h.keeps (aa.trans hkk)));have HO:=lH (fun W (hkk:Aa [] wz W)=>I0 v s gn un fn hg hu hf W (h.keeps (aa.trans hkk)));have HB:=lH hb;have HG:=lH hg;have HU:=lH hu;have HF:=lH hf;have Y:=lH (Bl h.sg (Bl h.su h.sf));have HK0:=lH aa;have HB0:=lH N;have bj:=lH a6;have HBH:=lH a5;have p0:=N.ce 0;have p1:=N.ce 1;have p2:=N.ce 2;clear h hg hu hf hb aa N a6 a5;go_enter func154,ntmps154;go_wp2_with fail;clear hwz p0 p1 p2;refine(HR.o wz (Aa.refl [] wz)).mono ?_;rintro e w1 ⟨rfl,hk1⟩;have HK1:=lH hk1;have p0:=(HB0.o.keeps hk1 bA).ce 0;have p1:=(HB0.o.keeps hk1 bA).ce 1;have p2:=(HB0.o.keeps hk1 bA).ce 2;have a1:=lH (bj.o.keeps hk1 bA);have af:=lH (HBH.o.keeps hk1 bA);have ak:Hi (w.heap.size+1+1<w1.heap.size):=lH af.o.lt;clear hk1;have HKW:=lH (HK0.o.trans HK1.o);have b6:Hi (∀(er:Int) (W:World),Aa [] w1 W->Bn s=(Ez,(0,0),er)->∀W',Aa [w.heap.size+1,w.heap.size+1+1] W W'->Di w W' (Bn s).1 (.agg IY.k)/\Aa [] w W'):=lH fun er W hW ht W' hk=>by
  rw [ht];exact⟨Di.zero _ _,(HKW.o.trans hW).own hk bF⟩
 have ax:=HB.o;unfold Dv at ax;simp only [Af,decide_eq_true_eq] at ax;obtain⟨⟨⟨⟨⟨bx,bz⟩,ae⟩,T⟩,O⟩,ab⟩:=ax;obtain rfl:un=gn:=by rw [<- HU.o,<- HG.o];exact ae
 have bo:=lH O;have bp:=lH T;clear bx bz T ab ae O;go_wp2_with fail;clear p0 p1 p2;refine(HO.o w1 HK1.o).mono ?_;rintro e w2 ⟨tb,g,ua,uc,fa,fc,rfl,hO⟩;have t0:=hO.blk.ce 0;have t1:=hO.blk.ce 1;have t2:=hO.blk.ce 2;have HOT:=lH hO;have a3:=lH (a1.o.keeps hO.kw bA);have a0:=lH (af.o.keeps hO.kw bA);clear hO;have bq:Hi (Bn s=(match s.free.getLast? with
  | none=>(Ez,(0,0),92)
  | some i=>if s.gens.getD i.toNat 0=1000000000 then(Ez,(0,0),92) else(⟨s.gens.set i.toNat (s.gens.getD i.toNat 0+1),s.used.set i.toNat true,s.free.dropLast⟩,(i,s.gens.getD i.toNat 0+1),0))):=lH nJ
 have HNO:=hno;clear hno;obtain rfl:fn=m+1:=b1.out;have ac:=AR.row Eu (show w2.ownsRow w1 3 1 (pF fa s.free.length fc) s.free.length (s.free.flatMap Fb) by rw [HF.o];exact HOT.o.f);obtain⟨M,o3,i,rfl,b2,hx,hat⟩:=ac.at_k (k:=m) (by rw [HF.o];exact Nat.lt_succ_self m);have q3:=hat 0 (I_ i) rfl;rw [AT,pR] at q3;obtain⟨a9,av,aw⟩:=LD s.used s.free [] bo.o i (CD hx);rw [HU.o] at av;obtain⟨j,rfl,hj⟩:=MA a9 av;rw [pW] at aw;have X:s.free.getLast? = some (j:Int):=by rw [List.getLast?_eq_getElem?,HF.o];exact hx
 obtain⟨z,hz⟩:∃z,s.gens[j]? = some z:=⟨_,Aq (by rw [HG.o];exact hj)⟩;have bd:s.gens.getD j 0=z:=by rw [AO,hz];rfl
 have qg:=HOT.o.gb.cell j;rw [An,List.getElem?_map,hz,Option.map_some] at qg;have aq:Hi (Bn s=if z=1000000000 then(Ez,(0,0),92) else(⟨s.gens.set j (z+1),s.used.set j true,s.free.dropLast⟩,((j:Int),z+1),0)):=lH (by rw [bq.o,X];simp only [pW,bd]);have ai:m+1<=fc:=by have:=ac.le;rw [HF.o] at this;exact this
 obtain⟨hw1,cl,cn,co,cp,ct,cq,cr⟩:=P5 hj ai (by have:=Y.o.2.2;rw [HF.o] at this;exact this);have bm:=lH ac;have HZ:=lH hz;have HJ:=lH hj;have cd:=lH aw;have az:z≠1000000000:=fun e=>HNO.o (by rw [aq.o,if_pos e]);have HT:Hi (Bn s=(⟨s.gens.set j (z+1),s.used.set j true,s.free.dropLast⟩,((j:Int),z+1),0)):=lH (by rw [aq.o,if_neg az]);have fz:(z==1000000000)=false:=by simpa using az
 have cm:IntKind.i64.wrap (z+1)=z+1:=by
  have:=Bm.1 bp.o z (CD hz);simp only [Af,decide_eq_true_eq] at this;exact IntWalk.i64_in _ bB
 clear hat hx a9 av aw X hz bd ac b2 ai hj aq az;have ay:=AR.row KG (show w2.ownsRow w1 4 1 (pF ua s.used.length uc) s.used.length (s.used.flatMap JM) by rw [HU.o];exact HOT.o.u);obtain⟨E,uo,b0,rfl,ae,b3,ah⟩:=ay.at_k (k:=j) lO;have F:Hi (E≠tb/\g≠tb/\E≠g/\M≠tb/\M≠g/\M≠E):=lH ⟨CX HOT.o.u HOT.o.blk bE E rfl,Blk.ne_ HOT.o.gb HOT.o.blk bE,HOT.o.nu E rfl,CX HOT.o.f HOT.o.blk bE M rfl,HOT.o.ne M rfl,FP HOT.o.f HOT.o.u bE M E rfl rfl⟩;have bu:=lH (DP HOT.o.u rfl);have bv:=lH ay;have bt:=lH (ah 0 _ rfl);clear ay ae b3 ah;go_wp2_with fail;go_quiet (fail);go_upto_region 8 with fail
 go_cut [57] (fun _ wc=>Hi (Blk wc tb 250 #[pF (some (A_ g 0)) un un,pF (some (A_ E uo)) un uc,pF (some (A_ M o3)) m m]/\Aa [tb] w2 wc))
 case first=>
  have ad:=HOT.o.blk.frozen 2;go_wp2_with fail;go_meet;exact lH ⟨by simpa using(HOT.o.blk.keeps ((Aa.refl [] w2).drewN _) bA).set_ 2 (pF (some (A_ M o3)) m m),((Aa.refl [tb] w2).drewN _).setCell (.inl bA) _⟩
 case rest=>
  rename World=>wc
  have G:=hcut;clear t0 t1 t2 q3 qg hcut;have t1:=G.o.1.ce 1;obtain⟨cu,au⟩:=bu.o;have aj:=au.keeps G.o.2 (by simpa using F.o.1);have q1:=(G.o.2.cell (p:=A_ E (uo+j*1+0)) au.lt (by simpa using F.o.1)).trans bt.o;rw [AT,pR] at q1;have ad:=aj.frozen (uo+j);clear au aj;go_upto_region 9 with fail
  go_cut [69] (fun _ wd=>Hi (wd=wc.setCell (A_ E (uo+j)) (pI true)))
  case first=>
   go_wp2_with fail;go_meet;exact lH rfl
  case rest=>
   rename World=>wd
   have an:=hcut;have hk2:Aa [E] wc wd:=by rw [an.o];exact Ae _ _ _ _
   have HB2:=lH (G.o.1.keeps hk2 (by simpa using F.o.1.symm));have a7:=HOT.o.gb.keeps G.o.2 (by simpa using F.o.2.1);have ap:=lH (a7.keeps hk2 (by simpa using F.o.2.2.1.symm));have br:Hi (GX wd (some (A_ E uo)) uc (s.used.set j true)):=lH (by
    rw [an.o];exact(bv.o.keepsS G.o.2 (fun g' o' e=>by injection e with e;injection e with e _;subst e;simpa using F.o.1)).set1 (f:=pI) (fun _=>rfl) lO true)
   have HK2:=lH hk2;clear hcut t1 q1 ad hk2 a7 an;have t0:=HB2.o.ce 0;have q2:=ap.o.cell j;have ad:=ap.o.frozen j;rw [An,List.getElem?_map,HZ.o,Option.map_some] at q2;go_upto_region 10 with fail
   go_cut [80] (fun _ wf=>Hi (wf=wd.setCell (A_ g j) (I_ (z+1))))
   case first=>
    go_wp2_with fail;go_meet;exact lH rfl
   case rest=>
    rename World=>wf
    have ao:=hcut;have hk3:Aa [g] wd wf:=by rw [ao.o];exact Ae _ _ _ _
    have am:=lH (HB2.o.keeps hk3 (by simpa using F.o.2.1.symm));have a4:Hi (Blk wf g 3 ((s.gens.set j (z+1)).map (pE .i64)).toArray):=lH (by rw [ao.o,List.map_set];simpa using ap.o.set_ j (I_ (z+1)));have U:Aa [tb,E,g] w2 wf:=((G.o.2.mono bA).trans (HK2.o.mono bA)).trans (hk3.mono bA);have HKF:Hi (Aa [tb,E,g] w2 wf):=lH U;have bs:Hi (GX wf (some (A_ E uo)) uc (s.used.set j true)):=lH (br.o.keepsS hk3 (fun g' o' e=>by injection e with e;injection e with e _;subst e;simpa using F.o.2.2.1));have bl:Hi (F1 wf (some (A_ M o3)) m s.free.dropLast):=lH (by
     rw [List.dropLast_eq_take,HF.o];exact((bm.o.take m).cap (by rw [Ax,HF.o];simp)).keepsS U (fun g' o' e=>by
      injection e with e;injection e with e _;subst e
      have:=F.o;simp only [Ac,Ab,or_false,not_or];exact⟨this.2.2.2.1,this.2.2.2.2.2,this.2.2.2.2.1⟩))
    clear hcut t0 q2 ad hk3 U ao;have t0:=am.o.ce 0;have t1:=am.o.ce 1;have t2:=am.o.ce 2;have q2:=a4.o.cell j;rw [An,List.getElem?_map,List.getElem?_set_self (by rw [HG.o];exact HJ.o),Option.map_some] at q2;have B:Hi (w.heap.size+1+1<tb/\w.heap.size+1+1<E/\w.heap.size+1+1<g):=lH (by
     have h0:=ak.out;have h1:=HOT.o.te;have h2:=HOT.o.ge;have h3:=AZ HOT.o.u E iW;omega)
    have ba:w.heap.size+1∉[tb,E,g]:=by have:=B.o;simp only [Ac,Ab,or_false];omega
    have bb:w.heap.size+1+1∉[tb,E,g]:=by have:=B.o;simp only [Ac,Ab,or_false];omega
    have D:=lH (a3.o.keeps HKF.o ba);have J:=lH (a0.o.keeps HKF.o bb);have c0:=D.o.ce 0;have c1:=D.o.ce 1;have c2:=D.o.ce 2;have d0:=J.o.ce 0;have d1:=J.o.ce 1;have f0:=D.o.frozen 0;have f1:=D.o.frozen 1;have f2:=D.o.frozen 2;have g0:=J.o.frozen 0;have g1:=J.o.frozen 1;have x1:¬g=w.heap.size+1:=by have:=B.o;omega
    have x2:¬g=w.heap.size+1+1:=by have:=B.o;omega
    have x3:¬tb=w.heap.size+1:=by have:=B.o;omega
    have x4:¬tb=w.heap.size+1+1:=by have:=B.o;omega
    have x5:¬w.heap.size+1=g:=by have:=B.o;omega
    have x6:¬w.heap.size+1+1=g:=by have:=B.o;omega
    have x7:¬w.heap.size+1=tb:=by have:=B.o;omega
    have x8:¬w.heap.size+1+1=tb:=by have:=B.o;omega
    clear ba bb;go_wp2_with fail;go_region;go_wp2_with fail;refine bodyPost_ret (v:=.tuple #[pH #[pF (some (A_ g 0)) un un,pF (some (A_ E uo)) un uc,pF (some (A_ M o3)) m m],pH #[pE pK (j:Int),I_ (z+1)],I_ 0]) (by simp [results,results154,go_sem,c0,c1,c2,d0,d1]) rfl ⟨_,by rw [HT.o],?_,?_⟩
    ·rw [HT.o]
     have hm:Dy wf ⟨some (A_ g 0),un,some (A_ E uo),uc,some (A_ M o3),m⟩ ⟨s.gens.set j (z+1),s.used.set j true,s.free.dropLast⟩:=⟨AR.of_blk (f:=pE .i64) (fun _=>rfl) (by simpa using HG.o) a4.o,bs.o,bl.o,by simpa using Y.o.1,by simpa using Y.o.2.1,by have:=Y.o.2.2;simp only [List.length_dropLast];omega⟩;have h5:=B.o;have h6:=AZ HOT.o.f M iW;have h7:=ak.out;refine⟨_,un,un,m,rfl,by simpa using HG.o,by simpa using HU.o,by simp [HF.o],hm.keepsS (S:=[w.heap.size+1,w.heap.size+1+1]) bY ?_ ?_ ?_,?_,?_,?_⟩<;>
     ·intro g' o' e
      injection e with e;injection e with e _;subst e
      try simp only [Ac,Ab,or_false]
      omega
    ·refine(((HKW.o.trans HOT.o.kw).own HKF.o (fun y hy=>?_))).own (S:=[w.heap.size+1,w.heap.size+1+1]) bY (fun y hy=>?_)
     ·have:=B.o
      simp only [Ac,Ab,or_false] at hy;omega
     ·simp only [Ac,Ab,or_false] at hy
      omega
theorem X6(v:DF)(s:Fz)(gn un fn:Nat)(hg:s.gens.length=gn)(hu:s.used.length=un)(hf:s.free.length=fn)(w:World)(h:Dy w v s):
  Calls prog 154 #[pH (S_ v gn un fn)] w fun e w'=>∃x,e = pJ (.tuple #[x,pH #[pE pK (Bn s).2.1.1,I_ (Bn s).2.1.2],I_ (Bn s).2.2])/\Di w w' (Bn s).1 x/\Aa [] w w':=by
 cases hb:Dv s with
 | false=>exact X7 v s gn un fn hg hu hf hb w h
 | true=>
  cases hn:fn with
  | zero=>subst hn;exact SU v s gn un 0 hg hu hf hb (lH rfl) w h
  | succ m=>
   subst hn;by_cases ht:Bn s=(Ez,(0,0),92)
   ·exact Vt v s gn un (m+1) hg hu hf hb m (lH rfl) (lH ht) w h
   ·exact aP v s gn un (m+1) hg hu hf hb m (lH rfl) (lH ht) w h
theorem LO:∀(u:List Bool) (g:List Int) (i:Nat) (x y:Int),(x,y)∈usedL i u g->(i:Int)<=x/\x<((i+u.length:Nat):Int)
 | true::l,g::m,i,x,y,h=>by
  simp only [usedL,Ac,Prod.mk.injEq] at h;rcases h with h | h
  ·obtain⟨rfl,-⟩:=h
   simp only [Av];omega
  ·have:=LO l m (i+1) x y h
   simp only [Av];omega
 | false::l,_::m,i,x,y,h=>by
  simp only [usedL] at h;have:=LO l m (i+1) x y h;simp only [Av];omega
 | [],_,_,_,_,h=>by simp [usedL] at h
 | true::_,[],_,_,_,h=>by simp [usedL] at h
 | false::_,[],_,_,_,h=>by simp [usedL] at h
theorem Wi{s:Fz}(h:Dv s=true):s.free.length<=64:=by
 unfold Dv at h;simp only [Af,decide_eq_true_eq] at h;omega
theorem Y2{s:Fz}{x y:Int}(h:(Dt s).contains (x,y)=true):∃j:Nat,x=(j:Int)/\j<s.used.length:=by
 have h1:(x,y)∈Dt s:=bK;unfold Dt at h1;split at h1
 ·have:=LO _ _ _ _ _ h1
  exact MA bB bB
 ·simp at h1
theorem X0(v:DF)(s:Fz)(gn un fn:Nat)(hg:s.gens.length=gn)(hu:s.used.length=un)(hf:s.free.length=fn)(x y:Int)(hb:Dv s=false)(w:World)(h:Dy w v s):
  Calls prog 157 #[pH (S_ v gn un fn),pH #[pE pK x,I_ y]] w fun e w'=>∃r,e = pJ (.tuple #[r,I_ (CW s (x,y)).2])/\Di w w' (CW s (x,y)).1 r/\Aa [] w w':=by
 obtain⟨wz,hwz⟩:=eX (((w.alloc (.cells (S_ v gn un fn) 26)).alloc (.cells #[pE pK x,I_ y] 44)).alloc (.cells IY.k 26));have E:Aa [] w wz:=by rw [<- hwz];exact(((Aa.refl [] w).alloc _).alloc _).alloc _
 have D:Blk wz w 26 (S_ v gn un fn):=by rw [<- hwz];exact((Blk.new w _ _).alloc _).alloc _
 have G:Blk wz (w+1) 44 #[pE pK x,I_ y]:=by rw [<- hwz];exact(Ar _ _ _ _ bA).alloc _
 have J:Blk wz (w+1+1) 26 IY.k:=by rw [<- hwz];exact Ar _ _ _ _ bA
 have HR:=lH (fun W (hkk:Aa [] wz W)=>DR v s gn un fn hg hu hf false hb W (h.keeps (E.trans hkk)));have HV:=lH (fun b hb2 W (hkk:Aa [] wz W)=>L4 v s gn un fn hg hu hf x y b hb2 W (h.keeps (E.trans hkk)));have HO:=lH (fun W (hkk:Aa [] wz W)=>I0 v s gn un fn hg hu hf W (h.keeps (E.trans hkk)));have HB:=lH hb;have HG:=lH hg;have HU:=lH hu;have HF:=lH hf;have ab:=lH (Bl h.sg (Bl h.su h.sf));have HK0:=lH E;have HB0:=lH D;have O:=lH J;have HBH:=lH G;have T:=D.ce 0;have p1:=D.ce 1;have p2:=D.ce 2;clear h hg hu hf hb E D J G;go_enter func157,ntmps157;go_wp2_with fail;clear hwz T p1 p2;refine(HR.o wz (Aa.refl [] wz)).mono ?_;rintro e w1 ⟨rfl,hk1⟩;have HK1:=lH hk1;have T:=(HB0.o.keeps hk1 bA).ce 0;have p1:=(HB0.o.keeps hk1 bA).ce 1;have p2:=(HB0.o.keeps hk1 bA).ce 2;have r0:=(HBH.o.keeps hk1 bA).ce 0;have r1:=(HBH.o.keeps hk1 bA).ce 1;have B:=lH (O.o.keeps hk1 bA);have X:=lH (HBH.o.keeps hk1 bA);have U:=lH (HB0.o.keeps hk1 bA);have aa:Hi (w.heap.size+1+1<w1.heap.size):=lH B.o.lt;clear hk1;have HKW:=lH (HK0.o.trans HK1.o);have F:Hi (∀(er:Int) (W:World),Aa [] w1 W->CW s (x,y)=(Ez,er)->∀M,Aa [w.heap.size+1+1] W M->Di w M (CW s (x,y)).1 (.agg IY.k)/\Aa [] w M):=lH fun er W hW N M hk=>by
  rw [N];exact⟨Di.zero _ _,(HKW.o.trans hW).own hk bF⟩
 have N:CW s (x,y)=(Ez,90):=by unfold CW;rw [if_neg lT]
 have Y:=lH N;clear N T p1 p2 r0 r1;have c0:=B.o.ce 0;have c1:=B.o.ce 1;have c2:=B.o.ce 2;have f0:=B.o.frozen 0;have f1:=B.o.frozen 1;have f2:=B.o.frozen 2;go_wp2_with fail;exact bodyPost_ret (v:=.tuple #[.agg IY.k,I_ 90]) (by simp [results,results157,go_sem,c0,c1,c2]) rfl ⟨_,by rw [Y.o],F.o 90 w1 (Aa.refl _ _) Y.o _ bY⟩
theorem Vp(v:DF)(s:Fz)(gn un fn:Nat)(hg:s.gens.length=gn)(hu:s.used.length=un)(hf:s.free.length=fn)(x y:Int)(hb:Dv s=true)(hc:Hi ((Dt s).contains (x,y)=false))(w:World)(h:Dy w v s):
  Calls prog 157 #[pH (S_ v gn un fn),pH #[pE pK x,I_ y]] w fun e w'=>∃r,e = pJ (.tuple #[r,I_ (CW s (x,y)).2])/\Di w w' (CW s (x,y)).1 r/\Aa [] w w':=by
 obtain⟨wz,hwz⟩:=eX (((w.alloc (.cells (S_ v gn un fn) 26)).alloc (.cells #[pE pK x,I_ y] 44)).alloc (.cells IY.k 26));have E:Aa [] w wz:=by rw [<- hwz];exact(((Aa.refl [] w).alloc _).alloc _).alloc _
 have D:Blk wz w 26 (S_ v gn un fn):=by rw [<- hwz];exact((Blk.new w _ _).alloc _).alloc _
 have N:Blk wz (w+1) 44 #[pE pK x,I_ y]:=by rw [<- hwz];exact(Ar _ _ _ _ bA).alloc _
 have O:Blk wz (w+1+1) 26 IY.k:=by rw [<- hwz];exact Ar _ _ _ _ bA
 have HR:=lH (fun W (hkk:Aa [] wz W)=>DR v s gn un fn hg hu hf true hb W (h.keeps (E.trans hkk)));have HV:=lH (fun b hb2 W (hkk:Aa [] wz W)=>L4 v s gn un fn hg hu hf x y b hb2 W (h.keeps (E.trans hkk)));have HO:=lH (fun W (hkk:Aa [] wz W)=>I0 v s gn un fn hg hu hf W (h.keeps (E.trans hkk)));have HB:=lH hb;have HG:=lH hg;have HU:=lH hu;have HF:=lH hf;have af:=lH (Bl h.sg (Bl h.su h.sf));have HK0:=lH E;have HB0:=lH D;have X:=lH O;have HBH:=lH N;have Y:=D.ce 0;have p1:=D.ce 1;have p2:=D.ce 2;clear h hg hu hf hb E D O N;go_enter func157,ntmps157;go_wp2_with fail;clear hwz Y p1 p2;refine(HR.o wz (Aa.refl [] wz)).mono ?_;rintro e w1 ⟨rfl,hk1⟩;have HK1:=lH hk1;have Y:=(HB0.o.keeps hk1 bA).ce 0;have p1:=(HB0.o.keeps hk1 bA).ce 1;have p2:=(HB0.o.keeps hk1 bA).ce 2;have r0:=(HBH.o.keeps hk1 bA).ce 0;have r1:=(HBH.o.keeps hk1 bA).ce 1;have F:=lH (X.o.keeps hk1 bA);have J:=lH (HBH.o.keeps hk1 bA);have G:=lH (HB0.o.keeps hk1 bA);have ae:Hi (w.heap.size+1+1<w1.heap.size):=lH F.o.lt;clear hk1;have HKW:=lH (HK0.o.trans HK1.o);have M:Hi (∀(er:Int) (W:World),Aa [] w1 W->CW s (x,y)=(Ez,er)->∀T,Aa [w.heap.size+1+1] W T->Di w T (CW s (x,y)).1 (.agg IY.k)/\Aa [] w T):=lH fun er W hW U T hk=>by
  rw [U];exact⟨Di.zero _ _,(HKW.o.trans hW).own hk bF⟩
 have U:CW s (x,y)=(Ez,91):=by unfold CW;rw [if_pos HB.o,if_neg (by rw [hc.out];decide)]
 have HT:=lH U;clear U;go_wp2_with fail;refine(HV.o false (by have:=hc.out;simp only [List.contains_eq_mem] at this;exact this) w1 HK1.o).mono ?_;rintro e w2 ⟨rfl,hk2⟩;have HK2:=lH hk2;have B:=lH (F.o.keeps hk2 bA);have ab:=lH (J.o.keeps hk2 bA);have aa:=lH (G.o.keeps hk2 bA);clear hk2 Y p1 p2 r0 r1;have c0:=B.o.ce 0;have c1:=B.o.ce 1;have c2:=B.o.ce 2;have f0:=B.o.frozen 0;have f1:=B.o.frozen 1;have f2:=B.o.frozen 2;go_wp2_with fail;exact bodyPost_ret (v:=.tuple #[.agg IY.k,I_ 91]) (by simp [results,results157,go_sem,c0,c1,c2]) rfl ⟨_,by rw [HT.o],M.o 91 w2 HK2.o HT.o _ bY⟩
theorem aL(v:DF)(s:Fz)(gn un fn:Nat)(hg:s.gens.length=gn)(hu:s.used.length=un)(hf:s.free.length=fn)(x y:Int)(hb:Dv s=true)(hc:Hi ((Dt s).contains (x,y)=true))(w:World)(h:Dy w v s):
  Calls prog 157 #[pH (S_ v gn un fn),pH #[pE pK x,I_ y]] w fun e w'=>∃r,e = pJ (.tuple #[r,I_ (CW s (x,y)).2])/\Di w w' (CW s (x,y)).1 r/\Aa [] w w':=by
 obtain⟨wz,hwz⟩:=eX (((w.alloc (.cells (S_ v gn un fn) 26)).alloc (.cells #[pE pK x,I_ y] 44)).alloc (.cells IY.k 26));have X:Aa [] w wz:=by rw [<- hwz];exact(((Aa.refl [] w).alloc _).alloc _).alloc _
 have U:Blk wz w 26 (S_ v gn un fn):=by rw [<- hwz];exact((Blk.new w _ _).alloc _).alloc _
 have a7:Blk wz (w+1) 44 #[pE pK x,I_ y]:=by rw [<- hwz];exact(Ar _ _ _ _ bA).alloc _
 have a9:Blk wz (w+1+1) 26 IY.k:=by rw [<- hwz];exact Ar _ _ _ _ bA
 have HR:=lH (fun W (hkk:Aa [] wz W)=>DR v s gn un fn hg hu hf true hb W (h.keeps (X.trans hkk)));have HV:=lH (fun b hb2 W (hkk:Aa [] wz W)=>L4 v s gn un fn hg hu hf x y b hb2 W (h.keeps (X.trans hkk)));have HO:=lH (fun W (hkk:Aa [] wz W)=>I0 v s gn un fn hg hu hf W (h.keeps (X.trans hkk)));have HB:=lH hb;have HG:=lH hg;have HU:=lH hu;have HF:=lH hf;have al:=lH (Bl h.sg (Bl h.su h.sf));have HK0:=lH X;have HB0:=lH U;have br:=lH a9;have HBH:=lH a7;have p0:=U.ce 0;have p1:=U.ce 1;have p2:=U.ce 2;clear h hg hu hf hb X U a9 a7;go_enter func157,ntmps157;go_wp2_with fail;clear hwz p0 p1 p2;refine(HR.o wz (Aa.refl [] wz)).mono ?_;rintro e w1 ⟨rfl,hk1⟩;have HK1:=lH hk1;have p0:=(HB0.o.keeps hk1 bA).ce 0;have p1:=(HB0.o.keeps hk1 bA).ce 1;have p2:=(HB0.o.keeps hk1 bA).ce 2;have r0:=(HBH.o.keeps hk1 bA).ce 0;have r1:=(HBH.o.keeps hk1 bA).ce 1;have af:=lH (br.o.keeps hk1 bA);have aw:=lH (HBH.o.keeps hk1 bA);have au:=lH (HB0.o.keeps hk1 bA);have bf:Hi (w.heap.size+1+1<w1.heap.size):=lH af.o.lt;clear hk1;have HKW:=lH (HK0.o.trans HK1.o);have b7:Hi (∀(er:Int) (W:World),Aa [] w1 W->CW s (x,y)=(Ez,er)->∀W',Aa [w.heap.size+1+1] W W'->Di w W' (CW s (x,y)).1 (.agg IY.k)/\Aa [] w W'):=lH fun er W hW ht W' hk=>by
  rw [ht];exact⟨Di.zero _ _,(HKW.o.trans hW).own hk bF⟩
 have bt:Hi (s.free.length+1<=1000):=lH (by have:=Wi HB.o;omega);have HT:Hi (CW s (x,y)=(⟨s.gens,s.used.set x.toNat false,s.free++[x]⟩,0)):=lH (by unfold CW;rw [if_pos HB.o,if_pos hc.out]);obtain⟨j,rfl,hj⟩:=Y2 hc.out;rw [HU.o] at hj;have HJ:=lH hj;have cm:(0:Int)<=(j:Int):=bB;have cn:(j:Int)<(un:Int):=bB;clear hj;go_wp2_with fail;refine(HV.o true (by have:=hc.out;simp only [List.contains_eq_mem] at this;exact this) w1 HK1.o).mono ?_;rintro e w2 ⟨rfl,hk2⟩;have HK2:=lH hk2;have ay:=lH (af.o.keeps hk2 bA);have ax:=lH (aw.o.keeps hk2 bA);have O:=lH (au.o.keeps hk2 bA);clear hk2 p0 p1 p2 r0 r1;have p0:=O.o.ce 0;have p1:=O.o.ce 1;have p2:=O.o.ce 2;go_wp2_with fail;clear p0 p1 p2;refine(HO.o w2 (HK1.o.trans HK2.o)).mono ?_;rintro e w3 ⟨tb,g,ua,uc,fa,fc,rfl,hO⟩;have HOT:=lH hO;have az:=lH (ay.o.keeps hO.kw bA);have T:=lH (ax.o.keeps hO.kw bA);have t0:=hO.blk.ce 0;have t1:=hO.blk.ce 1;have t2:=hO.blk.ce 2;have r0:=T.o.ce 0;have r1:=T.o.ce 1;clear hO;have ap:=AR.row KG (show w3.ownsRow w2 4 1 (pF ua s.used.length uc) s.used.length (s.used.flatMap JM) by rw [HU.o];exact HOT.o.u);obtain⟨D,uo,b0,rfl,b3,b4,ag⟩:=ap.at_k (k:=j) lO;have ak:Hi (D≠tb/\g≠tb/\D≠g):=lH ⟨CX HOT.o.u HOT.o.blk bE D rfl,Blk.ne_ HOT.o.gb HOT.o.blk bE,HOT.o.nu D rfl⟩;obtain⟨cu,an⟩:=DP HOT.o.u rfl;have q1:=ag 0 _ rfl;rw [AT,pR] at q1;have b2:=an.frozen (uo+j);have cg:=lH an;have bx:=lH ap;have B:Hi (w.heap.size+1+1<w2.heap.size/\w2.heap.size<=tb/\w2.heap.size<=D/\w2.heap.size<=g):=lH ⟨BS bf.out HK2.o.size,HOT.o.te,AZ HOT.o.u D iW,HOT.o.ge⟩;clear ap b3 b4 ag an;go_upto_region 6 with fail
 go_cut [27] (fun _ wc=>Hi (Aa [D] w3 wc/\GX wc (some (A_ D uo)) uc (s.used.set j false)))
 case first=>
  go_region;go_wp2_with fail;go_meet;refine lH ⟨?_,?_⟩
  ·first | exact(((Aa.refl [D] w3).drew).setCell (.inl bA) _) | exact(((Aa.refl [D] w3)).setCell (.inl bA) _).drew
  ·have h9:=bx.o.set1 (f:=pI) (j:=j) (fun _=>rfl) lO false
   exact h9.keeps ((Aa.refl [] _).drew)
 case rest=>
  rename World=>wc
  have HC:=hcut;clear hcut t0 t1 t2 r0 r1 q1 b2;obtain⟨N,bh⟩:=HC.o;have ae:=HOT.o.blk.keeps N (by simpa using ak.o.1.symm);have bw:=lH bh;have HKC:=lH N;have cf:=lH ae;have ba:=T.o.keeps N (by have:=B.o;simp only [Ac,Ab,or_false];omega);have t2:=ae.ce 2;have r0:=ba.ce 0;have hfr:wc.drew.ownsRow w2 3 1 (pF fa s.free.length fc) s.free.length (s.free.flatMap Fb):=by
   rw [HF.o];exact Ah HOT.o.f N.drew (fun z hz=>by
    have:=FP HOT.o.f HOT.o.u bE z D hz rfl;simpa using this)
  obtain⟨M,c9,w9,E,G,hk9,be⟩:=CO (enc:=Fb) prog (t:=23) underlying23 Nj bE Eu KH hfr (A8 HOT.o.kw.size N.drew.size) (j:Int) (by have:=al.o.2.2;omega) 23;have ai:tb∉(pF fa s.free.length fc).ownBlock.toList:=fun hm=>(CX HOT.o.f HOT.o.blk bE tb (by rw [HF.o] at hm;simpa using hm)) rfl;have ab:=ae.drew.keeps hk9 ai;have e2:=ab.ce 2;have f2:=ab.frozen 2;have Y:Blk (w9.setCell (A_ tb 2) (pF (some (A_ M 0)) (s.free.length+1) c9)) tb 250 #[pF (some (A_ g 0)) gn gn,pF (some (A_ D uo)) un uc,pF (some (A_ M 0)) (s.free.length+1) c9]:=by simpa using ab.set_ 2 (pF (some (A_ M 0)) (s.free.length+1) c9)
  have bq:=lH Y;have a1:=lH hk9;have HR9:=lH G;have aj:Hi (∀z,(pF fa s.free.length fc).ownBlock=some z->w2.heap.size<=z/\z≠D/\z≠g/\z≠tb):=lH fun z hz=>by
   rw [HF.o] at hz;exact⟨AZ HOT.o.f z (by simpa using hz),FP HOT.o.f HOT.o.u bE z D hz rfl,HOT.o.ne z hz,CX HOT.o.f HOT.o.blk bE z hz⟩
  rw [HF.o] at E Y;simp only [Fb] at E;obtain⟨n9,ao⟩:=eX (fn+1);rw [ao] at E Y;have bv:=lH ao;have a5:=lH E;have bu:Hi (M≠tb):=lH (by
   have h1:=G;rw [HF.o] at h1;exact CX h1 ab bE M rfl)
  have av:=lH Y;clear G hk9 ai ab N bh ae ba ao Y hfr be bq E;have d2:=Ct t2 (.cells #[pE pK (j:Int)] 3);go_upto_region 7 with fail
  go_cut [40] (fun _ wd=>Hi (wd=w9.setCell (A_ tb 2) (pF (some (A_ M 0)) n9 c9)))
  case first=>
   go_region_law (refine BG _ _ 23 bD bD bD bD a5.o ?_)
   all_goals
    go_wp2_with fail;go_meet;exact lH rfl
  case rest=>
   rename World=>wd
   have bs:=hcut;clear hcut;have a6:=bs;have ad:Aa [tb] w9 wd:=by rw [a6.o];exact Ae _ _ _ _
   have hB:Blk wd tb 250 #[pF (some (A_ g 0)) gn gn,pF (some (A_ D uo)) un uc,pF (some (A_ M 0)) n9 c9]:=by rw [a6.o];exact av.o
   have J:Aa ((pF fa s.free.length fc).ownBlock.toList++[tb,D]) w3 wd:=((HKC.o.mono bA).trans ((((Aa.refl (pF fa s.free.length fc).ownBlock.toList wc).drew).trans a1.o).mono (fun y hy=>List.mem_append_left _ hy))).trans (ad.mono bA);have aa:∀y∈(pF fa s.free.length fc).ownBlock.toList++[tb,D],w2.heap.size<=y:=fun y hy=>by
    rcases AQ.1 hy with hy | hy
    ·exact(aj.o y bU).1
    ·have:=B.o
     simp only [Ac,Ab,or_false] at hy;omega
   have ah:w.heap.size+1+1∉(pF fa s.free.length fc).ownBlock.toList++[tb,D]:=fun hm=>by have:=aa _ hm;have:=B.o;omega
   have F:=az.o.keeps J ah;have bd:=HOT.o.gb.keeps J (fun hm=>by
    rcases AQ.1 hm with hm | hm
    ·exact(aj.o g bT).2.2.1 rfl
    ·have:=ak.o
     simp only [Ac,Ab,or_false] at hm;rcases hm with hm | hm
     ·exact this.2.1 hm
     ·exact this.2.2 hm.symm)
   have bg:GX wd (some (A_ D uo)) uc (s.used.set j false):=((bw.o.keeps ((Aa.refl [] wc).drew)).keepsS a1.o (fun g' o' e hm=>by
    injection e with e;injection e with e _;subst e
    exact(aj.o _ bT).2.1 rfl)).keepsS ad (fun g' o' e=>by injection e with e;injection e with e _;subst e;simpa using ak.o.1)
   have bb:F1 wd (some (A_ M 0)) c9 (s.free++[(j:Int)]):=(AR.row Eu (show w9.ownsRow w2 3 1 (pF (some (A_ M 0)) (s.free++[(j:Int)]).length c9) (s.free++[(j:Int)]).length ((s.free++[(j:Int)]).flatMap Fb) by simpa using HR9.o)).keepsS ad (fun g' o' e=>by injection e with e;injection e with e _;subst e;simpa using bu.o);have hm:Dy wd ⟨some (A_ g 0),gn,some (A_ D uo),uc,some (A_ M 0),c9⟩ ⟨s.gens,s.used.set j false,s.free++[(j:Int)]⟩:=⟨AR.of_blk (f:=pE .i64) (fun _=>rfl) HG.o bd,bg,bb,al.o.1,by simpa using al.o.2.1,by have h1:=bt.o;simp only [Al,Bp];omega⟩;have t0:=hB.ce 0;have t1:=hB.ce 1;have t2:=hB.ce 2;have c0:=F.ce 0;have c1:=F.ce 1;have c2:=F.ce 2;have f0:=F.frozen 0;have f1:=F.frozen 1;have f2:=F.frozen 2;have HM:=lH hm;have a3:=lH J;have a4:=lH aa;have a0:Hi (w2.heap.size<=M):=lH (AZ HR9.o M iW);have x1:¬tb=w.heap.size+1+1:=by have:=B.o;omega
   have x2:¬w.heap.size+1+1=tb:=by have:=B.o;omega
   clear ad hB J aa ah F bd bg bb hm;go_wp2_with fail;refine bodyPost_ret (v:=.tuple #[pH #[pF (some (A_ g 0)) gn gn,pF (some (A_ D uo)) un uc,pF (some (A_ M 0)) n9 c9],I_ 0]) (by simp [results,results157,go_sem,c0,c1,c2]) rfl ⟨_,by rw [HT.o],?_,?_⟩
   ·rw [HT.o]
    have h5:=B.o;have h7:=a0.o;refine⟨_,gn,un,n9,rfl,HG.o,by simpa using HU.o,by simp [HF.o,bv.o],HM.o.keepsS (S:=[w.heap.size+1+1]) bY ?_ ?_ ?_,?_,?_,?_⟩<;>
    ·intro g' o' e
     injection e with e;injection e with e _;subst e
     try simp only [Ac,Ab,or_false]
     omega
   ·refine(((HKW.o.trans HK2.o).trans HOT.o.kw).own a3.o (fun y hy=>?_)).own (S:=[w.heap.size+1+1]) bY (fun y hy=>?_)
    ·have:=B.o
     have:=a4.o y hy;omega
    ·simp only [Ac,Ab,or_false] at hy
     omega
theorem Xz(v:DF)(s:Fz)(gn un fn:Nat)(hg:s.gens.length=gn)(hu:s.used.length=un)(hf:s.free.length=fn)(x y:Int)(w:World)(h:Dy w v s):
  Calls prog 157 #[pH (S_ v gn un fn),pH #[pE pK x,I_ y]] w fun e w'=>∃r,e = pJ (.tuple #[r,I_ (CW s (x,y)).2])/\Di w w' (CW s (x,y)).1 r/\Aa [] w w':=by
 cases hb:Dv s with
 | false=>exact X0 v s gn un fn hg hu hf x y hb w h
 | true=>
  cases hc:(Dt s).contains (x,y) with
  | false=>exact Vp v s gn un fn hg hu hf x y hb (lH hc) w h
  | true=>exact aL v s gn un fn hg hu hf x y hb (lH hc) w h
def JJ(seq:Int)(met:List ByteArray)(h:Int×Int)(t:Ten):Bool:=decide ((t.slot,t.gen)=h)&&(!met.contains t.name&&Gq seq t)
theorem NZ(seq:Int):∀(A:List (Int×Int)) (X:List Ten) (B:List (Int×Int)) (Y:List Ten) (met:List ByteArray),A.length=X.length->De seq met (A++B) (X++Y)=(De seq met A X&&De seq (met++X.map (·.name)) B Y)
 | [],[],B,Y,met,_=>by simp [De]
 | a::A,x::X,B,Y,met,h=>by
  simp only [AL,De,CR];rw [NZ seq A X B Y _ bK,CC];simp only [EJ];rfl
 | [],_::_,_,_,_,h=>by simp at h
 | _::_,[],_,_,_,h=>by simp at h
theorem P8{seq:Int}{A:List (Int×Int)}{X:List Ten}{k:Nat}{h:Int×Int}{t:Ten}(h1:A[k]? = some h)(h2:X[k]? = some t):De seq [] (A.take (k+1)) (X.take (k+1))=(De seq [] (A.take k) (X.take k)&&JJ seq ((X.take k).map (·.name)) h t):=by
 have B:k<A.length:=(Ad.1 h1).1;have D:k<X.length:=(Ad.1 h2).1;rw [A0 h1,A0 h2,NZ _ _ _ _ _ _ nH];simp [De,JJ,EJ]
theorem ZM{seq:Int}{A:List (Int×Int)}{X:List Ten}{k:Nat}{h:Int×Int}{t:Ten}(h1:A[k]? = some h)(h2:X[k]? = some t)(hb:JJ seq ((X.take k).map (·.name)) h t=false):De seq [] A X=false:=by
 have B:k<A.length:=(Ad.1 h1).1;have D:k<X.length:=(Ad.1 h2).1;have h3:=P8 (seq:=seq) h1 h2;rw [hb,Bool.and_false] at h3;have:=NZ seq (A.take (k+1)) (X.take (k+1)) (A.drop (k+1)) (X.drop (k+1)) [] nH;rw [Dn,Dn,h3,Ep] at this;exact this
theorem Lj{seq:Int}: ∀ {A:List (Int×Int)} {X:List Ten} {met:List ByteArray},De seq met A X=true->A.length=X.length
 | [],[],_,_=>rfl
 | a::A,x::X,met,h=>by
  simp only [De,Af] at h;have:=Lj h.2;simp [this]
 | [],_::_,_,h=>by simp [De] at h
 | _::_,[],_,h=>by simp [De] at h
theorem AX.get?{w:World}{V:List TV}{L:List Ten}(h:AX w V L){k:Nat}{u:TV}(hu:V[k]? = some u):∃t,L[k]? = some t/\Cj w u t:=by
 obtain⟨h1,rfl⟩:=Ad.1 hu;have h2:k<L.length:=by rw [<- h.len];exact h1
 exact⟨L[k],Aq h2,h.get k h1 h2⟩
theorem gQ(a b x y:Int)(w:World):(binOp .neq 44 (pH #[pE pK a,I_ x]) (pH #[pE pK b,I_ y])).run prog w = .ok (pI (!decide ((a,x)=(b,y)))) w:=by
 have hS:prog.underlying 44=some (.struct (prog.fieldsOf 44)):=bC;have hp:prog.stoodInHeld 44=false:=bC;rw [run_neq_struct,show(10000:Nat)=9999+1 from rfl,run_equalIn_agg w 9999 44 _ _ hS hp];simp only [CK,underlying44];go_simp;by_cases h1:a=b<;>by_cases h2:x=y<;>simp [h1,h2]
theorem I3{α:Type}{B:Nat}{I Ix:List α->World->Prop}{xs:List α}{W2 WX WF:World}{S:List Nat}{a:Act}(hk:Aa [] W2 WX)(hk2:Aa S WX WF)(hB:B+1<W2.heap.size)(h1:B∉S)(h2:B+1∉S)(hx:Ix xs WF):Jw B I Ix xs W2 .ret a WF:=
 ⟨A8 hk.size hk2.size,fun y hy=>by
  have:=hk.size;simp only [Ac,Ab,or_false] at hy;rcases hy with rfl | rfl
  ·exact(hk2.block _ bB h1).trans (hk.block _ bB bA)
  ·exact(hk2.block _ bB h2).trans (hk.block _ bB bA),hx⟩
theorem FJ{α:Type}{B:Nat}{I Ix:List α->World->Prop}{xs:List α}{W2 WX WF:World}{S:List Nat}{a:Act}(hk:Aa [] W2 WX)(hk2:Aa S WX WF)(hB:B+1<W2.heap.size)(h1:B∉S)(h2:B+1∉S)(hx:I xs WF):Jw B I Ix xs W2 .normal a WF:=
 ⟨A8 hk.size hk2.size,fun y hy=>by
  have:=hk.size;simp only [Ac,Ab,or_false] at hy;rcases hy with rfl | rfl
  ·exact(hk2.block _ bB h1).trans (hk.block _ bB bA)
  ·exact(hk2.block _ bB h2).trans (hk.block _ bB bA),hx⟩
structure jG(w2:World)(v:B6)(gn un fn ln:Nat)(seq:Int)(met:List ByteArray)(A:World):Prop where
 mp:DV Dz A w2.heap.size met
 mx:Blk A (w2.heap.size+1) 154 #[.map (some w2.heap.size)]
 pb:Blk A (w2.heap.size+1+1) 29 (R_ v gn un fn ln seq)
 kw:Aa [] w2 A
theorem jG.keeps{w2:World}{v:B6}{gn un fn ln:Nat}{seq:Int}{met:List ByteArray}{A A':World}{S:List Nat}(h:jG w2 v gn un fn ln seq met A)(hk:Aa S A A')(hS:∀y∈S,w2.heap.size+2<y):jG w2 v gn un fn ln seq met A':=
 have hn:∀y,y<=w2.heap.size+2->y∉S:=fun y hy hm=>by have:=hS y hm;omega
 ⟨h.mp.keeps hk (hn _ bB),h.mx.keeps hk (hn _ bB),h.pb.keeps hk (hn _ bB),h.kw.own hk bM⟩
theorem Kd(v:B6)(r:CJ)(gn un fn ln:Nat)(hg:r.slots.gens.length=gn)(hu:r.slots.used.length=un)(hf:r.slots.free.length=fn)(hln:v.lv.length=ln)(seq:Int)(hsq:r.seq=seq)(b:Bool)(hb:I1 r=b)(w:World)(h:CH w v r):
  Calls prog 37 #[pH (R_ v gn un fn ln seq)] w fun x w'=>x = pJ (pI b)/\Aa [] w w':=by
 subst hsq;obtain⟨seq,aa⟩:=eX (r.seq);have ar:=fun W=>FU v r gn un fn ln W;rw [aa] at ar ⊢;obtain⟨wz,hwz⟩:=eX ((w.alloc (.cells (R_ v gn un fn ln seq) 29)).alloc (.cells #[pI false] 4));have HZ:Hi (Aa [] w wz):=lH lY;have HB0:Hi (Blk wz w 29 (R_ v gn un fn ln seq)):=lH kI;have HB1:Hi (Blk wz (w+1) 4 #[pI false]):=lH aF;obtain⟨b1,hb1⟩:=eX (Dv r.slots);have aw:=lH (fun W (hk:Aa [] w W)=>U0 v.s r.slots gn un fn hg hu hf W (h.s.keeps hk));have bh:=lH (fun W (hk:Aa [] w W)=>DR v.s r.slots gn un fn hg hu hf b1 hb1 W (h.s.keeps hk));have HM:=lH h;have HLN:=lH hln;have bi:=lH ar;have HB:=lH hb;have an:=lH hb1;have HSQ:=lH aa;have af:ln<=1000:=by rw [<- hln,h.t.len];exact h.sl
 obtain⟨hs,ap⟩:=eX (Dt r.slots);rw [ap] at aw;have al:=lH ap;clear h hg hu hf hln ar hb hb1 aa ap;refine(callsIn_wide (n:=9)).1 ?_;refine callsIn_of_wp_marks func37 rfl trivial ?_ rfl;simp only [ntmps37,Cz,Av,D4,pL,pM,Bt,Bu,Cd,BD,BH,AL];have p0:=HB0.o.ce 0;have p1:=HB0.o.ce 1;have p2:=HB0.o.ce 2;gi_wp2_with (fail);clear hwz p0 p1 p2;refine⟨trivial,(callsIn_wide.2 (aw.o wz HZ.o)).mono ?_⟩;rintro e w1 ⟨a,c,rfl,a6,hk1⟩;obtain⟨wa,ah⟩:=eX (w1.alloc (.cells #[pF a hs.length c] 159));have ae:Aa [] wz wa:=by rw [<- ah];exact hk1.alloc _
 have ab:=lH (HB0.o.keeps ae bA);have bd:=lH (HB1.o.keeps ae bA);have be:Hi (Blk wa w1 159 #[pF a hs.length c]):=lH (by rw [<- ah];exact Blk.new w1 _ _);have bg:Hi (AR Rt 2 wa a c hs):=lH (a6.keeps (by rw [<- ah];exact(Aa.refl [] w1).alloc _));have ax:=lH (HZ.o.trans ae);have p0:=ab.o.ce 0;have p1:=ab.o.ce 1;have p2:=ab.o.ce 2;clear a6 hk1 ae;gi_wp2_with (fail);clear ah p0 p1 p2;refine⟨trivial,(callsIn_wide.2 (bh.o wa ax.o)).mono ?_⟩;rintro e w2 ⟨rfl,hk2⟩;have M:=lH (ab.o.keeps hk2 bA);have N:=lH (bd.o.keeps hk2 bA);have HR3:=lH (be.o.keeps hk2 bA);have az:=lH (bg.o.keeps hk2);have HK2:=lH (ax.o.trans hk2);clear hk2;have c0:=N.o.ce 0;have f0:=N.o.frozen 0;have r0:=M.o.ce 0;have r1:=M.o.ce 1;have r2:=M.o.ce 2;have r3:=M.o.ce 3;have r4:=M.o.ce 4;have s0:=HR3.o.ce 0;have ac:Hi (b=false->∀K:Prop,True):=lH (fun _ _=>trivial);have a4:Aa [w.heap.size+1] w2 (w2.setCell (A1 w 0) (pI false)):=Ae _ _ _ _;have HKF:Hi (Aa [] w (w2.setCell (A1 w 0) (pI false))):=lH (HK2.o.own a4 bF);clear a4 ac;have X:b1=true/\0<=seq/\seq<=1000000000000/\hs.length=ln\/b=false:=by
  by_cases hx:b1=true/\0<=seq/\seq<=1000000000000/\hs.length=ln
  ·exact .inl hx
  ·refine .inr ?_
   cases hbb:b with
   | false=>rfl
   | true=>
    exfalso;have h1:=HB.o;rw [hbb] at h1;unfold I1 at h1;rw [an.o,HSQ.o,al.o] at h1;simp only [Af,decide_eq_true_eq] at h1;exact hx ⟨h1.1.1.1,h1.1.1.2,h1.1.2,by rw [Lj h1.2,<- HM.o.t.len,HLN.o]⟩
 have ad:=lH X;clear X;cases b1 with
 | false=>
  obtain rfl:b=false:=ad.o.resolve_left bA;gi_wp2_with (fail);exact⟨pI false,by simp [results,results37,go_sem,c0],rfl,HKF.o⟩
 | true=>
  by_cases h1:seq<0
  ·obtain rfl:b=false:=ad.o.resolve_left bB
   gi_wp2_with (fail);exact⟨pI false,by simp [results,results37,go_sem,c0],rfl,HKF.o⟩
  ·by_cases h2:1000000000000<seq
   ·obtain rfl:b=false:=ad.o.resolve_left bB
    gi_wp2_with (fail);exact⟨pI false,by simp [results,results37,go_sem,c0],rfl,HKF.o⟩
   ·by_cases h3:hs.length=ln
    rotate_left
    ·obtain rfl:b=false:=ad.o.resolve_left bB
     have f3:((hs.length:Int) != (ln:Int))=true:=by simp;omega
     gi_wp2_with (fail);exact⟨pI false,by simp [results,results37,go_sem,c0],rfl,HKF.o⟩
    ·have f3:((hs.length:Int) != (ln:Int))=false:=by simp;omega
     have cm:=fun W=>run_makeMap (P:=prog) 154 W;have am:=lH h3;clear h3;have a5:Aa [] w2 ((w2.alloc (.map #[] 0)).alloc (.cells #[.map (some w2)] 154)):=((Aa.refl [] w2).alloc _).alloc _;have O:=M.o.keeps a5 bA;have t0:=O.ce 0;have t1:=O.ce 1;have t2:=O.ce 2;have t3:=O.ce 3;have t4:=O.ce 4;clear O a5;gi_wp2_with (fail);refine⟨trivial,(callsIn_wide.2 (bi.o _)).mono ?_⟩;rintro e w3 ⟨rfl,ag⟩;clear t0 t1 t2 t3 t4 r0 r1 r2 r3 r4 s0;gi_wp2_with (fail);have hsz:w3.heap.size=w2.heap.size+3:=by rw [<- ag];simp
     have a3:jG w2 v gn un fn ln seq [] w3:=by
      have hk:Aa [] w2 w3:=by rw [<- ag];exact(((Aa.refl [] w2).alloc _).alloc _).alloc _
      refine⟨?_,?_,?_,hk⟩<;>rw [<- ag]
      ·exact((DV.new w2).keeps ((Aa.refl [] _).alloc _) bA).keeps ((Aa.refl [] _).alloc _) bA
      ·exact(Ar _ _ _ _ bA).alloc _
      ·exact Ar _ _ _ _ bA
     have bf:=lH a3;clear a3 ag;have b8:w.heap.size+1<w2.heap.size:=N.o.lt;have b6:prog.eqGuardType prog.depth 44=false:=by kernel_rfl
     refine Cc rfl bB (gf:=136) (lb:=#[pG (some (A2 w2 0))]) rfl trivial (enters_of func136 bC rfl) (FV 8 (w2+1+1) v.la v.lc ln v.lv HLN.o af seq) (fun _=>rfl)
      (fun G A=>De seq [] (hs.take G.length) (r.l.take G.length)=true/\jG w2 v gn un fn ln seq ((r.l.take G.length).map (·.name)) A) (fun _ A=>De seq [] hs r.l=false/\Blk A (w+1) 4 #[pI false]/\Aa [] w A)
      (fun G A A' h hk=>⟨h.1,h.2.keeps hk bF⟩)
      (fun G A A' h hk=>⟨h.1,h.2.1.keeps hk (by have:=N.o.lt;simp only [Ac,Ab,or_false];omega),h.2.2.own hk mS⟩)
      (fun G A h=>⟨h.2.pb.cell 3,h.2.pb.cell 4,HM.o.l.keeps (HK2.o.trans h.2.kw)⟩) ⟨rfl,bf.o⟩
      (fun k W=>(fun u:TV=>(({ tmps:=#[pH (R_ v gn un fn ln seq),pG (some (A_ w 0)),pG (some (A1 w 0)),pG (some (A_ w1 0)),pG (some (A1 w2 0)),pE pK (k:Int),pG (some (A_ W 0)),pG (some (A_ w 0)),pH (S_ v.s gn un fn),pF a hs.length c,pG (some (A_ w 0)),pH (S_ v.s gn un fn),pI true,pI false,pI false,pG (some (A_ w 4)),pE pK seq,pI (decide (seq<0)),pI (decide (seq<0)),pI (decide (seq<0)),pG (some (A_ w 4)),pE pK seq,pI (decide (1000000000000<seq)),pI (decide (seq<0)||decide (1000000000000<seq)),pI (decide (seq<0)||decide (1000000000000<seq)),pF a hs.length c,pE pK (hs.length:Int),pG (some (A_ w 3)),pF v.la ln v.lc,pE pK (ln:Int),pI false,pI (decide (seq<0)||decide (1000000000000<seq)),.map (some w2),pH (R_ v gn un fn ln seq),.func (.func 136) #[] #[pG (some (A2 w2 0))],pE pK (k:Int),pH (U_ u seq),UD,UD,UD,UD,UD,UD,UD,UD,UD,UD,UD,UD,UD,UD,UD,UD,UD,UD,UD,UD,UD,UD,UD,UD,UD],defers:=[] } : Act),W.alloc (.cells (U_ u seq) 166))) (v.lv.getD k tv0))
      (fun k W=>(Aa.refl [] W).alloc _) ?assign ?body ?done ?stop
     case assign=>
      intro l k W K hK;simp only [Mg];dsimp only at hK;generalize v.lv.getD k tv0=u at hK ⊢;gi_wp2;exact hK
     case body=>
      rintro l G k W W2 ⟨hN,hI⟩ Y ak hk2;obtain⟨rfl,hkn⟩:=E8 Y;obtain⟨u,hu⟩:∃u,v.lv[k]? = some u:=⟨_,Aq iV⟩;have hgd:v.lv.getD k tv0=u:=by rw [AO,hu];rfl
      dsimp only at hk2 ⊢;rw [hgd] at hk2 ⊢;rw [AP] at hN hI;obtain⟨t,ht,T⟩:=HM.o.t.get? hu;obtain⟨g1,o1,⟨hx,hy⟩,rfl,hg1,hx1,hat1⟩:=az.o.at_k (k:=k) (by rw [am.o];exact hkn);have b7:W.heap.size<=W2.heap.size:=by have:=hk2.size;rw [Eo] at this;omega
      have F:=(hI.keeps ((Aa.refl [] W).alloc (.cells (U_ u seq) 166)) bA).keeps hk2 bF;have hb:=(Blk.new W 166 (U_ u seq)).keeps hk2 bI;have d0:=hb.ce 0;have d1:=hb.ce 1;have d2:=hb.ce 2;have d3:=hb.ce 3;have d4:=hb.ce 4;have d5:=hb.ce 5;have d6:=hb.ce 6;have d7:=hb.ce 7;have d8:=hb.ce 8;have s0:=(HR3.o.keeps F.kw bA).ce 0;have m0:=F.mx.ce 0;have B:=N.o.keeps F.kw bA;have q0:=B.ce 0;have qf:=B.frozen 0;have z0:=(F.kw.cell (p:=A_ g1 (o1+k*2+0)) hg1 bA).trans (hat1 0 _ rfl);have z1:=(F.kw.cell (p:=A_ g1 (o1+k*2+1)) hg1 bA).trans (hat1 1 _ rfl);rw [AT] at z0;have i1:(0:Int)<=(k:Int):=by omega
      have i2:(k:Int)<(hs.length:Int):=by rw [am.o];omega
      have hlk:=Un F.mp u.name;obtain⟨y1,au⟩:=eX (decide ((u.slot,u.gen)=(hx,hy)));obtain⟨y2,ai⟩:=eX (decide (u.name∈(r.l.take k).map (·.name)));obtain⟨y3,av⟩:=eX (Gq seq t);have hne:=fun W=>gQ u.slot hx u.gen hy W;rw [au] at hne;rw [ai] at hlk;have HST:Hi (JJ seq ((r.l.take k).map (·.name)) (hx,hy) t=(y1&&(!y2&&y3))):=lH (by
       unfold JJ;rw [<- T.slot,<- T.gen,au,<- T.name,List.contains_eq_mem,ai,av])
      have a0:=lH (fun W3 (hk:Aa [] w W3) fb ty hf=>Uu u t seq (HM.o.small t (CD ht)) fb ty y3 av W3 (T.keeps hk) hf);have E:=lH F;have HN:=lH hN;have HX1:=lH hx1;have ao:=lH ht;have HY2:=lH ai;have HNM:=lH T.name;have J:=B;clear hI Y hk2 F hb hgd hu hN hat1 hx1 ht T B hg1 au ai av;have HSS:Hi (∀w':World,Aa [] W2 w'->(Aa [] W2 w'/\w'.cell? (A_ W 0)=some (pE pK u.slot)/\w'.cell? (A_ W 1)=some (pE pK u.gen)/\w'.cell? (A_ W 2)=some (Dz u.name)/\w'.cell? (A_ W 3)=some (pE pK u.state)/\w'.cell? (A_ W 4)=some (pE pK u.version)/\w'.cell? (A_ W 5)=some (pF u.ra u.rl u.rc)/\w'.cell? (A_ W 6)=some (pF u.ca u.cl u.cc)/\w'.cell? (A_ W 7)=some (pE pK u.deadline)/\w'.cell? (A_ W 8)=some (pE pK seq)/\w'.cell? (A_ w1 0)=some (pF (some (A_ g1 o1)) hs.length c)/\w'.cell? (A1 w2 0)=some (.map (some w2))/\w'.cell? (A_ g1 (o1+k*2))=some (pE pK hx)/\w'.cell? (A_ g1 (o1+k*2+1))=some (pE pK hy)/\(Ed 154 (.map (some w2)) (Dz u.name) false).run prog w' = .ok (pI y2) w'/\w'.cell? (A1 w 0)=some (pI false)/\w'.frozen? (A1 w 0)=false)):=lH fun w' hk=>⟨hk,(hk.cellsV _ _ d0),(hk.cellsV _ _ d1),(hk.cellsV _ _ d2),(hk.cellsV _ _ d3),(hk.cellsV _ _ d4),(hk.cellsV _ _ d5),(hk.cellsV _ _ d6),(hk.cellsV _ _ d7),(hk.cellsV _ _ d8),(hk.cellsV _ _ s0),(hk.cellsV _ _ m0),(hk.cellsV _ _ z0),(hk.cellsV _ _ z1),by rw [<- HY2.o];exact Un (E.o.mp.keeps hk bA) u.name,hk.cellsV _ _ q0,(J.keeps hk bA).frozen 0⟩;have D:=lH J;have U:Hi (JJ seq ((r.l.take k).map (·.name)) (hx,hy) t=false->De seq [] hs r.l=false):=lH (fun h=>ZM HX1.o ao.o h);have ck:w3.heap.size+1<W2.heap.size:=by omega
      clear d0 d1 d2 d3 d4 d5 d6 d7 d8 s0 m0 z0 z1 hlk q0 qf J;cases y1 with
      | false=>
       simp only [Bool.not_false] at hne;have HBD:Hi (De seq [] hs r.l=false):=lH (U.o kB);gi_wp2;refine BA (S:=(fun w':World=>Aa [] W2 w'/\w'.cell? (A_ W 0)=some (pE pK u.slot)/\w'.cell? (A_ W 1)=some (pE pK u.gen)/\w'.cell? (A_ W 2)=some (Dz u.name)/\w'.cell? (A_ W 3)=some (pE pK u.state)/\w'.cell? (A_ W 4)=some (pE pK u.version)/\w'.cell? (A_ W 5)=some (pF u.ra u.rl u.rc)/\w'.cell? (A_ W 6)=some (pF u.ca u.cl u.cc)/\w'.cell? (A_ W 7)=some (pE pK u.deadline)/\w'.cell? (A_ W 8)=some (pE pK seq)/\w'.cell? (A_ w1 0)=some (pF (some (A_ g1 o1)) hs.length c)/\w'.cell? (A1 w2 0)=some (.map (some w2))/\w'.cell? (A_ g1 (o1+k*2))=some (pE pK hx)/\w'.cell? (A_ g1 (o1+k*2+1))=some (pE pK hy)/\(Ed 154 (.map (some w2)) (Dz u.name) false).run prog w' = .ok (pI y2) w'/\w'.cell? (A1 w 0)=some (pI false)/\w'.frozen? (A1 w 0)=false)) bC bC (fun _ _ h=>h) bQ (fun hHeld=>?_);refine rQ 0 ?_;refine rQ 1 ?_;refine rQ 2 ?_;refine rQ 3 ?_;refine rQ 4 ?_;refine rQ 5 ?_;refine rQ 6 ?_;refine rQ 7 ?_;refine rQ 8 ?_;refine rN 9 ?_;refine rN 10 ?_;refine rN 11 ?_;refine rN 12 ?_;refine rN 13 ?_;refine rQ 14 ?_;refine rQ 15 ?_;refine rN 16 ?_;refine rN 17 ?_;refine rN 18 ?_;refine rN 19 ?_;refine rQ 20 ?_;refine wpAnyH_done bC ?_ _
       (gi_wp2;exact I3 (S:=[w.heap.size+1]) hHeld.1 (Ae _ (w+1) 0 (pI false)) bB bI bI ⟨HBD.o,(D.o.keeps hHeld.1 bA).set_ 0 (pI false),((HK2.o.trans E.o.kw).trans hHeld.1).own (Ae _ (w+1) 0 (pI false)) bF⟩)
      | true=>
       simp only [Bool.not_true] at hne;cases y2 with
       | true=>
        have HBD:Hi (De seq [] hs r.l=false):=lH (U.o kB);gi_wp2;refine BA (S:=(fun w':World=>Aa [] W2 w'/\w'.cell? (A_ W 0)=some (pE pK u.slot)/\w'.cell? (A_ W 1)=some (pE pK u.gen)/\w'.cell? (A_ W 2)=some (Dz u.name)/\w'.cell? (A_ W 3)=some (pE pK u.state)/\w'.cell? (A_ W 4)=some (pE pK u.version)/\w'.cell? (A_ W 5)=some (pF u.ra u.rl u.rc)/\w'.cell? (A_ W 6)=some (pF u.ca u.cl u.cc)/\w'.cell? (A_ W 7)=some (pE pK u.deadline)/\w'.cell? (A_ W 8)=some (pE pK seq)/\w'.cell? (A_ w1 0)=some (pF (some (A_ g1 o1)) hs.length c)/\w'.cell? (A1 w2 0)=some (.map (some w2))/\w'.cell? (A_ g1 (o1+k*2))=some (pE pK hx)/\w'.cell? (A_ g1 (o1+k*2+1))=some (pE pK hy)/\(Ed 154 (.map (some w2)) (Dz u.name) false).run prog w' = .ok (pI true) w'/\w'.cell? (A1 w 0)=some (pI false)/\w'.frozen? (A1 w 0)=false)) bC bC (fun _ _ h=>h) bQ (fun hHeld=>?_);refine rQ 0 ?_;refine rQ 1 ?_;refine rQ 2 ?_;refine rQ 3 ?_;refine rQ 4 ?_;refine rQ 5 ?_;refine rQ 6 ?_;refine rQ 7 ?_;refine rQ 8 ?_;refine rQ 9 ?_;refine rQ 10 ?_;refine rQ 11 ?_;refine rQ 12 ?_;refine rC 13 fun K hK=>?_;go_simp;refine rO hK bQ fun hHeld=>?_;clear hK K;refine rQ 14 ?_;refine rQ 15 ?_;refine rN 16 ?_;refine rN 17 ?_;refine rN 18 ?_;refine rN 19 ?_;refine rQ 20 ?_;refine wpAnyH_done bC ?_ _
        (gi_wp2;exact I3 (S:=[w.heap.size+1]) hHeld.1 (Ae _ (w+1) 0 (pI false)) bB bI bI ⟨HBD.o,(D.o.keeps hHeld.1 bA).set_ 0 (pI false),((HK2.o.trans E.o.kw).trans hHeld.1).own (Ae _ (w+1) 0 (pI false)) bF⟩)
       | false=>
        cases y3 with
        | false=>
         have HBD:Hi (De seq [] hs r.l=false):=lH (U.o kB);gi_wp2;refine BA (S:=(fun w':World=>Aa [] W2 w'/\w'.cell? (A_ W 0)=some (pE pK u.slot)/\w'.cell? (A_ W 1)=some (pE pK u.gen)/\w'.cell? (A_ W 2)=some (Dz u.name)/\w'.cell? (A_ W 3)=some (pE pK u.state)/\w'.cell? (A_ W 4)=some (pE pK u.version)/\w'.cell? (A_ W 5)=some (pF u.ra u.rl u.rc)/\w'.cell? (A_ W 6)=some (pF u.ca u.cl u.cc)/\w'.cell? (A_ W 7)=some (pE pK u.deadline)/\w'.cell? (A_ W 8)=some (pE pK seq)/\w'.cell? (A_ w1 0)=some (pF (some (A_ g1 o1)) hs.length c)/\w'.cell? (A1 w2 0)=some (.map (some w2))/\w'.cell? (A_ g1 (o1+k*2))=some (pE pK hx)/\w'.cell? (A_ g1 (o1+k*2+1))=some (pE pK hy)/\(Ed 154 (.map (some w2)) (Dz u.name) false).run prog w' = .ok (pI false) w'/\w'.cell? (A1 w 0)=some (pI false)/\w'.frozen? (A1 w 0)=false)) bC bC (fun _ _ h=>h) bQ (fun hHeld=>?_);refine rQ 0 ?_;refine rQ 1 ?_;refine rQ 2 ?_;refine rQ 3 ?_;refine rQ 4 ?_;refine rQ 5 ?_;refine rQ 6 ?_;refine rQ 7 ?_;refine rQ 8 ?_;refine rQ 9 ?_;refine rQ 10 ?_;refine rQ 11 ?_;refine rQ 12 ?_;refine rC 13 fun K hK=>?_;go_simp;refine rO hK bQ fun hHeld=>?_;clear hK K;refine rQ 14 ?_;refine rQ 15 ?_;refine rQ 16 ?_;refine rC 17 fun K hK=>?_;go_simp;refine rO hK bQ fun hHeld=>?_;clear hK K;refine rC 18 fun K hK=>?_;go_simp
         (refine(a0.o _ ((HK2.o.trans E.o.kw).trans hHeld.1) _ 168 (by first | exact Blk.new _ _ _ | exact(Blk.new _ _ _).drew)).mono ?_;rintro e5 w5 ⟨rfl,hk5⟩)
         refine rO hK bQ fun hHeld=>?_;clear hK K;refine rQ 19 ?_;refine rQ 20 ?_;refine wpAnyH_done bC ?_ _
         (gi_wp2;exact I3 (S:=[w.heap.size+1]) hHeld.1 (Ae _ (w+1) 0 (pI false)) bB bI bI ⟨HBD.o,(D.o.keeps hHeld.1 bA).set_ 0 (pI false),((HK2.o.trans E.o.kw).trans hHeld.1).own (Ae _ (w+1) 0 (pI false)) bF⟩)
        | true=>
         have a1:Hi (De seq [] (hs.take (AC k++[k]).length) (r.l.take (AC k++[k]).length)=true):=lH (by rw [Al,AP,Bp,P8 HX1.o ao.o,HN.o,HST.o];rfl);have ay:Hi ((r.l.take (AC k++[k]).length).map (·.name)=(r.l.take k).map (·.name)++[u.name]):=lH (by rw [Al,AP,Bp,A0 ao.o,pO,HNM.o];rfl);gi_wp2;refine BA (S:=(fun w':World=>Aa [] W2 w'/\w'.cell? (A_ W 0)=some (pE pK u.slot)/\w'.cell? (A_ W 1)=some (pE pK u.gen)/\w'.cell? (A_ W 2)=some (Dz u.name)/\w'.cell? (A_ W 3)=some (pE pK u.state)/\w'.cell? (A_ W 4)=some (pE pK u.version)/\w'.cell? (A_ W 5)=some (pF u.ra u.rl u.rc)/\w'.cell? (A_ W 6)=some (pF u.ca u.cl u.cc)/\w'.cell? (A_ W 7)=some (pE pK u.deadline)/\w'.cell? (A_ W 8)=some (pE pK seq)/\w'.cell? (A_ w1 0)=some (pF (some (A_ g1 o1)) hs.length c)/\w'.cell? (A1 w2 0)=some (.map (some w2))/\w'.cell? (A_ g1 (o1+k*2))=some (pE pK hx)/\w'.cell? (A_ g1 (o1+k*2+1))=some (pE pK hy)/\(Ed 154 (.map (some w2)) (Dz u.name) false).run prog w' = .ok (pI false) w'/\w'.cell? (A1 w 0)=some (pI false)/\w'.frozen? (A1 w 0)=false)) bC bC (fun _ _ h=>h) bQ (fun hHeld=>?_);refine rQ 0 ?_;refine rQ 1 ?_;refine rQ 2 ?_;refine rQ 3 ?_;refine rQ 4 ?_;refine rQ 5 ?_;refine rQ 6 ?_;refine rQ 7 ?_;refine rQ 8 ?_;refine rQ 9 ?_;refine rQ 10 ?_;refine rQ 11 ?_;refine rQ 12 ?_;refine rC 13 fun K hK=>?_;go_simp;refine rO hK bQ fun hHeld=>?_;clear hK K;refine rQ 14 ?_;refine rQ 15 ?_;refine rQ 16 ?_;refine rC 17 fun K hK=>?_;go_simp;refine rO hK bQ fun hHeld=>?_;clear hK K;refine rC 18 fun K hK=>?_;go_simp
         (refine(a0.o _ ((HK2.o.trans E.o.kw).trans hHeld.1) _ 168 (by first | exact Blk.new _ _ _ | exact(Blk.new _ _ _).drew)).mono ?_;rintro e5 w5 ⟨rfl,hk5⟩)
         refine rO hK bQ fun hHeld=>?_;clear hK K;refine rQ 19 ?_;refine rQ 20 ?_;refine wpAnyH_done bC ?_ _
         (obtain⟨o,cn,aq⟩:=Ve (E.o.mp.keeps hHeld.1 bA) u.name (of_decide_eq_false HY2.o);gi_wp2;exact FJ (S:=[w2.heap.size]) hHeld.1 (Ec _ w2 o) bB bI bI ⟨a1.o,by(rw [ay.o];exact⟨aq,(E.o.mx.keeps hHeld.1 bA).keeps (Ec _ w2 o) bA,(E.o.pb.keeps hHeld.1 bA).keeps (Ec _ w2 o) bG,(E.o.kw.trans hHeld.1).own (Ec _ w2 o) bF⟩)⟩)
     case done=>
      rintro W ⟨hN,hI⟩ ak hK;rw [AP] at hN;have bo:b=true:=by
       rw [<- HB.o];unfold I1;rw [an.o,HSQ.o,al.o];rw [Ak (by rw [am.o];exact Aw _),Ak (by rw [<- HM.o.t.len,HLN.o];exact Aw _)] at hN;rw [hN,decide_eq_true bB,decide_eq_true bB];rfl
      subst bo;have B:=N.o.keeps hI.kw bA;have q0:=B.ce 0;have qf:=B.frozen 0;have HI:=lH hI;have D:=lH B;clear hI hN B;gi_wp2;have hk3:=Ae W (w+1) 0 (pI true);have bl:(W.setCell (A1 w 0) (pI true)).heap[w3.heap.size]? = some (.deferred (some [])):=(hk3.block _ bB bI).trans hK;refine⟨by simp,.inl ⟨_,_,rfl,run_takeDeferred bl,?_⟩⟩;have hk4:=AG (S:=[w3.heap.size]) (W.setCell (A1 w 0) (pI true)) (.deferred none) (l:=w3.heap.size) bA;have d2:Blk (W.setCell (A1 w 0) (pI true)) (w+1) 4 #[pI true]:=by simpa using D.o.set_ 0 (pI true)
      have e2:=(d2.keeps hk4 bG).ce 0;exact⟨pI true,by simp [results,results37,go_sem,e2],rfl,(((HK2.o.trans HI.o.kw).own hk3 bF).own hk4 mS)⟩
     case stop=>
      rintro G W Y ⟨aj,B,hkw⟩ ak hK;have bm:b=false:=by
       rw [<- HB.o];unfold I1;rw [an.o,HSQ.o,al.o,aj,Bool.and_false]
      subst bm;have D:=lH B;have HKW:=lH hkw;have HSZ:=lH hsz;clear aj B hkw hsz;gi_wp2;have hsz:=HSZ.o;refine⟨by simp,.inl ⟨_,_,rfl,run_takeDeferred hK,?_⟩⟩;have hk4:=AG (S:=[w3.heap.size]) W (.deferred none) (l:=w3.heap.size) bA;have e2:=(D.o.keeps hk4 bG).ce 0;exact⟨pI false,by simp [results,results37,go_sem,e2],rfl,HKW.o.own hk4 mS⟩
theorem Sc{w:World}: ∀ {V:List TV} {L:List Ten},AX w V L->V.map (·.name)=L.map (·.name)
 | [],[],_=>rfl
 | v::V,t::L,h=>by rw [CR,CR,Sc h.2,h.1.name]
 | [],_::_,h=>h.elim
 | _::_,[],h=>h.elim
structure iQ(w:World)(v:B6)(gn un fn ln:Nat)(seq:Int)(ns:List ByteArray)(A:World):Prop where
 run:∃x,A.ownsRow (w.heap.size+5) 9 1 x ns.length (ns.flatMap Fd)∧Blk A (w.heap.size+1) 64 #[x]
 pb:Blk A (w.heap.size+1+1) 29 (R_ v gn un fn ln seq)
 kw:Aa [] w A
theorem iQ.keeps{w:World}{v:B6}{gn un fn ln:Nat}{seq:Int}{D:List ByteArray}{A B:World}{S:List Nat}(h:iQ w v gn un fn ln seq D A)(hk:Aa S A B)(hS:∀y∈S,w.heap.size+3<=y/\y<w.heap.size+5):iQ w v gn un fn ln seq D B:=by
 obtain⟨x,h1,h2⟩:=h.run;have hn:∀y,y<w.heap.size+3->y∉S:=fun y hy hm=>by have:=hS y hm;omega
 exact⟨⟨x,Ah h1 hk (fun g hg2 hm=>by have:=(h1.lt g hg2).1;have:=hS g hm;omega),h2.keeps hk (hn _ bB)⟩,h.pb.keeps hk (hn _ bB),h.kw.own hk bM⟩
theorem Vr(v:B6)(r:CJ)(gn un fn ln:Nat)(hln:v.lv.length=ln)(Y:ln<=1000)(seq:Int)(hsq:r.seq=seq)(w:World)(hl:AR BE 8 w v.la v.lc v.lv)(ht:AX w v.lv r.l):
  Calls prog 167 #[pH (R_ v gn un fn ln seq)] w fun x w'=>∃a c,x = pJ (pF a ln c)/\Kv w' a c (Bz r)/\w'.ownsRow w 9 1 (pF a ln c) (Bz r).length ((Bz r).flatMap Fd)/\Aa [] w w':=by
 subst hsq;obtain⟨seq,T⟩:=eX r.seq;have ab:=fun W=>FU v r gn un fn ln W;rw [T] at ab ⊢;refine(callsIn_wide (n:=9)).1 ?_;have HL:=lH hl;have HT:=lH ht;have HLN:=lH hln;have aj:=lH ab;clear hl ht hln ab T;refine callsIn_of_wp_marks func167 rfl trivial ?_ rfl;simp only [ntmps167,Cz,Av,D4,pL,pM,Bt,Bu,Cd,BD,BH,AL];gi_wp2_with fail;refine⟨trivial,(callsIn_wide.2 (aj.o _)).mono ?_⟩;rintro e w1 ⟨rfl,hw1⟩;gi_wp2_with fail;have hsz:w1.heap.size=w.heap.size+3:=by rw [<- hw1];simp
 have ad:iQ w v gn un fn ln seq [] w1:=by
  have hk:Aa [] w w1:=by rw [<- hw1];exact(((Aa.refl [] w).alloc _).alloc _).alloc _
  refine⟨⟨pF none 0 0,BQ _ _ _ _,?_⟩,?_,hk⟩<;>rw [<- hw1]
  ·exact(Ar _ _ _ _ bA).alloc _
  ·exact Ar _ _ _ _ bA
 have ai:=lH ad;clear ad hw1;refine Cc rfl bB (gf:=136) (lb:=#[pG (some (A2 w 0))]) rfl trivial (enters_of func136 bC rfl) (FV 8 (w+1+1) v.la v.lc ln v.lv HLN.o Y seq) (fun _=>rfl)
  (fun G A=>iQ w v gn un fn ln seq ((v.lv.take G.length).map (fun t:TV=>t.name)) A) (fun _ _=>False)
  (fun G A A' h hk=>h.keeps hk bF)
  (fun G A A' h hk=>h)
  (fun G A h=>⟨h.pb.cell 3,h.pb.cell 4,HL.o.keeps h.kw⟩) ai.o
  (fun k W=>(fun u:TV=>(({ tmps:=#[pH (R_ v gn un fn ln seq),p_ w 0,pF none 0 0,p1 w 0,UD,p_ W 0,pH (R_ v gn un fn ln seq),
     .func (.func 136) #[] #[pG (some (A2 w 0))],I_ (k:Int),pH (U_ u seq),UD,UD,UD,UD,UD,UD,UD],defers:=[] } : Act),W.alloc (.cells (U_ u seq) 166))) (v.lv.getD k tv0))
  (fun k W=>(Aa.refl [] W).alloc _) ?assign ?body ?done ?stop
 case assign=>
  intro l k W K hK;simp only [Mg];dsimp only at hK;generalize v.lv.getD k tv0=u at hK ⊢;gi_wp2;exact hK
 case body=>
  rintro l G k W W2 hI M U hk2;obtain⟨rfl,hkn⟩:=E8 M;obtain⟨u,hu⟩:∃u,v.lv[k]? = some u:=⟨_,Aq iV⟩;have hgd:v.lv.getD k tv0=u:=by rw [AO,hu];rfl
  dsimp only at hk2 ⊢;rw [hgd] at hk2 ⊢;rw [AP] at hI;have an:W.heap.size+1<=W2.heap.size:=by have:=hk2.size;rw [Eo] at this;exact this
  have J:=(hI.keeps ((Aa.refl [] W).alloc (.cells (U_ u seq) 166)) bA).keeps hk2 bF;have hb:=(Blk.new W 166 (U_ u seq)).keeps hk2 bI;have ac:Hi ((v.lv.take (AC k++[k]).length).map (·.name)=(v.lv.take k).map (·.name)++[u.name]):=lH (by rw [Al,AP,Bp,A0 hu,pO];rfl);obtain⟨ns,E⟩:=eX ((v.lv.take k).map (·.name));have ae:ns.length<=1000:=by rw [<- E,Bd,Ax];omega
  rw [E] at J ac;obtain⟨x,hrow,F⟩:=J.run;obtain⟨g,c,W3,N,B,hk3,al⟩:=CO (enc:=Fd) prog (t:=64) underlying64 Gl bE DY Ho hrow bB u.name bB 64;have d2:=hb.ce 2;have q0:=F.ce 0;have hgeS:=AZ hrow;have D:=F.keeps hk3 (fun hm=>by have:=hgeS _ hm;omega);have q3:=D.ce 0;have f3:=D.frozen 0;have O:=lH (D.set_ 0 (pF (some (A_ g 0)) (ns.length+1) c));obtain⟨m,hm⟩:=eX (ns.length+1);have HPB:=lH (J.pb.keeps hk3 (fun hm=>by have:=hgeS _ hm;omega));have HKW:=lH (J.kw.own hk3 jW);have HROW:=lH B;have HSZ:Hi (W2.heap.size<=W3.heap.size):=lH hk3.size;have ah:Hi (∀k∈[w1.heap.size,w1.heap.size+1],W3.heap[k]? = W2.heap[k]?):=lH (fun k hk=>hk3.block k mY (fun hm=>by have:=hgeS k hm;simp only [Ac,Ab,or_false] at hk;omega));rw [hm] at N O HROW;simp only [Fd] at N;clear hI M hk2 J hb hrow F ae B hk3 al hgeS D hm hgd hu E;gi_wp2_with (gi_at_builtin;refine EI _ rfl _ _ 64 rfl rfl rfl N ?_);have hk4:Aa [w.heap.size+1] W3 (W3.setCell (A1 w 0) (pF (some (A_ g 0)) m c)):=Ae _ _ _ _;have h9:=Ah HROW.o hk4 (fun g' ak hm'=>by have:=(HROW.o.lt g' ak).1;simp only [Ac,Ab,or_false] at hm';omega);refine⟨A8 HSZ.o hk4.size,fun y hy=>(hk4.block y mV iT).trans (ah.o y hy),?_⟩;show iQ w v gn un fn ln seq ((v.lv.take (AC k++[k]).length).map (fun t:TV=>t.name)) _;rw [ac.o];exact⟨⟨_,h9,O.o⟩,HPB.o.keeps hk4 bA,HKW.o.own hk4 bF⟩
 case done=>
  rintro W hI U hK;rw [AP,Ak lM] at hI;have X:Hi (v.lv.map (·.name)=Bz r):=lH (Sc HT.o);have HNL:Hi ((v.lv.map (·.name)).length=ln):=lH (by rw [Bd];exact HLN.o);obtain⟨ns,E⟩:=eX (v.lv.map (·.name));rw [E] at hI X HNL;obtain⟨x,hrow,F⟩:=hI.run;have q0:=F.ce 0;have HROW:=lH hrow;have HKW:=lH hI.kw;clear hI hrow F E;gi_wp2;refine⟨by simp,.inl ⟨_,_,rfl,run_takeDeferred hK,?_⟩⟩;have hk4:=AG (S:=[w1.heap.size]) W (.deferred none) (l:=w1.heap.size) bA;have aa:=Ah HROW.o hk4 (fun g hg hm=>by have:=(HROW.o.lt g hg).1;simp only [Ac,Ab,or_false] at hm;omega);obtain⟨a,c,rfl,am,_⟩:=AR.of_row DY aa;have B:=Ah HROW.o hk4 (fun g hg hm=>by have:=(HROW.o.lt g hg).1;simp only [Ac,Ab,or_false] at hm;omega);refine⟨_,by simp [results,results167,go_sem];rfl,?_⟩;exact⟨a,c,by rw [HNL.o],by rw [<- X.o];exact am,by rw [<- X.o,<- HNL.o];exact Bw B bB,HKW.o.own hk4 bF⟩
 case stop=>
  rintro G W M hX U hK;exact hX.elim
theorem eT(s t:Ten):decide (s=t)=(decide ((s.slot,s.gen)=(t.slot,t.gen))&&(decide (s.name=t.name)&&(decide (s.state=t.state)&&(decide (s.version=t.version)&&(decide (s.deadline=t.deadline)&&(decide (s.rules=t.rules)&&decide (s.creds=t.creds))))))):=by
 obtain⟨F,a2,G,J,M,N,O,a8⟩:=s;obtain⟨T,U,X,Y,b5,b6,b7,b8⟩:=t;rw [DI];simp only [Af,decide_eq_true_eq,Ten.mk.injEq,Prod.mk.injEq];constructor
 ·rintro⟨h1,h2,h3,h4,B,D,E,h8⟩;exact⟨⟨h1,h2⟩,h3,h4,B,h8,D,E⟩
 ·rintro⟨⟨h1,h2⟩,h3,h4,B,h8,D,E⟩;exact⟨h1,h2,h3,h4,B,D,E,h8⟩
theorem TF(p q:TV)(s t:Ten)(hs:s.rules.length<=1000/\s.creds.length<=1000)(ht:t.rules.length<=1000/\t.creds.length<=1000)(b:Bool)(hb:decide (s=t)=b)(w:World)(h:Cj w p s)(h2:Cj w q t):
  Calls prog 48 #[pH (T_ p),pH (T_ q)] w fun e w'=>e = pJ (pI b)/\Aa [] w w':=by
 obtain⟨wz,hwz⟩:=eX ((w.alloc (.cells (T_ p) 131)).alloc (.cells (T_ q) 131));have HZ:Hi (Aa [] w wz):=lH lY;have HB0:Hi (Blk wz w 131 (T_ p)):=lH kI;have HB1:Hi (Blk wz (w+1) 131 (T_ q)):=lH aF;rw [eT,<- h.slot,<- h.gen,<- h2.slot,<- h2.gen,<- h.name,<- h2.name,<- h.state,<- h2.state,<- h.version,<- h2.version,<- h.deadline,<- h2.deadline] at hb;obtain⟨y1,B⟩:=eX (decide ((p.slot,p.gen)=(q.slot,q.gen)));obtain⟨y2,D⟩:=eX (decide (p.name=q.name));obtain⟨y3,E⟩:=eX (decide (p.state=q.state));obtain⟨y4,F⟩:=eX (decide (p.version=q.version));obtain⟨y5,G⟩:=eX (decide (p.deadline=q.deadline));obtain⟨Y,J⟩:=eX (decide (s.rules=t.rules));obtain⟨y7,M⟩:=eX (decide (s.creds=t.creds));rw [B,D,E,F,G,J,M] at hb;have N:=lH (fun W (hk:Aa [] w W)=>cI p.ra q.ra p.rc q.rc s.rules t.rules p.rl q.rl h.rl h2.rl (by have:=h.rl;omega) (by have:=h2.rl;omega) Y J W (h.rs.keeps hk) (h2.rs.keeps hk));have O:=lH (fun W (hk:Aa [] w W)=>cH p.ca q.ca p.cc q.cc s.creds t.creds p.cl q.cl h.cl h2.cl (by have:=h.cl;omega) (by have:=h2.cl;omega) y7 M W (h.cs.keeps hk) (h2.cs.keeps hk));have HB:=lH hb;have hgd:prog.eqGuardType prog.depth 44=false:=bC;have T:=fun W=>Y4 p.slot q.slot p.gen q.gen W;rw [B] at T;have f2:(p.name.toList==q.name.toList)=y2:=by
  rw [<- D,DI];simp only [beq_iff_eq,decide_eq_true_eq];exact⟨fun e=>by by_cases hh:p.name=q.name;exact hh;exact absurd e (GR hh),fun e=>by rw [e]⟩
 have f3:(p.state==q.state)=y3:=by rw [<- E,DI];simp
 have f4:(p.version==q.version)=y4:=by rw [<- F,DI];simp
 have f5:(p.deadline==q.deadline)=y5:=by rw [<- G,DI];simp
 have d5:=HB0.o.ce 5;have U:=HB0.o.ce 6;have e5:=HB1.o.ce 5;have X:=HB1.o.ce 6;have d0:=HB0.o.ce 0;have d1:=HB0.o.ce 1;have d2:=HB0.o.ce 2;have d3:=HB0.o.ce 3;have d4:=HB0.o.ce 4;have d7:=HB0.o.ce 7;have e0:=HB1.o.ce 0;have e1:=HB1.o.ce 1;have e2:=HB1.o.ce 2;have e3:=HB1.o.ce 3;have e4:=HB1.o.ce 4;have e7:=HB1.o.ce 7;clear hs ht hb h h2 B D E F G J M;cases y1 with
 | false=>
  obtain rfl:b=false:=by rw [<- HB.o];simp
  go_enter func48,ntmps48;go_wp2;go_ret;exact⟨rfl,HZ.o⟩
 | true=>
  cases y2 with
  | false=>
   obtain rfl:b=false:=by rw [<- HB.o];simp
   go_enter func48,ntmps48;go_wp2;go_ret;exact⟨rfl,HZ.o⟩
  | true=>
   cases y3 with
   | false=>
    obtain rfl:b=false:=by rw [<- HB.o];simp
    go_enter func48,ntmps48;go_wp2;go_ret;exact⟨rfl,HZ.o⟩
   | true=>
    cases y4 with
    | false=>
     obtain rfl:b=false:=by rw [<- HB.o];simp
     go_enter func48,ntmps48;go_wp2;go_ret;exact⟨rfl,HZ.o⟩
    | true=>
     cases y5 with
     | false=>
      obtain rfl:b=false:=by rw [<- HB.o];simp
      go_enter func48,ntmps48;go_wp2;go_ret;exact⟨rfl,HZ.o⟩
     | true=>
      go_enter func48,ntmps48;go_wp2_with fail;refine(N.o _ HZ.o).mono ?_;rintro e w1 ⟨rfl,hk1⟩;have HK1:=lH (HZ.o.trans hk1);clear d0 d1 d2 d3 d4 d5 U d7 e0 e1 e2 e3 e4 e5 X e7;have U:=(HB0.o.keeps hk1 bA).ce 6;have X:=(HB1.o.keeps hk1 bA).ce 6;clear hk1 hwz;cases Y with
      | false=>
       obtain rfl:b=false:=by rw [<- HB.o];simp
       go_wp2;go_ret;exact⟨rfl,HK1.o⟩
      | true=>
       obtain rfl:b=y7:=by rw [<- HB.o];simp
       go_wp2_with fail;refine(O.o _ HK1.o).mono ?_;rintro e w2 ⟨rfl,hk2⟩;have HK2:=lH (HK1.o.trans hk2);clear hk2;go_wp2;go_ret;exact⟨rfl,HK2.o⟩
theorem Tu(a a2:Option Addr)(c c2:Nat)(V V2:List TV)(xs ys:List Ten)(n m:Nat)(hn:V.length=n)(hm:V2.length=m)(hL:n<=1000)(an:m<=1000)(T:∀t∈xs,t.rules.length<=1000/\t.creds.length<=1000)(E:∀t∈ys,t.rules.length<=1000/\t.creds.length<=1000)(r:Bool)(hr:decide (xs=ys)=r)(w:World)(h:AR BE 8 w a c V)(h2:AR BE 8 w a2 c2 V2)(F:AX w V xs)(G:AX w V2 ys):
  Calls prog 47 #[pF a n c,pF a2 m c2,.func (.func 48) #[] #[]] w fun e w'=>e = pJ (pI r)/\Aa [] w w':=by
 have J:Hi (xs.length=n):=lH (by rw [<- F.len];exact hn);have M:Hi (ys.length=m):=lH (by rw [<- G.len];exact hm);have HH:=lH h;have H2:=lH h2;have HT:=lH F;have aa:=lH G;have HN:=lH hn;have HM:=lH hm;have HR:=lH hr;have X:=lH T;have Y:=lH E;clear h h2 hn hm hr F G T E;by_cases hnm:n=m;rotate_left
 ·have f1:((n:Int) != (m:Int))=true:=by simp;omega
  obtain rfl:r=false:=by rw [<- HR.o];exact decide_eq_false (fun e=>hnm (by rw [<- J.o,<- M.o,e]))
  clear hnm;go_enter func47,ntmps47;go_wp2;go_ret;exact⟨rfl,Aa.refl [] w⟩
 subst hnm;go_enter func47,ntmps47;go_wp2;go_loopw [17] (fun i wr=>∃k:Nat,i = I_ k/\k<=n/\Hi (xs.take k=ys.take k)/\Hi (Aa [] w wr)) (fun i _=>n - (intOf i).toNat)
 case atStart=>exact⟨0,rfl,Ba _,lH rfl,lH (Aa.refl [] w)⟩
 case round=>
  obtain⟨k,rfl,hk,HP,HK⟩:=hrel;by_cases hlt:k<n
  ·obtain⟨g1,o1,p,rfl,hg1,hx1,hat1⟩:=(HH.o.keeps HK.o).at_k (k:=k) bO
   obtain⟨g2,o2,q,rfl,hg2,hx2,hat2⟩:=(H2.o.keeps HK.o).at_k (k:=k) fD;obtain⟨s,hs,N⟩:=HT.o.get? hx1;obtain⟨t,F,O⟩:=aa.o.get? hx2;have p0:=hat1 0 _ rfl;have p1:=hat1 1 _ rfl;have p2:=hat1 2 _ rfl;have p3:=hat1 3 _ rfl;have p4:=hat1 4 _ rfl;have p5:=hat1 5 _ rfl;have p6:=hat1 6 _ rfl;have p7:=hat1 7 _ rfl;rw [AT] at p0;have q0:=hat2 0 _ rfl;have q1:=hat2 1 _ rfl;have q2:=hat2 2 _ rfl;have q3:=hat2 3 _ rfl;have q4:=hat2 4 _ rfl;have q5:=hat2 5 _ rfl;have q6:=hat2 6 _ rfl;have q7:=hat2 7 _ rfl;rw [AT] at q0;have i1:(0:Int)<=(k:Int):=bB;have i2:(k:Int)<(n:Int):=bB;obtain⟨wz,hwz⟩:=eX ((wr.alloc (.cells (T_ p) 131)).alloc (.cells (T_ q) 131));have HZ:Hi (Aa [] wr wz):=lH (by rw [<- hwz];exact((Aa.refl [] wr).alloc _).alloc _);have B:Blk wz wr 131 (T_ p):=by rw [<- hwz];exact(Blk.new wr _ _).alloc _
   have D:Blk wz (wr+1) 131 (T_ q):=by rw [<- hwz];exact Ar _ _ _ _ bA
   have u0:=Ct q0 (.cells (T_ p) 131);have u1:=Ct q1 (.cells (T_ p) 131);have u2:=Ct q2 (.cells (T_ p) 131);have u3:=Ct q3 (.cells (T_ p) 131);have u4:=Ct q4 (.cells (T_ p) 131);have u5:=Ct q5 (.cells (T_ p) 131);have u6:=Ct q6 (.cells (T_ p) 131);have u7:=Ct q7 (.cells (T_ p) 131);obtain⟨y,hy⟩:=eX (decide (s=t));have HC:=lH (TF p q s t (X.o s (CD hs)) (Y.o t (CD F)) y hy wz (N.keeps (HK.o.trans HZ.o)) (O.keeps (HK.o.trans HZ.o)));have HX1:=lH hs;have HX2:=lH F;have HY:=lH hy;have HB0:=lH B;have HB1:=lH D;have z0:=B.ce 0;have x0:=D.ce 0;have z1:=B.ce 1;have x1:=D.ce 1;have z2:=B.ce 2;have x2:=D.ce 2;have z3:=B.ce 3;have x3:=D.ce 3;have z4:=B.ce 4;have x4:=D.ce 4;have z5:=B.ce 5;have x5:=D.ce 5;have z6:=B.ce 6;have x6:=D.ce 6;have z7:=B.ce 7;have x7:=D.ce 7;clear hat1 hat2 hg1 hg2 hx1 hx2 hs F N O hy B D;go_wp2_with fail;clear hwz;refine HC.o.mono ?_;rintro e w1 ⟨rfl,hk1⟩;have HK1:=lH ((HK.o.trans HZ.o).trans hk1);clear hk1 z0 x0 z1 x1 z2 x2 z3 x3 z4 x4 z5 x5 z6 x6 z7 x7 u0 u1 u2 u3 u4 u5 u6 u7 p0 p1 p2 p3 p4 p5 p6 p7 q0 q1 q2 q3 q4 q5 q6 q7;cases y with
   | true=>
    have U:Hi (xs.take (k+1)=ys.take (k+1)):=lH (by rw [A0 HX1.o,A0 HX2.o,HP.o,of_decide_eq_true HY.o]);go_wp2;go_roundw;case rel=>exact⟨k+1,by go_num,by omega,U,HK1⟩
    case measure=>simp [intOf];omega
   | false=>
    obtain rfl:r=false:=by
     rw [<- HR.o];refine decide_eq_false (fun e=>of_decide_eq_false HY.o ?_);have h1:=HX1.o;rw [e,HX2.o] at h1;injection h1 with h1
     exact h1.symm
    go_wp2;go_ret;exact⟨rfl,HK1.o⟩
  ·obtain rfl:k=n:=bB;obtain rfl:r=true:=by
    rw [<- HR.o];have:=HP.o;rw [Ak (by rw [J.o];exact Aw _),Ak (by rw [M.o];exact Aw _)] at this;exact decide_eq_true this
   go_wp2;go_ret;exact⟨rfl,HK.o⟩
theorem dZ(s t:CJ):decide (s=t)=(decide (s.slots=t.slots)&&(decide (s.seq=t.seq)&&decide (s.l=t.l))):=by
 obtain⟨B,a2,D⟩:=s;obtain⟨E,F,G⟩:=t;rw [DI];simp only [Af,decide_eq_true_eq,CJ.mk.injEq];constructor
 ·rintro⟨h1,h2,h3⟩;exact⟨h1,h3,h2⟩
 ·rintro⟨h1,h3,h2⟩;exact⟨h1,h2,h3⟩
theorem FC(v v2:B6)(r M:CJ)(gn un fn ln F J E D:Nat)(hg:r.slots.gens.length=gn)(hu:r.slots.used.length=un)(hf:r.slots.free.length=fn)(hln:v.lv.length=ln)(hg2:M.slots.gens.length=F)(Y:M.slots.used.length=J)(X:M.slots.free.length=E)(G:v2.lv.length=D)(seq B:Int)(hsq:r.seq=seq)(N:M.seq=B)(b:Bool)(hb:decide (r=M)=b)(w:World)(h:CH w v r)(h2:CH w v2 M):
  Calls prog 18 #[pH (R_ v gn un fn ln seq),pH (R_ v2 F J E D B)] w fun x w'=>x = pJ (pI b)/\Aa [] w w':=by
 obtain⟨wz,hwz⟩:=eX ((w.alloc (.cells (R_ v gn un fn ln seq) 29)).alloc (.cells (R_ v2 F J E D B) 29));have HZ:Hi (Aa [] w wz):=lH lY;have HB0:Hi (Blk wz w 29 (R_ v gn un fn ln seq)):=lH kI;have HB1:Hi (Blk wz (w+1) 29 (R_ v2 F J E D B)):=lH aF;rw [dZ,hsq,N] at hb;obtain⟨y1,O⟩:=eX (decide (r.slots=M.slots));obtain⟨y2,T⟩:=eX (decide (seq=B));obtain⟨y3,U⟩:=eX (decide (r.l=M.l));rw [O,T,U] at hb;have l1:ln<=1000:=by rw [<- hln,h.t.len];exact h.sl
 have l2:D<=1000:=by rw [<- G,h2.t.len];exact h2.sl
 have aa:=lH (fun W (hk:Aa [] w W)=>WV v.s v2.s r.slots M.slots gn un fn F J E hg hu hf hg2 Y X y1 O W (h.s.keeps hk) (h2.s.keeps hk));have ab:=lH (fun W (hk:Aa [] w W)=>Tu v.la v2.la v.lc v2.lc v.lv v2.lv r.l M.l ln D hln G l1 l2 h.small h2.small y3 U W (h.l.keeps hk) (h2.l.keeps hk) (h.t.keeps hk) (h2.t.keeps hk));have HB:=lH hb;have f2:(seq==B)=y2:=by rw [<- T,DI];simp
 have d0:=HB0.o.ce 0;have d1:=HB0.o.ce 1;have d2:=HB0.o.ce 2;have e0:=HB1.o.ce 0;have e1:=HB1.o.ce 1;have e2:=HB1.o.ce 2;clear hg hu hf hln hg2 Y X G hsq N hb h h2 O T U l1 l2;go_enter func18,ntmps18;go_wp2_with fail;clear hwz d0 d1 d2 e0 e1 e2;refine(aa.o _ HZ.o).mono ?_;rintro e w1 ⟨rfl,hk1⟩;have HK1:=lH (HZ.o.trans hk1);have d3:=(HB0.o.keeps hk1 bA).ce 3;have d4:=(HB0.o.keeps hk1 bA).ce 4;have e3:=(HB1.o.keeps hk1 bA).ce 3;have e4:=(HB1.o.keeps hk1 bA).ce 4;clear hk1;cases y1 with
 | false=>
  obtain rfl:b=false:=by rw [<- HB.o];simp
  go_wp2;go_ret;exact⟨rfl,HK1.o⟩
 | true=>
  cases y2 with
  | false=>
   obtain rfl:b=false:=by rw [<- HB.o];simp
   go_wp2;go_ret;exact⟨rfl,HK1.o⟩
  | true=>
   obtain rfl:b=y3:=by rw [<- HB.o];simp
   go_wp2_with fail;refine(ab.o _ HK1.o).mono ?_;rintro e w2 ⟨rfl,hk2⟩;have HK2:=lH (HK1.o.trans hk2);clear hk2;go_wp2;go_ret;exact⟨rfl,HK2.o⟩
def FY(n:Int):Value:=if n=0 then .nilIface else .iface 215 (pH #[pE pK n])
def K7(u:TV)(seq:Int)(c:FW)(now:Int):Array Value:=#[pE pK u.slot,pE pK u.gen,Dz u.name,pE pK u.state,pE pK u.version,pF u.ra u.rl u.rc,pF u.ca u.cl u.cc,pE pK u.deadline,pE pK seq,
 pE pK c.verb,Dz c.name,pE pK c.want,pE pK c.at_,pI c.rule.allow,pE pK c.rule.addr,pE pK c.rule.bits,pE pK c.rule.from_,pE pK c.rule.to_,Dz c.key,pE pK c.n,pE pK c.m,pE pK now]
def Dj(B:Nat)(a:Option Addr):Prop:=∀g o,a=some ⟨g,o,none⟩->B<=g
def Kx(B:Nat)(u:TV):Prop:=Dj B u.ra/\Dj B u.ca
theorem Dj.mono{B B':Nat}{a:Option Addr}(h:Dj B a)(hb:B'<=B):Dj B' a:=fun g o e=>A8 hb (h g o e)
theorem Dj.out{B:Nat}{a:Option Addr}(h:Dj B a){S:List Nat}(hS:∀y∈S,y<B):∀g o,a=some (A_ g o)->g∉S:=fun g o e hm=>by
 have:=h g o e;have:=hS g hm;omega
theorem Dj.none_(B:Nat):Dj B none:=fun _ _ e=>by cases e
theorem Kx.mono{B B':Nat}{u:TV}(h:Kx B u)(hb:B'<=B):Kx B' u:=⟨h.1.mono hb,h.2.mono hb⟩
def EY(B:Nat)(u u':TV):Prop:=((u'.ra=u.ra/\u'.rl=u.rl)\/Dj B u'.ra)/\((u'.ca=u.ca/\u'.cl=u.cl)\/Dj B u'.ca)
def Gt(cb:Nat)(u:TV)(seq:Int)(c:FW)(now:Int)(res:Ten×Int)(w:World):Ending->World->Prop:=fun e w'=>e = pJ (FY res.2)/\(res.2=0->∃u',Blk w' cb 223 (K7 u' seq c now)/\Cj w' u' res.1/\EY w.heap.size u u')/\Aa [cb] w w'
theorem Cj.keepsS{w w':World}{v:TV}{t:Ten}{S:List Nat}(h:Cj w v t)(hk:Aa S w w')(h1:∀g o,v.ra=some (A_ g o)->g∉S)(h2:∀g o,v.ca=some (A_ g o)->g∉S):Cj w' v t:={ h with rs:=h.rs.keepsS hk h1,cs:=h.cs.keepsS hk h2 }
def FX(cb:Nat)(u:TV):Prop:=(0<u.rl->∀g o,u.ra=some ⟨g,o,none⟩->g≠cb)/\(0<u.cl->∀g o,u.ca=some ⟨g,o,none⟩->g≠cb)
theorem AR.keepsN{α:Type}{enc:α->List Value}{n:Nat}{w w':World}{a:Option Addr}{c:Nat}{xs:List α}{S:List Nat}(h:AR enc n w a c xs)(hk:Aa S w w')(hS:0<xs.length->∀g off,a=some (A_ g off)->g∉S):AR enc n w' a c xs:=
 ⟨h.le,h.nil,fun h0=>by
  obtain⟨g,off,ha,hg,hc⟩:=h.at_ h0;exact⟨g,off,ha,BS hg hk.size,fun i hi j u hj=>(hk.cell (p:=A_ g (off+i*n+j)) hg (hS h0 g off ha)).trans (hc i hi j u hj)⟩⟩
theorem Cj.far{w w':World}{v:TV}{t:Ten}{cb:Nat}(h:Cj w v t)(hk:Aa [cb] w w')(hf:FX cb v):Cj w' v t:={ h with rs:=h.rs.keepsN hk (fun h0 g o e=>by simpa using hf.1 (by rw [<- h.rl];exact h0) g o e),cs:=h.cs.keepsN hk (fun h0 g o e=>by simpa using hf.2 (by rw [<- h.cl];exact h0) g o e) }
theorem Cj.src{w0 W w':World}{B:Nat}{u u':TV}{t t':Ten}{S:List Nat}(h0:Cj w0 u t)(h:Cj W u' t')(hs:EY B u u')(hk:Aa S W w')(hS:∀y∈S,w0.heap.size<=y/\y<B):Cj w' u' t':=
 { h with rs:=h.rs.keepsN hk (fun hp g o e hm=>by
   have hy:=hS g hm;rcases hs.1 with e1 | e1
   ·obtain⟨g',o',e',hl,_⟩:=h0.rs.at_ (by rw [h0.rl,<- e1.2,<- h.rl];exact hp)
    rw [<- e1.1,e] at e';injection e' with e';injection e' with e' _ _
    omega
   ·have:=e1 g o e;omega),cs:=h.cs.keepsN hk (fun hp g o e hm=>by
   have hy:=hS g hm;rcases hs.2 with e1 | e1
   ·obtain⟨g',o',e',hl,_⟩:=h0.cs.at_ (by rw [h0.cl,<- e1.2,<- h.cl];exact hp)
    rw [<- e1.1,e] at e';injection e' with e';injection e' with e' _ _
    omega
   ·have:=e1 g o e;omega) }
theorem FX.of{w:World}{v:TV}{t:Ten}{cb:Nat}(h:Cj w v t)(hc:w.heap.size<=cb):FX cb v:=
 ⟨fun h0 g o e=>by
  obtain⟨g',o',e',hl,_⟩:=h.rs.at_ (by rw [h.rl];exact h0);rw [e'] at e;injection e with e;injection e with e _ _
  omega,fun h0 g o e=>by
  obtain⟨g',o',e',hl,_⟩:=h.cs.at_ (by rw [h.cl];exact h0);rw [e'] at e;injection e with e;injection e with e _ _
  omega⟩
theorem QF(cb:Nat)(st:Int)(w:World):Calls prog 161 #[pG (some (A_ cb 0)),I_ st,pI false] w fun e w'=>e = pJ (.iface 215 (pH #[pE pK 156]))/\w=w':=by
 go_enter func161,ntmps161;go_wp2;go_ret;exact⟨rfl,rfl⟩
theorem Ob(cb:Nat)(u:TV)(seq:Int)(c:FW)(now st:Int)(w:World)(h:Blk w cb 223 (K7 u seq c now)):Calls prog 161 #[pG (some (A_ cb 0)),I_ st,pI true] w fun e w'=>e = pJ .nilIface/\Blk w' cb 223 (K7 { u with state:=st,deadline:=0 } seq c now)/\Aa [cb] w w':=by
 have B:=h.cell 3;have D:=h.cell 7;have E:=h.frozen 3;have F:=h.frozen 7;simp only [K7,An,Aj,Ao] at B D;have HB:Hi (Blk ((w.setCell (A_ cb 3) (I_ st)).setCell (A_ cb 7) (I_ 0)) cb 223 (K7 { u with state:=st,deadline:=0 } seq c now)):=lH ((h.set_ 3 (I_ st)).set_ 7 (I_ 0));have HK:Hi (Aa [cb] w ((w.setCell (A_ cb 3) (I_ st)).setCell (A_ cb 7) (I_ 0))):=lH ((Ae w cb 3 _).trans (Ae _ cb 7 _));clear h;go_enter func161,ntmps161;go_wp2;go_ret;exact⟨rfl,HB.o,HK.o⟩
theorem Mq(cb:Nat)(u:TV)(t:Ten)(seq:Int)(c:FW)(now:Int)(w:World)(h:Blk w cb 223 (K7 u seq c now))(B:Cj w u t)(hf:FX cb u):Calls prog 117 #[pG (some (A_ cb 0))] w (Gt cb u seq c now (if t.state≠2 then({ t with state:=2,deadline:=0 },0) else(t,156)) w):=by
 have F:=h.cell 3;simp only [K7,An,Aj,Ao] at F;have HB:=lH h;have E:=lH B;have D:=lH hf;have hst:=B.state;by_cases hs:u.state=2
 ·rw [if_neg (by rw [<- hst];simpa using hs)]
  have f1:(u.state != 2)=false:=by simpa using hs
  clear h B hf hst hs;go_enter func117,ntmps117;go_wp2_with fail;refine(QF cb 2 w).mono ?_;rintro e w1 ⟨rfl,rfl⟩;go_wp2;go_ret;exact⟨rfl,(fun e=>by cases e),Aa.refl _ _⟩
 ·rw [if_pos jY]
  have f1:(u.state != 2)=true:=by simpa using hs
  clear h B hf hst hs;go_enter func117,ntmps117;go_wp2_with fail;refine(Ob cb u seq c now 2 w HB.o).mono ?_;rintro e w1 ⟨rfl,hb,hk⟩;have HB1:=lH hb;have HK:=lH hk;clear hb hk;go_wp2;go_ret;exact⟨rfl,fun _=>⟨_,HB1.o,{ E.o.far HK.o D.o with state:=rfl,deadline:=rfl },⟨.inl ⟨rfl,rfl⟩,.inl ⟨rfl,rfl⟩⟩⟩,HK.o⟩
theorem Uj(cb:Nat)(u:TV)(t:Ten)(seq:Int)(c:FW)(now:Int)(w:World)(h:Blk w cb 223 (K7 u seq c now))(B:Cj w u t)(hf:FX cb u):Calls prog 199 #[pG (some (A_ cb 0))] w (Gt cb u seq c now (if t.state=2 then({ t with state:=1,deadline:=0 },0) else(t,156)) w):=by
 have F:=h.cell 3;simp only [K7,An,Aj,Ao] at F;have HB:=lH h;have E:=lH B;have D:=lH hf;have hst:=B.state;by_cases hs:u.state=2
 ·rw [if_pos jY]
  have f1:(u.state==2)=true:=by simpa using hs
  clear h B hf hst hs;go_enter func199,ntmps199;go_wp2_with fail;refine(Ob cb u seq c now 1 w HB.o).mono ?_;rintro e w1 ⟨rfl,hb,hk⟩;have HB1:=lH hb;have HK:=lH hk;clear hb hk;go_wp2;go_ret;exact⟨rfl,fun _=>⟨_,HB1.o,{ E.o.far HK.o D.o with state:=rfl,deadline:=rfl },⟨.inl ⟨rfl,rfl⟩,.inl ⟨rfl,rfl⟩⟩⟩,HK.o⟩
 ·rw [if_neg jY]
  have f1:(u.state==2)=false:=by simpa using hs
  clear h B hf hst hs;go_enter func199,ntmps199;go_wp2_with fail;refine(QF cb 1 w).mono ?_;rintro e w1 ⟨rfl,rfl⟩;go_wp2;go_ret;exact⟨rfl,(fun e=>by cases e),Aa.refl _ _⟩
theorem Jo(cb:Nat)(u:TV)(t:Ten)(seq:Int)(c:FW)(now:Int)(w:World)(h:Blk w cb 223 (K7 u seq c now))(B:Cj w u t):Calls prog 203 #[pG (some (A_ cb 0))] w (Gt cb u seq c now (t,0) w):=by
 have HB:=lH h;have D:=lH B;clear h B;go_enter func203,ntmps203;go_wp2;go_ret;exact⟨rfl,fun _=>⟨u,HB.o,D.o,⟨.inl ⟨rfl,rfl⟩,.inl ⟨rfl,rfl⟩⟩⟩,Aa.refl _ _⟩
theorem Kk(n:Int)(w:World):Calls prog 239 #[pE pK n] w fun e w'=>e = pJ (FY n)/\w=w':=by
 by_cases h:n=0
 ·subst h
  go_enter func239,ntmps239;go_wp2;go_ret;exact⟨rfl,rfl⟩
 ·have f1:(n != 0)=true:=bK;simp only [FY,if_neg h];clear h;go_enter func239,ntmps239;go_wp2;go_ret;exact⟨rfl,rfl⟩
theorem Blk.put4{w:World}{g:Nat}{t:TypeId}{x0 x1 x2 x3:Value}(h:Blk w g t #[x0,x1,x2,x3])(a b c d:Value):Blk ((((w.setCell (A_ g 0) a).setCell (A_ g 1) b).setCell (A_ g 2) c).setCell (A_ g 3) d) g t #[a,b,c,d]:=(((h.set_ 0 a).set_ 1 b).set_ 2 c).set_ 3 d
theorem Iv(w:World)(g:Nat)(a b c d:Value):Aa [g] w ((((w.setCell (A_ g 0) a).setCell (A_ g 1) b).setCell (A_ g 2) c).setCell (A_ g 3) d):=(G5 w g a b c).trans (Ae _ g 3 d)
def F6(now ov:Int)(c:El):El:=if c.to_<=now then⟨0,⟨#[]⟩,0,0⟩ else { c with to_:=if now+ov<c.to_ then now+ov else c.to_ }
theorem N3(l:List El)(now ov:Int):Cq l now ov=l.filterMap fun c=>if(F6 now ov c).from_<(F6 now ov c).to_ then some (F6 now ov c) else none:=by
 unfold Cq
 congr 1
 funext c
 unfold F6;split
 ·simp
 ·rfl
theorem N2{L:List El}{k:Nat}{c:El}(h:L[k]? = some c)(now ov:Int):Cq (L.take (k+1)) now ov=Cq (L.take k) now ov++(if(F6 now ov c).from_<(F6 now ov c).to_ then [F6 now ov c] else []):=by
 rw [N3,N3,A0 h,List.filterMap_append]
 congr 1
 by_cases hl:(F6 now ov c).from_<(F6 now ov c).to_<;>simp [hl]
theorem Pk(L:List El)(now ov:Int):(Cq L now ov).length<=L.length:=List.length_filterMap_le _ _
theorem WA{L:List El}{k:Nat}{c:El}(h:L[k]? = some c):DO (L.take (k+1))=c.id+1:=by
 rw [A0 h];simp [DO]
theorem Z9(c:El)(D nb ob:Nat)(i0 now ov:Int)(hi:wrap64 (c.id+1)=c.id+1)(hs:IntKind.i64.wrap (now+ov)=now+ov)(w:World)(h:Blk w D 3 #[pE pK i0])(hn:w.cell? (A_ nb 0)=some (I_ now))(ho:w.cell? (A_ ob 0)=some (I_ ov))(hne:nb≠D)(ac:ob≠D):
  Calls prog 238 #[pH #[pE pK c.id,Dz c.key,I_ c.from_,I_ c.to_],p_ D 0,p_ nb 0,p_ ob 0] w
   fun e w'=>e = pJ (pH #[pE pK (F6 now ov c).id,Dz (F6 now ov c).key,I_ (F6 now ov c).from_,I_ (F6 now ov c).to_])/\Blk w' D 3 #[pE pK (c.id+1)]/\Aa [D] w w':=by
 obtain⟨i,O,J,F⟩:=c;dsimp only at hi ⊢;obtain⟨wz,hwz⟩:=eX ((w.alloc (.cells #[pE pK i,Dz O,I_ J,I_ F] 209)).alloc (.cells #[pE pK 0,Dz ⟨#[]⟩,I_ 0,I_ 0] 209));have B:Aa [] w wz:=by rw [<- hwz];exact((Aa.refl [] w).alloc _).alloc _
 have M:Blk wz w 209 #[pE pK i,Dz O,I_ J,I_ F]:=by rw [<- hwz];exact(Blk.new w _ _).alloc _
 have U:Blk wz (w+1) 209 #[pE pK 0,Dz ⟨#[]⟩,I_ 0,I_ 0]:=by rw [<- hwz];exact Ar _ _ _ _ bA
 have X:=h.lt;have hI:=h.keeps B bA;have hnl:=Be w _ hn;have N:=Be w _ ho;have hk1:=Ae wz D 0 (I_ (i+1));have G:=M.keeps hk1 bI;have E:=U.keeps hk1 bI;have p0:=hI.ce 0;have pf:=hI.frozen 0;have z0:=M.ce 0;have c0:=G.ce 0;have c1:=G.ce 1;have c2:=G.ce 2;have c3:=G.ce 3;have f3:=G.frozen 3;have d0:=E.ce 0;have d1:=E.ce 1;have d2:=E.ce 2;have d3:=E.ce 3;have g0:=E.frozen 0;have g1:=E.frozen 1;have g2:=E.frozen 2;have g3:=E.frozen 3;have n1:=(hk1.cell (p:=A_ nb 0) (BS hnl B.size) aV).trans ((B.cell (p:=A_ nb 0) hnl bA).trans hn);have o1:=(hk1.cell (p:=A_ ob 0) (BS N B.size) (by simpa using ac)).trans ((B.cell (p:=A_ ob 0) N bA).trans ho);have HB1:Hi (Blk (wz.setCell (A_ D 0) (I_ (i+1))) D 3 #[pE pK (i+1)]):=lH (by simpa using hI.set_ 0 (I_ (i+1)));have aj:=lH G;have ak:=lH E;have HK0:=lH B;have HK1:Hi (Aa [D] w (wz.setCell (A_ D 0) (I_ (i+1)))):=lH ((B.mono bA).trans hk1);have T:=lH X;have al:Hi (wz.heap.size=w.heap.size+1+1):=lH gA;clear h hn ho B M U hI hk1 G E X hnl N;have x1:¬w.heap.size=w.heap.size+1:=bB;by_cases hto:F<=now
 ·have Y:F6 now ov ⟨i,O,J,F⟩=⟨0,⟨#[]⟩,0,0⟩:=by unfold F6;rw [if_pos hto]
  rw [Y];clear Y;go_enter func238,ntmps238;go_wp2_with fail;exact bodyPost_ret (v:=pH #[pE pK 0,Dz ⟨#[]⟩,I_ 0,I_ 0]) (by simp [results,results238,go_sem,d0,d1,d2,d3]) rfl ⟨rfl,HB1.o.keeps (Iv _ (w+1) _ _ _ _) (by have:=T.o;simp only [Ac,Ab,or_false];omega),HK1.o.trans' (Iv _ (w+1) _ _ _ _) (fun y hy=>by simp only [Ac,Ab,or_false] at hy;exact .inr bB)⟩
 ·obtain⟨m,hm⟩:=eX ((if now+ov<F then now+ov else F))
  have Y:F6 now ov ⟨i,O,J,F⟩=⟨i,O,J,m⟩:=by unfold F6;rw [if_neg hto,hm]
  rw [Y];have ai:(if now+ov<F then now+ov else F)=m:=hm;clear Y hm;go_enter func238,ntmps238;go_wp2_with fail;have hkk:Aa [w.heap.size,w.heap.size+1] (wz.setCell (A_ D 0) (I_ (i+1))) (((((((wz.setCell (A_ D 0) (I_ (i+1))).setCell (A_ w 3) (I_ m)).setCell (A1 w 0) (I_ i)).setCell (A1 w 1) (Dz O)).setCell (A1 w 2) (I_ J)).setCell (A1 w 3) (I_ m))):=((Ae _ w 3 _).mono bA).trans ((Iv _ (w+1) _ _ _ _).mono bA);have hd:∀y∈[w.heap.size,w.heap.size+1],w.heap.size<=y:=fun y hy=>by simp only [Ac,Ab,or_false] at hy;omega
  exact bodyPost_ret (v:=pH #[pE pK i,Dz O,I_ J,I_ m]) (by simp [results,results238,go_sem,d0,d1,d2,d3]) rfl ⟨rfl,HB1.o.keeps hkk (fun hm=>by have:=hd _ hm;have:=T.o;omega),HK1.o.trans' hkk (fun y hy=>.inr (hd y hy))⟩
theorem ON:D1 (prog.info? 209) 4=true:=bC
theorem Ra(a:Option Addr)(c:Nat)(L:List El)(n:Nat)(hn:L.length=n)(hL:n<=1000)(ib nb ob:Nat)(now ov:Int)(hid:∀x∈L,-1000000000000<=x.id/\x.id<=1000000000000)(hs:IntKind.i64.wrap (now+ov)=now+ov)(w:World)(h:Hg w a c L)(hi:Blk w ib 3 #[pE pK 1])(aj:w.cell? (A_ nb 0)=some (I_ now))(al:w.cell? (A_ ob 0)=some (I_ ov))(hne:nb≠ib)(am:ob≠ib)(ak:0<n->∀g o,a=some (A_ g o)->g≠ib):
  Calls prog 237 #[pF a n c,.func (.func 238) #[] #[pG (some (A_ ib 0)),p_ nb 0,p_ ob 0]] w
   fun e w'=>∃u,e = pJ u/\w'.ownsRow w 209 4 u (Cq L now ov).length ((Cq L now ov).flatMap BT)/\Blk w' ib 3 #[pE pK (DO L)]/\Aa [ib] w w':=by
 have HH:=lH h;have HN:=lH hn;have HID:=lH hid;have aa:=lH aj;have ab:=lH al;have aw:=lH ak;have av:Hi (Blk w ib 3 #[pE pK (DO (L.take 0))]):=lH hi;have ag:=lH hi.lt;have U:=lH (Bl hne am);have HSS:=lH hs;clear h hn hid aj al ak hi hne am hs;go_enter func237,ntmps237;go_wp2;go_loopw [10,5] (fun i u wr=>∃k:Nat,i = I_ k/\k<=n/\Hi (wr.ownsRow w 209 4 u (Cq (L.take k) now ov).length ((Cq (L.take k) now ov).flatMap BT))/\Hi (Blk wr ib 3 #[pE pK (DO (L.take k))])/\Hi (Aa [ib] w wr)) (fun i _ _=>n - (intOf i).toNat)
 case atStart=>exact⟨0,rfl,Ba _,lH (BQ _ _ _ _),av,lH (Aa.refl _ _)⟩
 case round=>
  obtain⟨k,rfl,hk,HR,HB,HK⟩:=hrel;by_cases hlt:k<n
  ·obtain⟨g,off,⟨i,ky,fr,tt⟩,rfl,hg,hx,hat⟩:=HH.o.at_k (k:=k) bO
   have q0:=hat 0 (I_ i) rfl;have q1:=hat 1 (Dz ky) rfl;have q2:=hat 2 (I_ fr) rfl;have q3:=hat 3 (I_ tt) rfl;have G:g≠ib:=aw.o bB g off rfl;rw [AT] at q0;rw [<- HK.o.cell (p:=A_ g (off+k*4)) hg (by simpa using G)] at q0;rw [<- HK.o.cell (p:=A_ g (off+k*4+1)) hg (by simpa using G)] at q1;rw [<- HK.o.cell (p:=A_ g (off+k*4+2)) hg (by simpa using G)] at q2;rw [<- HK.o.cell (p:=A_ g (off+k*4+3)) hg (by simpa using G)] at q3;have i1:(0:Int)<=(k:Int):=bB;have i2:(k:Int)<(n:Int):=bB;have HX:=lH hx;have hk0:=(Aa.refl [] wr).alloc (.cells #[pE pK i,Dz ky,I_ fr,I_ tt] 209);have F:=lH (Blk.new wr 209 #[pE pK i,Dz ky,I_ fr,I_ tt]);have HK0:=lH hk0;have ax:Hi (wrap64 (i+1)=i+1):=lH (by have:=HID.o _ (CD hx);dsimp only at this;exact IntWalk.wrap64_in _ ⟨by omega,by omega⟩);have d0:=F.o.ce 0;have d1:=F.o.ce 1;have d2:=F.o.ce 2;have d3:=F.o.ce 3;have Y:Hi (ib<wr.heap.size):=lH HB.o.lt;clear hat hg G hx hk0;go_wp2_with fail;refine(Z9 ⟨i,ky,fr,tt⟩ ib nb ob (DO (L.take k)) now ov ax.o HSS.o _ (HB.o.keeps HK0.o bA) ((HK0.o.cell (p:=A_ nb 0) (BS (Be w _ aa.o) HK.o.size) bA).trans ((HK.o.cell (p:=A_ nb 0) (Be w _ aa.o) (by simpa using U.o.1)).trans aa.o)) ((HK0.o.cell (p:=A_ ob 0) (BS (Be w _ ab.o) HK.o.size) bA).trans ((HK.o.cell (p:=A_ ob 0) (Be w _ ab.o) (by simpa using U.o.2)).trans ab.o)) U.o.1 U.o.2).mono ?_;rintro e w1 ⟨rfl,hb1,hk1⟩;clear d0 d1 d2 d3 q0 q1 q2 q3;obtain⟨⟨ti,tk,tf,T⟩,hT⟩:∃t,F6 now ov ⟨i,ky,fr,tt⟩=t:=⟨_,rfl⟩;rw [hT];dsimp only;have B:=F.o.keeps hk1 (by have:=Y.o;simp only [Ac,Ab,or_false];omega);have d0:=B.ce 0;have d1:=B.ce 1;have d2:=B.ce 2;have d3:=B.ce 3;have f0:=B.frozen 0;have f1:=B.frozen 1;have f2:=B.frozen 2;have f3:=B.frozen 3;have HT:=lH hT;obtain⟨w2,E⟩:=eX ((((w1.setCell (A_ wr 0) (I_ ti)).setCell (A_ wr 1) (Dz tk)).setCell (A_ wr 2) (I_ tf)).setCell (A_ wr 3) (I_ T));have hk2:Aa [wr.heap.size] w1 w2:=by rw [<- E];exact Iv _ _ _ _ _ _
   have D:Blk w2 wr 209 #[pE pK ti,Dz tk,I_ tf,I_ T]:=by rw [<- E];exact B.put4 _ _ _ _
   have J:Aa [ib] wr w2:=((HK0.o.mono bA).trans hk1).trans' hk2 (fun y hy=>.inr gB);have M:=Ah HR.o J (fun g9 a1 hm=>by
    simp only [Ac,Ab,or_false] at hm;have h1:=(HR.o.lt g9 a1).1;have:=ag.o;omega)
   have HROW:=lH M;have HB2:Hi (Blk w2 ib 3 #[pE pK (DO (L.take (k+1)))]):=lH (by rw [WA HX.o];exact hb1.keeps hk2 (by have:=Y.o;simp only [Ac,Ab,or_false];omega));have HK2:Hi (Aa [ib] w w2):=lH (HK.o.trans J);have e0:=D.ce 0;have e1:=D.ce 1;have e2:=D.ce 2;have e3:=D.ce 3;clear B hk1 hb1 hk2 D J M hT;by_cases hlo:tf<T
   ·have X:Hi (Cq (L.take (k+1)) now ov=Cq (L.take k) now ov++[⟨ti,tk,tf,T⟩]):=lH (by rw [N2 HX.o,HT.o,if_pos hlo])
    obtain⟨ys,ad⟩:=eX (Cq (L.take k) now ov);have a3:ys.length<=k:=by rw [<- ad];exact A8 (Pk _ _ _) nP
    rw [ad] at HROW X;obtain⟨g9,c9,w9,O,N,hk9,ai⟩:=CO (enc:=BT) prog (t:=129) underlying129 ON bE D0 Iq HROW.o (HK2.o.size) ⟨ti,tk,tf,T⟩ bB 129;have HR9:Hi (w9.ownsRow w 209 4 (pF (some (A_ g9 0)) (ys.length+1) c9) (Cq (L.take (k+1)) now ov).length ((Cq (L.take (k+1)) now ov).flatMap BT)):=lH (by rw [X.o];exact N);have ac:=AZ HROW.o;have au:=lH (HB2.o.keeps hk9 (fun hm=>by have:=ac _ hm;have:=ag.o;omega));have HK9:Hi (Aa [ib] w w9):=lH (HK2.o.trans' hk9 (fun y hy=>.inr (ac y hy)));simp only [BT] at O;have hsz:w2.heap.size=w1.heap.size:=by rw [<- E];simp [World.setCell]
    rw [hsz,<- E] at O;rw [<- E] at e2 e3;clear hsz;clear N hk9 ai ac E ad a3 e0 e1;go_wp2_with (first | (at_builtin;refine Au _ rfl _ _ 129 rfl rfl rfl O ?_) | fail);go_roundw;case rel=>exact⟨k+1,by go_num,by omega,HR9,au,HK9⟩
    case measure=>simp [intOf];omega
   ·have X:Hi (Cq (L.take (k+1)) now ov=Cq (L.take k) now ov):=lH (by rw [N2 HX.o,HT.o,if_neg hlo,List.append_nil])
    rw [<- X.o] at HROW;rw [<- E] at HROW HB2 HK2 e2 e3;clear E e0 e1;go_wp2_with fail;go_roundw;case rel=>exact⟨k+1,by go_num,by omega,HROW,HB2,HK2⟩
    case measure=>simp [intOf];omega
  ·obtain rfl:k=n:=bB;have ht:L.take k=L:=Ak bL;rw [ht] at HR HB;clear ht;go_wp2;go_ret;exact⟨_,rfl,HR.o,HB.o,HK.o⟩
def Yr(n:Int):Value:=if n=0 then .nilIface else .iface 381 (pH #[pE pK n])
def DG(B:Nat)(w:World)(u:Value)(l:List El):Prop:=∃a c,u = pF a l.length c/\Hg w a c l/\∀g o,a=some ⟨g,o,none⟩->B<=g
theorem DG.none_(B:Nat)(w:World):DG B w (pF none 0 0) []:=⟨none,0,rfl,AR.none_,fun _ _ e=>by cases e⟩
theorem DG.of_row{w:World}{B B':Nat}{u:Value}{l:List El}(h:w.ownsRow B 209 4 u l.length (l.flatMap BT))(hb:B'<=B):DG B' w u l:=by
 obtain⟨a,c,rfl,hs,hg⟩:=AR.of_row D0 h;exact⟨a,c,rfl,hs,fun g o e=>A8 hb (hg g o e)⟩
theorem DG.keeps{B:Nat}{w w':World}{u:Value}{l:List El}(h:DG B w u l)(hk:Aa [] w w'):DG B w' u l:=by
 obtain⟨a,c,h1,h2,h3⟩:=h;exact⟨a,c,h1,h2.keeps hk,h3⟩
theorem Ul(a:Option Addr)(c:Nat)(L:List El)(n:Nat)(hn:L.length=n)(hL:n<=1000)(key:ByteArray)(now ov span:Int)(B:Hi ((DK L&&(Ns key&&(Em now 0 1000000000000&&(Em ov 0 1000000000&&(Em span 1 1000000000&&decide (now+span<=1000000000000))))))=false))(w:World)(h:Hg w a c L):
  Calls prog 197 #[pF a n c,Dz key,I_ now,I_ ov,I_ span] w (fun e w'=>∃u,e = pJ (.tuple #[u,I_ (Bk L key now ov span).2.1,Yr (Bk L key now ov span).2.2])/\DG w w' u (Bk L key now ov span).1/\Aa [] w w'):=by
 obtain⟨wz,hwz⟩:=eX ((w.alloc (.cells #[pE pK now] 3)).alloc (.cells #[pE pK ov] 3));have G:Aa [] w wz:=by rw [<- hwz];exact((Aa.refl [] w).alloc _).alloc _
 have T:Blk wz w 3 #[pE pK now]:=by rw [<- hwz];exact(Blk.new w _ _).alloc _
 have U:Blk wz (w+1) 3 #[pE pK ov]:=by rw [<- hwz];exact Ar _ _ _ _ bA
 obtain⟨N,hb1⟩:=eX (DK L);obtain⟨O,hb2⟩:=eX (Ns key);obtain⟨p1,D⟩:=eX (Em now 0 1000000000000);obtain⟨p2,E⟩:=eX (Em ov 0 1000000000);obtain⟨p3,F⟩:=eX (Em span 1 1000000000);have HR:=lH (fun W (hkk:Aa [] wz W)=>Kb a c L n hn bB N hb1 W (h.keeps (G.trans hkk)));have Y:Hi (Bk L key now ov span=([],0,if N then if O then 2 else 50 else 110)):=lH (by
  have hx:=B.out;rw [hb1,hb2,D,E,F] at hx;unfold Bk;rw [hb1,hb2,D,E,F];cases N<;>cases O<;>simp only [Bool.false_eq_true,if_false,if_true,DJ,EJ] at hx ⊢;rw [hx];rfl)
 have J:Hi ((N&&(O&&(p1&&(p2&&(p3&&decide (now+span<=1000000000000))))))=false):=lH (by rw [<- hb1,<- hb2,<- D,<- E,<- F];exact B.out);have H2:=lH hb2;have HP1:=lH D;have X:=lH E;have M:=lH F;have HK0:=lH G;have HB0:=lH T;have HB1:=lH U;clear h hn hb1 hb2 D E F G T U B;rw [Y.o];dsimp only;go_enter func197,ntmps197;go_wp2_with fail;refine(HR.o wz (Aa.refl [] wz)).mono ?_;rintro e w1 ⟨rfl,hk1⟩;have HK1:=lH (HK0.o.trans hk1);have c0:=(HB0.o.keeps hk1 bA).ce 0;have c1:=(HB1.o.keeps hk1 bA).ce 0;clear hk1 hwz;cases N with
 | false=>
  go_wp2_with fail;exact bodyPost_ret (v:=.tuple #[pF none 0 0,I_ 0,.iface 381 (pH #[pE pK 110])]) (by simp [results,results197,go_sem]) rfl ⟨_,rfl,DG.none_ _ _,HK1.o⟩
 | true=>
  go_wp2_with fail;refine(Kf key O H2.o _).mono ?_;rintro e w2 ⟨rfl,rfl⟩;cases O with
  | false=>
   go_wp2_with fail;exact bodyPost_ret (v:=.tuple #[pF none 0 0,I_ 0,.iface 381 (pH #[pE pK 50])]) (by simp [results,results197,go_sem]) rfl ⟨_,rfl,DG.none_ _ _,HK1.o⟩
  | true=>
   go_wp2_with fail;refine(G3 now _ _ p1 HP1.o _).mono ?_;rintro e w2 ⟨rfl,rfl⟩;cases p1 with
   | false=>
    go_wp2_with fail;exact bodyPost_ret (v:=.tuple #[pF none 0 0,I_ 0,.iface 381 (pH #[pE pK 2])]) (by simp [results,results197,go_sem]) rfl ⟨_,rfl,DG.none_ _ _,HK1.o⟩
   | true=>
    go_wp2_with fail;refine(G3 ov _ _ p2 X.o _).mono ?_;rintro e w2 ⟨rfl,rfl⟩;cases p2 with
    | false=>
     go_wp2_with fail;exact bodyPost_ret (v:=.tuple #[pF none 0 0,I_ 0,.iface 381 (pH #[pE pK 2])]) (by simp [results,results197,go_sem]) rfl ⟨_,rfl,DG.none_ _ _,HK1.o⟩
    | true=>
     go_wp2_with fail;refine(G3 span _ _ p3 M.o _).mono ?_;rintro e w2 ⟨rfl,rfl⟩;cases p3 with
     | false=>
      go_wp2_with fail;exact bodyPost_ret (v:=.tuple #[pF none 0 0,I_ 0,.iface 381 (pH #[pE pK 2])]) (by simp [results,results197,go_sem]) rfl ⟨_,rfl,DG.none_ _ _,HK1.o⟩
     | true=>
      have i9:(1000000000000:Int)<now+span:=by
       have:=J.o;simp only [DJ] at this;have:=of_decide_eq_false this;omega
      have aa:IntKind.i64.wrap (now+span)=now+span:=by
       have h1:=HP1.o;have h3:=M.o;unfold Em at h1 h3;simp only [Af,decide_eq_true_eq] at h1 h3;exact IntWalk.i64_in _ bB
      go_wp2_with fail;exact bodyPost_ret (v:=.tuple #[pF none 0 0,I_ 0,.iface 381 (pH #[pE pK 2])]) (by simp [results,results197,go_sem]) rfl ⟨_,rfl,DG.none_ _ _,HK1.o⟩
theorem WQ(a:Option Addr)(c:Nat)(L:List El)(n:Nat)(hn:L.length=n)(hL:n<=1000)(key:ByteArray)(now ov span:Int)(hb1:DK L=true)(hb2:Ns key=true)(J:Em now 0 1000000000000=true)(M:Em ov 0 1000000000=true)(N:Em span 1 1000000000=true)(ad:now+span<=1000000000000)(w:World)(h:Hg w a c L):
  Calls prog 197 #[pF a n c,Dz key,I_ now,I_ ov,I_ span] w (fun e w'=>∃u,e = pJ (.tuple #[u,I_ (Bk L key now ov span).2.1,Yr (Bk L key now ov span).2.2])/\DG w w' u (Bk L key now ov span).1/\Aa [] w w'):=by
 obtain⟨wz,hwz⟩:=eX ((w.alloc (.cells #[pE pK now] 3)).alloc (.cells #[pE pK ov] 3));have X:Aa [] w wz:=by rw [<- hwz];exact((Aa.refl [] w).alloc _).alloc _
 have aa:Blk wz w 3 #[pE pK now]:=by rw [<- hwz];exact(Blk.new w _ _).alloc _
 have ab:Blk wz (w+1) 3 #[pE pK ov]:=by rw [<- hwz];exact Ar _ _ _ _ bA
 have HR:=lH (fun W (hkk:Aa [] wz W)=>Kb a c L n hn bB true hb1 W (h.keeps (X.trans hkk)));have E:Hi (Bk L key now ov span=if 4<(Cq L now ov).length+1\/1000000000<DO L then([],0,92) else(Cq L now ov++[⟨DO L,key,now,now+span⟩],DO L,0)):=lH (by
  unfold Bk;rw [hb1,hb2,J,M,N,decide_eq_true ad];rfl)
 have HH:=lH h;have HN:=lH hn;have af:=lH hb1;have H2:=lH hb2;have HP1:=lH J;have aj:=lH M;have ak:=lH N;have HK0:=lH X;have HB0:=lH aa;have HB1:=lH ab;have T:Hi (0<=now/\now<=1000000000000/\0<=ov/\ov<=1000000000/\1<=span/\span<=1000000000):=lH (by
  unfold Em at J M N;simp only [Af,decide_eq_true_eq] at J M N;omega)
 have av:IntKind.i64.wrap (now+span)=now+span:=IntWalk.i64_in _ (by have:=T.o;omega);have al:Hi (IntKind.i64.wrap (now+ov)=now+ov):=lH (IntWalk.i64_in _ (by have:=T.o;omega));have i9:¬(1000000000000:Int)<now+span:=bB;clear h hn hb1 hb2 J M N ad X aa ab;go_enter func197,ntmps197;go_wp2_with fail;refine(HR.o wz (Aa.refl [] wz)).mono ?_;rintro e w1 ⟨rfl,hk1⟩;have HK1:=lH (HK0.o.trans hk1);have ah:=lH hk1;have c0:=(HB0.o.keeps hk1 bA).ce 0;have c1:=(HB1.o.keeps hk1 bA).ce 0;clear hk1 hwz;go_wp2_with fail;refine(Kf key true H2.o _).mono ?_;rintro e w2 ⟨rfl,rfl⟩;go_wp2_with fail;refine(G3 now _ _ true HP1.o _).mono ?_;rintro e w2 ⟨rfl,rfl⟩;go_wp2_with fail;refine(G3 ov _ _ true aj.o _).mono ?_;rintro e w2 ⟨rfl,rfl⟩;go_wp2_with fail;refine(G3 span _ _ true ak.o _).mono ?_;rintro e w2 ⟨rfl,rfl⟩;go_wp2_with fail;have G:w.heap.size+1<w1.heap.size:=BS HB1.o.lt ah.o.size;have HLT:=lH G;have hid:∀x∈L,-1000000000000<=x.id/\x.id<=1000000000000:=fun x hx=>by
  have h1:=af.o;unfold DK at h1;rw [Af] at h1;have h2:=Bm.1 h1.2 x hx;unfold IR at h2;simp only [Af,decide_eq_true_eq] at h2;omega
 have hA:=(Aa.refl [] w1).alloc (.cells #[pE pK 1] 3);refine(Ra a c L n HN.o hL w1 w (w+1) now ov hid al.o (w1.alloc (.cells #[pE pK 1] 3)) (HH.o.keeps (HK1.o.trans hA)) (Blk.new w1 _ _) (Ct c0 _) (Ct c1 _) bB bB (fun h0 g o e=>by
  intro hg;subst hg;obtain⟨g',o',e1,hlt,_⟩:=HH.o.at_ (by rw [HN.o];exact h0);rw [e] at e1;injection e1 with e1;injection e1 with e1 _
  have:=HK1.o.size;omega)).mono ?_
 rintro e w3 ⟨u,rfl,hrow,O,hk3⟩;have ag:Hi (Aa [] w w3):=lH (HK1.o.own (((Aa.refl [w1.heap.size] w1).alloc _).trans hk3) (fun y hy=>by simp only [Ac,Ab,or_false] at hy;have:=HK1.o.size;omega));have F:∀g∈u.ownBlock.toList,w1.heap.size<g:=fun g hg=>by
  have:=AZ hrow g hg;simp at this;omega
 have d0:=(hk3.cell (p:=A_ w 0) bG bG).trans (Ct c0 _);have d2:=O.ce 0;obtain⟨ys,Y⟩:=eX (Cq L now ov);obtain⟨id,U⟩:=eX (DO L);have an:ys.length<=n:=by rw [<- Y,<- HN.o];exact Pk _ _ _
 rw [Y] at hrow E;rw [U] at d2 E O;obtain⟨g9,c9,w9,B,D,hk9,ac⟩:=CO (enc:=BT) prog (t:=129) underlying129 ON bE D0 Iq hrow (A8 bA hk3.size) ⟨id,key,now,now+span⟩ bB 129;have e2:=(O.keeps hk9 (fun hm=>by have:=F _ hm;omega)).ce 0;have HK9:Hi (Aa [] w w9):=lH (ag.o.own hk9 (fun y hy=>by have:=F y hy;have:=HK1.o.size;omega));have HR9:=lH D;have ai:Hi (ys.length<=1000):=lH bB;simp only [BT] at B;obtain⟨m,hm⟩:=eX (ys.length+1);rw [hm] at B E;have HM:=lH hm;have HC9:Hi (DG w w9 (pF (some (A_ g9 0)) m c9) (ys++[⟨id,key,now,now+span⟩])):=lH (by rw [<- hm];exact DG.of_row D (by have:=HK1.o.size;simp;omega));clear c0 c1 G hid hA hrow O hk3 F Y U an D hk9 ac hm;have ar:m<=1001:=by rw [<- HM.o];have:=ai.o;omega
 by_cases h4:4<m
 ·have HE:=lH (E.o.trans (if_pos (.inl h4)))
  have i4:(4:Int)<(m:Int):=bB;clear h4;go_wp2_with (at_builtin;refine Au _ rfl _ _ 129 rfl rfl rfl B ?_);exact bodyPost_ret (v:=.tuple #[pF none 0 0,I_ 0,.iface 381 (pH #[pE pK 92])]) (by simp [results,results197,go_sem]) rfl ⟨_,by rw [HE.o];rfl,by rw [HE.o];exact DG.none_ _ _,HK9.o⟩
 ·have i4:¬(4:Int)<(m:Int):=bB;by_cases h5:1000000000<id
  ·have HE:=lH (E.o.trans (if_pos (.inr h5)))
   clear h4;go_wp2_with (at_builtin;refine Au _ rfl _ _ 129 rfl rfl rfl B ?_);exact bodyPost_ret (v:=.tuple #[pF none 0 0,I_ 0,.iface 381 (pH #[pE pK 92])]) (by simp [results,results197,go_sem]) rfl ⟨_,by rw [HE.o];rfl,by rw [HE.o];exact DG.none_ _ _,HK9.o⟩
  ·have HE:=lH (E.o.trans (if_neg bB))
   clear h4;go_wp2_with (at_builtin;refine Au _ rfl _ _ 129 rfl rfl rfl B ?_);go_quiet (fail);go_wp2_with fail;exact bodyPost_ret (v:=.tuple #[pF (some (A_ g9 0)) m c9,I_ id,.nilIface]) (by simp [results,results197,go_sem]) rfl ⟨_,by rw [HE.o];rfl,by rw [HE.o];exact HC9.o.keeps (by repeat(first | exact Aa.refl _ _ | refine Aa.drewN ?_ _ | refine Aa.drew ?_)),by first | exact HK9.o | exact HK9.o.drewN _ | exact HK9.o.drew⟩
theorem Uk(a:Option Addr)(c:Nat)(L:List El)(n:Nat)(hn:L.length=n)(hL:n<=1000)(key:ByteArray)(now ov B:Int)(w:World)(h:Hg w a c L):
  Calls prog 197 #[pF a n c,Dz key,I_ now,I_ ov,I_ B] w (fun e w'=>∃u,e = pJ (.tuple #[u,I_ (Bk L key now ov B).2.1,Yr (Bk L key now ov B).2.2])/\DG w w' u (Bk L key now ov B).1/\Aa [] w w'):=by
 cases hb:(DK L&&(Ns key&&(Em now 0 1000000000000&&(Em ov 0 1000000000&&(Em B 1 1000000000&&decide (now+B<=1000000000000)))))) with
 | false=>exact Ul a c L n hn hL key now ov B (lH hb) w h
 | true=>
  simp only [Af,decide_eq_true_eq] at hb;obtain⟨h1,h2,h3,h4,D,E⟩:=hb;exact WQ a c L n hn hL key now ov B h1 h2 h3 h4 D E w h
theorem ME(a:Option Addr)(c:Nat)(L:List El)(n:Nat)(hn:L.length=n)(hL:n<=1000)(key:ByteArray)(now ov B:Int)(w:World)(hg:Et w)(E:0<w.heap.size)(h:Hg w a c L):
  Calls prog 155 #[pF a n c,Dz key,I_ now,I_ ov,I_ B] w (fun e w'=>∃u,e = pJ (.tuple #[u,I_ (Bk L key now ov B).2.1,I_ (Bk L key now ov B).2.2])/\DG w w' u (Bk L key now ov B).1/\Aa [] w w'):=by
 have HR:=lH (Uk a c L n hn hL key now ov B w h);obtain⟨⟨l,id,er⟩,hr⟩:∃r,Bk L key now ov B=r:=⟨_,rfl⟩;rw [hr] at HR ⊢;dsimp only at HR ⊢;have HG:=lH hg;clear hr h hn hg;go_enter func155,ntmps155;go_wp2_with fail;refine HR.o.mono ?_;rintro e w1 ⟨u,rfl,hu,hk⟩;have HU:=lH hu;have HK:=lH hk;have D:=lH (HG.o.keeps hk bA);clear hu hk;by_cases he:er=0
 ·subst he
  simp only [Yr,if_pos];go_wp2_with fail;refine(ErD.told_nil w1).mono ?_;rintro e w2 ⟨rfl,hk2⟩;have HK2:=lH hk2;clear hk2;go_wp2_with fail;exact bodyPost_ret (v:=.tuple #[u,I_ id,I_ 0]) (by simp [results,results155,go_sem]) rfl ⟨_,rfl,HU.o.keeps HK2.o,HK.o.trans HK2.o⟩
 ·simp only [Yr,if_neg he]
  go_wp2_with fail;refine(ErD.told_why er w1 D.o).mono ?_;rintro e w2 ⟨rfl,hk2⟩;have HK2:=lH hk2;clear hk2;go_wp2_with fail;exact bodyPost_ret (v:=.tuple #[u,I_ id,I_ er]) (by simp [results,results155,go_sem]) rfl ⟨_,rfl,HU.o.keeps HK2.o,HK.o.trans HK2.o⟩
def Fp(w:World)(E:Nat->Addr):Prop:=Ge w 402 [6,2,7,8,9,13] E
theorem Fp.keep{w w':World}{E:Nat->Addr}(h:Fp w E)(hk:Aa [] w w'):Fp w' E:=Ge.keep h hk
theorem Lk{E:Nat->Addr}(w:World)(h:Fp w E):Calls prog 192 #[.iface 402 (pG (some (E 6)))] w fun e w'=>e = pJ (I_ 81)/\w=w':=by
 have D:=h.cell 6 bA;have B:=lH (DM h (some 6) 6 bA bA true bE);simp only [Jj] at B;clear h;go_enter func192,ntmps192;go_wp2_with fail;refine B.out.mono ?_;rintro e w1 ⟨rfl,rfl⟩;go_wp2;go_ret;exact⟨rfl,rfl⟩
theorem DH{E:Nat->Addr}(w:World)(h:Fp w E):Calls prog 192 #[.iface 402 (pG (some (E 2)))] w fun e w'=>e = pJ (I_ 80)/\w=w':=by
 have F:=h.cell 6 bA;have B:=lH (DM h (some 2) 6 bA bA false bE);have G:=h.cell 2 bA;have D:=lH (DM h (some 2) 2 bA bA true bE);simp only [Jj] at B D;clear h;go_enter func192,ntmps192;go_wp2_with fail;refine B.out.mono ?_;rintro e w1 ⟨rfl,rfl⟩;go_wp2_with fail;refine D.out.mono ?_;rintro e w1 ⟨rfl,rfl⟩;go_wp2;go_ret;exact⟨rfl,rfl⟩
theorem I4{E:Nat->Addr}(w:World)(h:Fp w E):Calls prog 192 #[.iface 402 (pG (some (E 7)))] w fun e w'=>e = pJ (I_ 82)/\w=w':=by
 have J:=h.cell 6 bA;have D:=lH (DM h (some 7) 6 bA bA false bE);have M:=h.cell 2 bA;have F:=lH (DM h (some 7) 2 bA bA false bE);have G:=h.cell 7 bA;have B:=lH (DM h (some 7) 7 bA bA true bE);simp only [Jj] at D F B;clear h;go_enter func192,ntmps192;go_wp2_with fail;refine D.out.mono ?_;rintro e w1 ⟨rfl,rfl⟩;go_wp2_with fail;refine F.out.mono ?_;rintro e w1 ⟨rfl,rfl⟩;go_wp2_with fail;refine B.out.mono ?_;rintro e w1 ⟨rfl,rfl⟩;go_wp2;go_ret;exact⟨rfl,rfl⟩
theorem Ll{E:Nat->Addr}(w:World)(h:Fp w E):Calls prog 235 #[.iface 402 (pG (some (E 9)))] w fun e w'=>e = pJ (I_ 70)/\w=w':=by
 have D:=h.cell 9 bA;have B:=lH (DM h (some 9) 9 bA bA true bE);simp only [Jj] at B;clear h;go_enter func235,ntmps235;go_wp2_with fail;refine B.out.mono ?_;rintro e w1 ⟨rfl,rfl⟩;go_wp2;go_ret;exact⟨rfl,rfl⟩
end
section
open Go.RowKit Go.Shelf
structure Lu(P:Program)(t e:TypeId)(n:Nat)(z:Value):Prop where
 ht:P.underlying t=some (.slice e)
 hi:D1 (P.info? e) n=true
 el:P.elem t=e
 sz:∀W,(sizeOf e).run P W = .ok n W
 zv:∀W,(zeroValue e).run P W = .ok z W
 zc:z.cells.size=n
 z1:∀u∈z.cells.toList,u.oneCell'=true
section
variable {P:Program} {t e:TypeId} {n:Nat} {z:Value}
theorem Lu.ht'(h:Lu P t e n z):P.underlying t=some (.slice (P.elem t)):=by rw [h.el];exact h.ht
theorem Lu.s_h(h:Lu P t e n z)(W:World)(g off k cap l:Nat)(h2:l<=cap):
  (AV t (pF (some (A_ g off)) k cap) none (some (I_ (l:Int))) none).run P W = .ok (pF (some (A_ g off)) l cap) W:=by
 have B:=run_slice_h (P:=P) W t (some (A_ g off)) k cap h.ht' .i64 l bB bB;rw [B,h.el,h.sz];simp [sliced,BR,Bg]
theorem Lu.s_l(h:Lu P t e n z)(W:World)(g off k cap l:Nat)(h1:l<=k)(h2:k<=cap):
  (AV t (pF (some (A_ g off)) k cap) (some (I_ (l:Int))) none none).run P W = .ok (pF (some (if cap=l then(A_ g off) else(A_ g (off+l*n)))) (k - l) (cap - l)) W:=by
 have B:=run_slice_l (P:=P) W t (some (A_ g off)) k cap h.ht' .i64 l bB bB;rw [B,h.el,h.sz];by_cases hc:cap=l
 ·simp [sliced,hc,Bg]
 ·simp [sliced,hc,BR,Bg]
theorem Lu.s_lh(h:Lu P t e n z)(W:World)(g off k cap l m:Nat)(h0:l<=m)(h1:m<=cap)(h2:l<cap):
  (AV t (pF (some (A_ g off)) k cap) (some (I_ (l:Int))) (some (I_ (m:Int))) none).run P W = .ok (pF (some (A_ g (off+l*n))) (m - l) (cap - l)) W:=by
 have B:=run_slice_lh (P:=P) W t (some (A_ g off)) k cap h.ht' .i64 .i64 l m bB bB bB;rw [B,h.el,h.sz];simp [sliced,show ¬cap=l by omega,BR,Bg]
theorem Lu.s_lhm(h:Lu P t e n z)(W:World)(g off k cap l m r:Nat)(h0:l<=m)(h1:m<=r)(h2:r<=cap):
  (AV t (pF (some (A_ g off)) k cap) (some (I_ (l:Int))) (some (I_ (m:Int))) (some (I_ (r:Int)))).run P W = .ok (sliced (some (A_ g off)) l m r n) W:=by
 have B:=run_slice_lhm (P:=P) W t (some (A_ g off)) k cap h.ht' .i64 .i64 .i64 l m r bB bB bB bB;rw [B,h.el,h.sz];rfl
theorem Lu.clear1(h:Lu P t e n z)(W:World)(B:TypeId)(g o c:Nat)(cs:Array Value)(hb:Blk W g e cs)(D:o+n<=cs.size):
  (Builtin.clear_ #[t] B #[pF (some (A_ g o)) 1 c]).run P W = .ok (.tuple #[]) (W.setCells g o (AN z.cells 1).toList):=by
 have hl:(AN z.cells 1).toList.length=n:=by simp [AN,h.zc]
 have hst:=run_storeCells_cells (P:=P) g o (AN z.cells 1).toList 0 W (fun j hj=>by
   rw [hl] at hj;rw [hb.cell,Array.getElem?_eq_getElem bB];rfl) (fun j _=>hb.frozen _) (fun u hu=>by
   refine h.z1 u ?_;have:(AN z.cells 1).toList=z.cells.toList:=by
    apply List.ext_getElem?;intro j;rcases pP j n with hj | hj
    ·simp [AN,h.zc,hj,Nat.mod_eq_of_lt hj]
    ·rw [List.getElem?_eq_none (by rw [hl];exact hj),List.getElem?_eq_none (by rw [BX,h.zc];exact hj)]
   rw [<- this];exact hu)
 simp only [AT] at hst;simp only [Builtin.clear_,An,Aj,Sem.run_bind,run_underlying h.ht,Result.andThen_ok,h.zv,hst,Sem.run_pure]
structure mG(P:Program)(t:TypeId)(n:Nat){α:Type}(enc:α→List Value)(xs:List α)(L i g c:Nat)(w:World)(X A:Value)(W1 W2:World):Prop where
 s1:∀W,(AV t (pF (some ⟨g,0,none⟩) L c) (some (pE pK (i:Int))) (some (pE pK ((i:Int)+1))) (some (pE pK (L:Int)))).run P W = .ok X W
 s2:∀W,(AV t (pF (some ⟨g,0,none⟩) L c) none (some (pE pK (i:Int))) none).run P W = .ok (pF (some ⟨g,0,none⟩) i c) W
 s3:∀W,(AV t (pF (some ⟨g,0,none⟩) L c) (some (pE pK ((i:Int)+1))) none none).run P W = .ok A W
 s4:∀W,(AV t (pF (some ⟨g,0,none⟩) (L - 1) c) (some (pE pK ((L - 1:Nat):Int))) (some (pE pK (L:Int))) none).run P W = .ok (pF (some ⟨g,(L - 1)*n,none⟩) 1 (c - (L - 1))) W
 ap:∀ty,(BI #[t,t] ty #[pF (some ⟨g,0,none⟩) i c,A]).run P w.drew = .ok (pF (some ⟨g,0,none⟩) (L - 1) c) W1
 cl:∀ty,(Builtin.clear_ #[t] ty #[pF (some ⟨g,(L - 1)*n,none⟩) 1 (c - (L - 1))]).run P W1 = .ok (.tuple #[]) W2
 fin:AR enc n W2 (some ⟨g,0,none⟩) c (xs.eraseIdx i)
 keep:Aa [g] w W2
theorem J9{α:Type}{enc:α->List Value}(hn:∀x,(enc x).length=n)(xs:List α)(k:Nat)(hk:k<=xs.length):(xs.take k).flatMap enc=(xs.flatMap enc).take (k*n):=by
 have h:xs.flatMap enc=(xs.take k).flatMap enc++(xs.drop k).flatMap enc:=by rw [<- BY,Dn]
 have hl:((xs.take k).flatMap enc).length=k*n:=by rw [EP hn,Ax,DE hk]
 rw [h,CI bB];exact(Ak bB).symm
theorem J8{α:Type}{enc:α->List Value}(hn:∀x,(enc x).length=n)(xs:List α)(k:Nat)(hk:k<=xs.length):(xs.drop k).flatMap enc=(xs.flatMap enc).drop (k*n):=by
 have h:xs.flatMap enc=(xs.take k).flatMap enc++(xs.drop k).flatMap enc:=by rw [<- BY,Dn]
 have hl:((xs.take k).flatMap enc).length=k*n:=by rw [EP hn,Ax,DE hk]
 rw [h,List.drop_append_of_le_length bB,List.drop_of_length_le (l:=(xs.take k).flatMap enc) bB,BH]
theorem AR.of_cells{α:Type}{enc:α->List Value}(hn:∀x,(enc x).length=n){w:World}{g c:Nat}{cs:Array Value}{xs:List α}(hb:Blk w g e cs)(B:xs.length<=c)(h:cs.toList.take (xs.length*n)=xs.flatMap enc):AR enc n w (some (A_ g 0)) c xs:=
 ⟨B,(fun e=>by cases e),fun _=>⟨g,0,rfl,hb.lt,fun i hi j u hj=>by
  have hjn:j<n:=by have:=(Ad.1 hj).1;rwa [hn] at this
  rw [AW,hb.cell];have h1:=KL hn xs i hi j hjn;have hlt:i*n+j<xs.length*n:=by
   have:(i+1)*n<=xs.length*n:=Ch n hi;rw [Nat.add_mul] at this;omega
  rw [hj,<- h,Dh,if_pos hlt] at h1;simpa using h1⟩⟩
theorem Lu.del(h:Lu P t e n z){α:Type}{enc:α->List Value}(hn:∀x,(enc x).length=n)(ab:∀x,∀u∈enc x,u.oneCell'=true){xs:List α}{L i g c B:Nat}(hL:xs.length=L)(hi:i<L)(ae:L<=1000)(w:World)
 (hr:w.ownsRow B e n (pF (some (A_ g 0)) L c) L (xs.flatMap enc)):∃X A W1 W2,mG P t n enc xs L i g c w X A W1 W2:=by
 rcases hr.2 with⟨h0,_⟩ | ⟨g',c',cur,e1,hb,hg,G,aq,hs,ad⟩
 ·cases h0
 injection e1 with e1 _ e2
 injection e1 with e1;injection e1 with e1 _
 subst e1;subst e2;have F:Blk w g e cur:=hg;obtain⟨i0,zz,ah,aw,N,al,au⟩:=Ck h.hi;obtain⟨E,D⟩:=eX ((xs.drop (i+1)).flatMap enc);have hnl:E.length=(L - (i+1))*n:=by rw [<- D,EP hn,B1,hL]
 have ar:L*n<=cur.size:=by rw [hs];exact Ch n G
 have av:(i+1)*n<=L*n:=Ch n hi;have ak:(i+1)*n=i*n+n:=by rw [Nat.add_mul];omega
 have ap:(L - (i+1))*n=L*n - (i+1)*n:=Nat.sub_mul _ _ _;have ao:(L - 1)*n=L*n - n:=by rw [Nat.sub_mul];omega
 have O:∀j u,E[j]? = some u->cur[(i+1)*n+j]? = some u:=fun j u hj=>by
  have ai:=(Ad.1 hj).1;rw [<- D,J8 hn xs (i+1) bB,List.getElem?_drop,<- ad,Dh] at hj;rw [if_pos bB] at hj;simpa using hj
 obtain⟨A,hA⟩:=eX (pF (some (if c=i+1 then(A_ g 0) else(A_ g (0+(i+1)*n)))) (L - (i+1)) (c - (i+1)));have ac:Src P i0.size t A (L - (i+1)) E w.drew:=by
  rw [<- hA];refine Src.ofSlice _ h.ht _ _ _ _ (by rw [N];exact hnl) (fun j u hj=>?_) (fun u hu=>?_)
  ·have ai:=(Ad.1 hj).1
   have U:c≠i+1:=fun U=>by
    have:L - (i+1)=0:=bB;rw [this] at hnl;omega
   rw [if_neg U,BR,F.drew.cell,AW];exact O j u hj
  ·rw [<- D] at hu
   obtain⟨x,_,hx⟩:=E6.1 hu;exact ab x u hx
 have T:=run_append_room_src (P:=P) w.drew t t;obtain⟨M,hb1,Y⟩:=Blk.setAll E (i*n) w.drew cur F.drew bB;have J:M.size=cur.size:=by rw [<- BX,Y];simp;omega
 obtain⟨an,hb2,af⟩:=Blk.setAll (AN z.cells 1).toList ((L - 1)*n) _ M hb1 (by
  have:(AN z.cells 1).toList.length=n:=by simp [AN,h.zc]
  rw [this,J];omega)
 refine⟨_,A,_,_,⟨fun W=>h.s_lhm W g 0 L c i (i+1) L bB bB G,fun W=>h.s_h W g 0 L c i bB,fun W=>?_,fun W=>?_,fun ty=>?_,fun ty=>h.clear1 _ ty g _ _ M hb1 (by rw [J];omega),?_,?_⟩⟩
 ·rw [<- hA];exact h.s_l W g 0 L c (i+1) hi G
 ·have:=h.s_lh W g 0 (L - 1) c (L - 1) L bB G bB
  rw [AW,show L - (L - 1)=1 by omega] at this;exact this
 ·have:=T ty e i0 h.ht ah g 0 i c _ _ _ ac bB (fun j hj=>by
   rw [N,AW,F.drew.cell,Array.getElem?_eq_getElem bB];rfl) (fun j hj=>F.drew.frozen _)
  rw [N,show i+(L - (i+1))=L - 1 by omega,AW] at this;exact this
 ·have ag:(xs.eraseIdx i).length=L - 1:=by rw [List.length_eraseIdx,if_pos bB,hL]
  refine AR.of_cells hn hb2 bB ?_;rw [ag,af,Y];have e1:cur.toList.take (i*n)=(xs.take i).flatMap enc:=by
   rw [J9 hn xs i bB,<- ad,List.take_take,DE bB]
  have aa:(cur.toList.take (i*n)).length=i*n:=by rw [Ax,BX];omega
  have ax:(cur.toList.take (i*n)++E).length=(L - 1)*n:=by rw [Al,aa,hnl];omega
  rw [CC,CC,CI (by rw [Ax];simp only [Al,B1,BX,aa,hnl];omega),List.take_take,Nat.min_self,<- CC,CI bB,Ak bB,e1,<- D,<- BY,List.eraseIdx_eq_take_drop_succ]
 ·exact((((Aa.refl [g] w).drew)).trans (Aa.setCells (.inl bA) _ _ (Aa.refl [g] _))).trans (Aa.setCells (.inl bA) _ _ (Aa.refl [g] _))
end
section
variable {P:Program} {t e:TypeId} {n:Nat} {z:Value}
theorem Lu.copy(h:Lu P t e n z)(W:World)(O:TypeId)(g o B E:Nat)(a:Addr)(D G k:Nat)(cs:List Value)(cur:Array Value)(hk:Nat.min D B=k)(hl:cs.length=k*n)
 (F:∀j v,cs[j]? = some v->W.cell? (a.add j)=some v)(hb:Blk W g e cur)(T:o+cs.length<=cur.size)(h1:∀v∈cs,v.oneCell'=true):
  (E3 #[t,t] O #[pF (some (A_ g o)) B E,pF (some a) D G]).run P W = .ok (goInt k) (W.setCells g o cs):=by
 obtain⟨U,X,J,_,M,_,_⟩:=Ck h.hi;have N:=run_loadCells_list (P:=P) W a cs F;have hst:=run_storeCells_cells (P:=P) g o cs 0 W (fun j hj=>by rw [AT,hb.cell,Array.getElem?_eq_getElem bB];rfl) (fun j _=>hb.frozen _) h1;simp [E3,run_underlying h.ht,Builtin.lenOf,Builtin.firstCells,sizeOf,typeInfo,J,M,hk,<- hl,N,hst]
structure mJ(P:Program)(t:TypeId)(n:Nat){α:Type}(enc:α→List Value)(xs:List α)(r:α)(L i g c vb:Nat)(w W1 W2:World):Prop where
 s1:∀W,(AV t (pF (some ⟨g,0,none⟩) L c) (some (pE pK (i:Int))) none none).run P W = .ok (pF (some ⟨g,i*n,none⟩) (L - i) (c - i)) W
 s2:∀W,(AV t (pF (some ⟨g,0,none⟩) L c) none (some (pE pK ((L:Int)+1))) none).run P W = .ok (pF (some ⟨g,0,none⟩) (L+1) c) W
 s3:∀W,(AV t (pF (some ⟨g,0,none⟩) (L+1) c) (some (pE pK ((i:Int)+1))) none none).run P W = .ok (pF (some ⟨g,(i+1)*n,none⟩) (L - i) (c - (i+1))) W
 s4:∀W,(AV t (pF (some ⟨g,0,none⟩) (L+1) c) (some (pE pK (i:Int))) none none).run P W = .ok (pF (some ⟨g,i*n,none⟩) (L+1 - i) (c - i)) W
 c1:∀ty,(E3 #[t,t] ty #[pF (some ⟨g,(i+1)*n,none⟩) (L - i) (c - (i+1)),pF (some ⟨g,i*n,none⟩) (L+1 - i) (c - i)]).run P w.drew = .ok (goInt ((L - i:Nat):Int)) W1
 c2:∀ty,(E3 #[t,t] ty #[pF (some ⟨g,i*n,none⟩) (L+1 - i) (c - i),pF (some ⟨vb,0,none⟩) 1 1]).run P W1 = .ok (goInt 1) W2
 fin:AR enc n W2 (some ⟨g,0,none⟩) c (xs.take i++r::xs.drop i)
 keep:Aa [g] w W2
theorem Li{α:Type}(a b:List α)(k:Nat)(h:a.length=k):(a++b).take k=a:=by rw [CI bB,Ak bB]
theorem Lu.ins(h:Lu P t e n z){α:Type}{enc:α->List Value}(hn:∀x,(enc x).length=n)(N:∀x,∀u∈enc x,u.oneCell'=true){xs:List α}(r:α){L i g c B Y:Nat}(hL:xs.length=L)(hi:i<L)(F:L+1<=c)(ab:L<=1000)(w:World)
 (hr:w.ownsRow B e n (pF (some (A_ g 0)) L c) L (xs.flatMap enc)){te:TypeId}(hv:Blk w Y te (enc r).toArray)(hne:Y≠g):∃W1 W2,mJ P t n enc xs r L i g c Y w W1 W2:=by
 rcases hr.2 with⟨h0,_⟩ | ⟨g',c',cur,e1,hb,hg,ad,ai,hs,X⟩
 ·cases h0
 injection e1 with e1 _ e2
 injection e1 with e1;injection e1 with e1 _
 subst e1;subst e2;have J:Blk w g e cur:=hg;obtain⟨D,E⟩:=eX ((xs.drop i).flatMap enc);have hnl:D.length=(L - i)*n:=by rw [<- E,EP hn,B1,hL]
 have aj:(L+1)*n<=cur.size:=by rw [hs];exact Ch n F
 have e1:(L+1)*n=L*n+n:=by rw [Nat.add_mul];omega
 have e2:(i+1)*n=i*n+n:=by rw [Nat.add_mul];omega
 have e3:(L - i)*n=L*n - i*n:=Nat.sub_mul _ _ _;have e4:i*n<=L*n:=Ch n bB;have T:∀j u,D[j]? = some u->cur[i*n+j]? = some u:=fun j u hj=>by
  have ak:=(Ad.1 hj).1;rw [<- E,J8 hn xs i bB,List.getElem?_drop,<- X,Dh] at hj;rw [if_pos bB] at hj;simpa using hj
 obtain⟨G,hb1,O⟩:=Blk.setAll D ((i+1)*n) w.drew cur J.drew bB;have M:G.size=cur.size:=by rw [<- BX,O];simp;omega
 obtain⟨ah,hb2,ac⟩:=Blk.setAll (enc r) (i*n) _ G hb1 (by rw [hn,M];omega);have ae:Blk (w.drew.setCells g ((i+1)*n) D) Y te (enc r).toArray:=hv.keeps ((Aa.setCells (S:=[g]) (.inl bA) D ((i+1)*n) ((Aa.refl [g] w).drew))) aV;refine⟨w.drew.setCells g ((i+1)*n) D,(w.drew.setCells g ((i+1)*n) D).setCells g (i*n) (enc r),⟨fun W=>?_,fun W=>h.s_h W g 0 L c (L+1) F,fun W=>?_,fun W=>?_,fun ty=>?_,fun ty=>?_,?_,?_⟩⟩
 ·have:=h.s_l W g 0 L c i bB ad
  rw [if_neg bB,AW] at this;exact this
 ·have:=h.s_l W g 0 (L+1) c (i+1) bB F
  rw [if_neg bB,AW,show L+1 - (i+1)=L - i by omega] at this;exact this
 ·have:=h.s_l W g 0 (L+1) c i bB F
  rw [if_neg bB,AW] at this;exact this
 ·refine h.copy w.drew ty g ((i+1)*n) (L - i) _ (A_ g (i*n)) (L+1 - i) _ (L - i) D cur nI hnl (fun j v hj=>?_) J.drew bB (fun u hu=>?_)
  ·rw [BR,J.drew.cell];exact T j v hj
  ·rw [<- E] at hu
   obtain⟨x,_,hx⟩:=E6.1 hu;exact N x u hx
 ·refine h.copy _ ty g (i*n) (L+1 - i) _ (A_ Y 0) 1 1 1 (enc r) G nI kE (fun j v hj=>?_) hb1 (by rw [hn,M];omega) (fun u hu=>N r u hu)
  rw [BR,ae.cell,AW];simpa using hj
 ·refine AR.of_cells hn hb2 bG ?_
  have U:(xs.take i++r::xs.drop i).length=L+1:=by simp;omega
  have k1:cur.toList.take (i*n)=(xs.take i).flatMap enc:=by
   rw [J9 hn xs i bB,<- X,List.take_take,DE bB]
  have k2:(cur.toList.take ((i+1)*n)).take (i*n)=(xs.take i).flatMap enc:=by rw [List.take_take,DE bB,k1]
  have k3:(cur.toList.take ((i+1)*n)).length=(i+1)*n:=by rw [Ax,BX];omega
  have k4:((xs.take i).flatMap enc).length=i*n:=by rw [EP hn,Ax];congr 1;omega
  have k5:G.toList.take (i*n)=(xs.take i).flatMap enc:=by
   rw [O,CC,CI bB,k2]
  have k6:G.toList.drop (i*n+n)=D++cur.toList.drop ((i+1)*n+D.length):=by
   rw [O,CC,<- e2];exact List.drop_left' k3
  rw [U,ac,hn,k5,k6,BY,List.flatMap_cons,E];rw [show(xs.take i).flatMap enc++enc r++(D++cur.toList.drop ((i+1)*n+D.length))=((xs.take i).flatMap enc++(enc r++D))++cur.toList.drop ((i+1)*n+D.length) by simp only [CC]];exact Li _ _ _ (by simp only [Al,k4,hn,hnl];omega)
 ·exact((((Aa.refl [g] w).drew)).trans (Aa.setCells (.inl bA) _ _ (Aa.refl [g] _))).trans (Aa.setCells (.inl bA) _ _ (Aa.refl [g] _))
structure mH(P:Program)(t ti:TypeId)(n:Nat){α:Type}(enc:α→List Value)(xs:List α)(r:α)(L i g c vb N G:Nat)(w W1 W2 W3:World):Prop where
 s1:∀W,(AV t (pF (some ⟨g,0,none⟩) L c) (some (pE pK (i:Int))) none none).run P W = .ok (pF (some ⟨g,i*n,none⟩) (L - i) (c - i)) W
 s2:∀W,(AV t (pF (some ⟨g,0,none⟩) L c) none (some (pE pK (i:Int))) none).run P W = .ok (pF (some ⟨g,0,none⟩) i c) W
 ap:∀ty,(BI #[t,ti] ty #[pF (some ⟨g,0,none⟩) i c,pE pK ((L:Int)+1 - (i:Int))]).run P w = .ok (pF (some ⟨N,0,none⟩) (L+1) G) W1
 s3:∀W,(AV t (pF (some ⟨N,0,none⟩) (L+1) G) (some (pE pK (i:Int))) none none).run P W = .ok (pF (some ⟨N,i*n,none⟩) (L+1 - i) (G - i)) W
 c1:∀ty,(E3 #[t,t] ty #[pF (some ⟨N,i*n,none⟩) (L+1 - i) (G - i),pF (some ⟨vb,0,none⟩) 1 1]).run P W1 = .ok (goInt 1) W2
 s4:∀W,(AV t (pF (some ⟨N,0,none⟩) (L+1) G) (some (pE pK ((i:Int)+1))) none none).run P W = .ok (pF (some ⟨N,(i+1)*n,none⟩) (L - i) (G - (i+1))) W
 c2:∀ty,(E3 #[t,t] ty #[pF (some ⟨N,(i+1)*n,none⟩) (L - i) (G - (i+1)),pF (some ⟨g,i*n,none⟩) (L - i) (c - i)]).run P W2.drew = .ok (goInt ((L - i:Nat):Int)) W3
 fin:AR enc n W3 (some ⟨N,0,none⟩) G (xs.take i++r::xs.drop i)
 keep:Aa [] w W3
 ge:w.heap.size≤N
theorem Lu.insG(h:Lu P t e n z){ti:TypeId}(a3:P.underlying ti=some (.int .i64))(be:0<n){α:Type}{enc:α->List Value}(hn:∀x,(enc x).length=n)(ab:∀x,∀u∈enc x,u.oneCell'=true){xs:List α}(r:α){L i g c B vb:Nat}(hL:xs.length=L)(hi:i<L)(af:c<L+1)(ap:L<=1000)(w:World)
 (hr:w.ownsRow B e n (pF (some (A_ g 0)) L c) L (xs.flatMap enc)){te:TypeId}(hv:Blk w vb te (enc r).toArray):∃N G W1 W2 W3,mH P t ti n enc xs r L i g c vb N G w W1 W2 W3:=by
 rcases hr.2 with⟨h0,_⟩ | ⟨g',c',cur,e1,hb,hg,al,bb,hs,an⟩
 ·cases h0
 injection e1 with e1 _ e2
 injection e1 with e1;injection e1 with e1 _
 subst e1;subst e2;have T:Blk w g e cur:=hg;obtain⟨i0,zz,ay,a0,az,ak,ax⟩:=Ck h.hi;obtain⟨D,E⟩:=eX ((xs.drop i).flatMap enc);have hnl:D.length=(L - i)*n:=by rw [<- E,EP hn,B1,hL]
 have bd:L*n<=cur.size:=by rw [hs];exact Ch n al
 have e1:(L+1)*n=L*n+n:=by rw [Nat.add_mul];omega
 have e2:(i+1)*n=i*n+n:=by rw [Nat.add_mul];omega
 have e3:(L - i)*n=L*n - i*n:=Nat.sub_mul _ _ _;have e4:i*n<=L*n:=Ch n bB;have e5:(L+1 - i)*n=(L+1)*n - i*n:=Nat.sub_mul _ _ _;have ad:∀j u,D[j]? = some u->cur[i*n+j]? = some u:=fun j u hj=>by
  have a1:=(Ad.1 hj).1;rw [<- E,J8 hn xs i bB,List.getElem?_drop,<- an,Dh] at hj;rw [if_pos bB] at hj;simpa using hj
 obtain⟨olds,J⟩:=eX ((xs.take i).flatMap enc);have U:olds.length=i*n:=by rw [<- J,EP hn,Ax];congr 1;omega
 have ae:∀j u,olds[j]? = some u->cur[j]? = some u:=fun j u hj=>by
  have a1:=(Ad.1 hj).1;rw [<- J,J9 hn xs i bB,<- an,List.take_take,Dh] at hj;rw [if_pos bB] at hj;simpa using hj
 have hb2:(L+1)*i0.bytes<=140737488355328:=A8 (Nat.mul_le_mul (show L+1<=1001 by omega) ax) bE;have av:=Lib.run_append_grow_zeros (P:=P) w t ti;have hG:∀X,(BI #[t,ti] X #[pF (some (A_ g 0)) i c,I_ ((L+1 - i:Nat):Int)]).run P w = .ok (pF (some (A_ w 0)) (i+(L+1 - i)) (grownCap w (i+(L+1 - i)) c e)) (w.drew.alloc (.cells (olds.toArray++AN zz.cells (L+1 - i)++AN zz.cells (grownCap w (i+(L+1 - i)) c e - (i+(L+1 - i)))) e)):=fun X=>
  av X e i0 zz .i64 .i64 h.ht a3 ay a0 (some (A_ g 0)) i c olds (run_firstCells_some w.drew i0.size i (A_ g 0) i c olds (by rw [az];exact U) (fun j v hj=>by rw [BR,T.drew.cell,AW];exact ae j v hj)) (L+1 - i) bB bB bB bB (by
   have:(L+1 - i)*i0.bytes<=(L+1)*i0.bytes:=Ch _ bB;omega) (by rw [show i+(L+1 - i)=L+1 by omega];exact growslice_fits af hb2)
 obtain⟨G,ah⟩:=eX (grownCap w (i+(L+1 - i)) c e);have Y:L+1<=G:=by rw [<- ah,show i+(L+1 - i)=L+1 by omega];exact grownCap_ge _ _ _ _
 rw [ah] at hG;obtain⟨F,O⟩:=eX (olds.toArray++AN zz.cells (L+1 - i)++AN zz.cells (G - (i+(L+1 - i))));rw [O] at hG;have a4:∀k,(AN zz.cells k).size=k*n:=fun k=>by simp [AN,ak]
 have ba:(L+1)*n<=F.size:=by
  rw [<- O];simp only [Array.size_append,a4,Cz,U];omega
 have ar:F.toList.take (i*n)=olds:=by
  rw [<- O];simp only [Array.toList_append];rw [CC];exact Li _ _ _ U
 have hN:=Blk.new w.drew e F;have aq:w.drew.heap.size=w.heap.size:=rfl;rw [aq] at hN;have hk1:Aa [] w (w.drew.alloc (.cells F e)):=((Aa.refl [] w).drew).alloc _;obtain⟨W1,au⟩:=eX (w.drew.alloc (.cells F e));rw [au] at hN hk1 hG;obtain⟨M,hb1,aj⟩:=Blk.setAll (enc r) (i*n) W1 F hN kE;have aa:M.size=F.size:=by rw [<- BX,aj];simp [hn];omega
 have hk2:Aa [w.heap.size] W1 (W1.setCells w (i*n) (enc r)):=Aa.setCells (.inl bA) _ _ (Aa.refl _ _);obtain⟨W2,ac⟩:=eX (W1.setCells w (i*n) (enc r));have a7:=T.lt;have hg2:Blk W2 g e cur:=by rw [<- ac];exact(T.keeps hk1 bA).keeps hk2 bG
 rw [ac] at hb1 hk2;obtain⟨a9,ai,aw⟩:=Blk.setAll D ((i+1)*n) W2.drew M hb1.drew (by rw [aa];omega);refine⟨w,G,W1,W2,W2.drew.setCells w ((i+1)*n) D,⟨fun W=>?_,fun W=>h.s_h W g 0 L c i bB,fun X=>?_,fun W=>?_,fun X=>?_,fun W=>?_,fun X=>?_,?_,?_,Aw _⟩⟩
 ·have:=h.s_l W g 0 L c i bB al
  rw [if_neg bB,AW] at this;exact this
 ·have:=hG X
  rw [show i+(L+1 - i)=L+1 by omega,show((L+1 - i:Nat):Int)=(L:Int)+1 - (i:Int) by omega] at this;exact this
 ·have:=h.s_l W w 0 (L+1) G i bB Y
  rw [if_neg bB,AW] at this;exact this
 ·rw [<- ac]
  refine h.copy W1 X w (i*n) (L+1 - i) _ (A_ vb 0) 1 1 1 (enc r) F nI kE (fun j v hj=>?_) hN kE (fun u hu=>ab r u hu);rw [BR,(hv.keeps hk1 bA).cell,AW];simpa using hj
 ·have:=h.s_l W w 0 (L+1) G (i+1) bB Y
  rw [if_neg bB,AW,show L+1 - (i+1)=L - i by omega] at this;exact this
 ·refine h.copy W2.drew X w ((i+1)*n) (L - i) _ (A_ g (i*n)) (L - i) _ (L - i) D M (Nat.min_self _) hnl (fun j v hj=>?_) hb1.drew (by rw [aa];omega) (fun u hu=>?_)
  ·rw [BR,hg2.drew.cell];exact ad j v hj
  ·rw [<- E] at hu
   obtain⟨x,_,hx⟩:=E6.1 hu;exact ab x u hx
 ·refine AR.of_cells hn ai bG ?_
  have am:(xs.take i++r::xs.drop i).length=L+1:=by simp;omega
  have k1:M.toList.take ((i+1)*n)=olds++enc r:=by
   rw [aj,ar];exact Li _ _ _ (by rw [Al,U,hn];omega)
  rw [am,aw,k1,BY,List.flatMap_cons,J,E];rw [show olds++enc r++D++M.toList.drop ((i+1)*n+D.length)=(olds++(enc r++D))++M.toList.drop ((i+1)*n+D.length) by simp only [CC]];exact Li _ _ _ (by simp only [Al,U,hn,hnl];omega)
 ·have hk3:Aa [w.heap.size] W2 (W2.drew.setCells w ((i+1)*n) D):=((Aa.refl _ W2).drew).trans (Aa.setCells (.inl bA) _ _ (Aa.refl _ _))
  exact hk1.own (hk2.trans hk3) bF
end
end
section
open Go.RowKit Go.Shelf
attribute [local go_sem] pN
attribute [local go_sem ↓] wp_at_zero wp_at_succ
theorem Ip:Lu prog 128 55 5 (pH #[pI false,I_ 0,I_ 0,I_ 0,I_ 0]):=⟨by kernel_rfl,by kernel_rfl,by kernel_rfl,fun W=>by kernel_rfl,fun W=>by kernel_rfl,by kernel_rfl,by
 intro u hu;simp only [Value.cells,Ac,Ab,or_false] at hu;rcases hu with rfl | rfl | rfl | rfl | rfl<;>rfl⟩
theorem Yi(xs:List EX)(L i g c B:Nat)(hL:xs.length=L)(hi:i<L)(E:L<=1000)(w:World)(hr:w.ownsRow B 55 5 (pF (some (A_ g 0)) L c) L (xs.flatMap B8)):
  Calls prog 270 #[pF (some (A_ g 0)) L c,I_ (i:Int),I_ ((i:Int)+1)] w fun e w'=>e = pJ (pF (some (A_ g 0)) (L - 1) c)/\AR B8 5 w' (some (A_ g 0)) c (xs.eraseIdx i)/\Aa [g] w w':=by
 obtain⟨X,A,T,W2,D⟩:=Ip.del Cv FA hL hi E w hr;have hs1:=D.s1;have M:=D.s2;have N:=D.s3;have O:=D.s4;have G:=D.cl 128;have F:=D.cl;have HD:=lH D;have J:((i:Int)==(i:Int)+1)=false:=by simp;omega
 clear D hr hL hi;go_enter func270,ntmps270;go_wp2_with fail
 go_region_law (refine BG _ _ 128 bD bD bD bD (HD.o.ap _) ?_)
 all_goals
  go_wp2;go_ret;exact⟨rfl,HD.o.fin,HD.o.keep⟩
theorem gL:Lu prog 33 61 24 (pH #[pE pK 0,I_ 0,Dz ⟨#[]⟩,Dz ⟨#[]⟩,I_ 0,I_ 0,Dz ⟨#[]⟩,I_ 0,I_ 0,pI false,I_ 0,I_ 0,I_ 0,I_ 0,Dz ⟨#[]⟩,I_ 0,I_ 0,I_ 0,I_ 0,I_ 0,I_ 0,Dz ⟨#[]⟩,I_ 0,I_ 0]):=⟨by kernel_rfl,by kernel_rfl,by kernel_rfl,fun W=>by kernel_rfl,fun W=>by kernel_rfl,by kernel_rfl,by
 intro u hu;simp only [Value.cells,Ac,Ab,or_false] at hu;rcases hu with rfl | rfl | rfl | rfl | rfl | rfl | rfl | rfl | rfl | rfl | rfl | rfl | rfl | rfl | rfl | rfl | rfl | rfl | rfl | rfl | rfl | rfl | rfl | rfl<;>rfl⟩
theorem cF(xs:List Bq)(L i g c B:Nat)(hL:xs.length=L)(hi:i<L)(E:L<=1000)(w:World)(hr:w.ownsRow B 61 24 (pF (some (A_ g 0)) L c) L (xs.flatMap encJob)):
  Calls prog 33 #[pF (some (A_ g 0)) L c,I_ (i:Int),I_ ((i:Int)+1)] w fun e w'=>e = pJ (pF (some (A_ g 0)) (L - 1) c)/\AR encJob 24 w' (some (A_ g 0)) c (xs.eraseIdx i)/\Aa [g] w w':=by
 obtain⟨X,A,T,W2,D⟩:=gL.del Dc Ir hL hi E w hr;have hs1:=D.s1;have M:=D.s2;have N:=D.s3;have O:=D.s4;have G:=D.cl 33;have F:=D.cl;have HD:=lH D;have J:((i:Int)==(i:Int)+1)=false:=by simp;omega
 clear D hr hL hi;go_enter func33,ntmps33;go_wp2_with fail
 go_region_law (refine BG _ _ 33 bD bD bD bD (HD.o.ap _) ?_)
 all_goals
  go_wp2;go_ret;exact⟨rfl,HD.o.fin,HD.o.keep⟩
theorem DB:Lu prog 27 131 8 (.agg OC.k):=⟨by kernel_rfl,by kernel_rfl,by kernel_rfl,fun W=>by kernel_rfl,fun W=>by kernel_rfl,by kernel_rfl,by
 intro u hu;simp only [Value.cells,Ac,Ab,or_false] at hu;rcases hu with rfl | rfl | rfl | rfl | rfl | rfl | rfl | rfl<;>rfl⟩
theorem Tt(xs:List TV)(L i g c B:Nat)(hL:xs.length=L)(hi:i<L)(E:L<=1000)(w:World)(hr:w.ownsRow B 131 8 (pF (some (A_ g 0)) L c) L (xs.flatMap BE)):
  Calls prog 158 #[pF (some (A_ g 0)) L c,I_ (i:Int),I_ ((i:Int)+1)] w fun e w'=>e = pJ (pF (some (A_ g 0)) (L - 1) c)/\AR BE 8 w' (some (A_ g 0)) c (xs.eraseIdx i)/\Aa [g] w w':=by
 obtain⟨X,A,T,W2,D⟩:=DB.del CF FB hL hi E w hr;have hs1:=D.s1;have M:=D.s2;have N:=D.s3;have O:=D.s4;have G:=D.cl 27;have F:=D.cl;have HD:=lH D;have J:((i:Int)==(i:Int)+1)=false:=by simp;omega
 clear D hr hL hi;go_enter func158,ntmps158;go_wp2_with fail
 go_region_law (refine BG _ _ 27 bD bD bD bD (HD.o.ap _) ?_)
 all_goals
  go_wp2;go_ret;exact⟨rfl,HD.o.fin,HD.o.keep⟩
theorem Qw{w:World}{B g k:Nat}{F G:TypeId}{E cb:Array Value}(hv:Blk w B F E)(hg:Blk w g G cb)(hne:B≠g)(D:cb.size≠0)(lb c:Nat):
  (callFunc 284 #[pF (some (A_ B 0)) 1 1,pF (some (A_ g k)) lb c]).run prog w = .ok (.value (pI false)) w:=by
 rw [run_callFunc_extern func284 bC bC bC (e:=Extern.SlicesOverlaps.overlaps #[128,128] #[4]) bC,
  Lib.run_overlaps_apart w 128 4 55 Ip.ht 5 Ip.sz (A_ B 0) (A_ g k) 1 1 lb c hne F G E.size cb.size (by unfold Blk at hv;simp [World.shape?,hv]) (by unfold Blk at hg;simp [World.shape?,hg]) D (hv.frozen 0) (hv.frozen _)]
 rfl
def KO(B:Nat)(xs:List EX)(r:EX)(L i:Nat)(S:List Nat)(w:World):Ending->World->Prop:=fun e w'=>∃a c,e = pJ (pF a (L+1) c)/\Ku w' a c (xs.take i++r::xs.drop i)/\Aa S w w'/\∀g o,a=some ⟨g,o,none⟩->B<=g
theorem cP(xs:List EX)(r:EX)(L c B vb:Nat)(a:Option Addr)(hL:xs.length=L)(U:L<=1000)(w:World)(hB:B<=w.heap.size)(hr:w.ownsRow B 55 5 (pF a L c) L (xs.flatMap B8))(hv:Blk w vb 55 (B8 r).toArray):
  Calls prog 269 #[pF a L c,I_ (L:Int),pF (some (A_ vb 0)) 1 1] w (KO B xs r L L (pF a L c).ownBlock.toList w):=by
 have T:AR B8 5 w (some (A_ vb 0)) 1 [r]:=AR.of_cells Cv hv bA (by simp [B8]);obtain⟨i0,z,F,G,J,M,N⟩:=Ck Ip.hi;obtain⟨v',w',h1,h2,h3⟩:=AR.app (c:=1) prog underlying128 F G J rfl M bE Cv FA (show w.ownsRow B 55 5 (pF a L c) xs.length (xs.flatMap B8) by rw [hL];exact hr) hB T bG N 128;obtain⟨a',c',rfl,O,E⟩:=AR.of_row Cv h2;have D:KO B xs r L L (pF a L c).ownBlock.toList w (pJ (.slice a' (xs++[r]).length c')) w':=⟨a',c',by simp [hL],by rw [<- hL,List.take_length,List.drop_length];exact O,(Aa.refl _ w).grown h3 (fun k hk=>.inl iX),E⟩;obtain⟨q,hq⟩:=eX ((xs++[r]).length);rw [hq] at h1 D;have HF:=lH D;obtain⟨X,hX⟩:∃X,∀W,(AV 128 (pF a L c) (some (I_ (L:Int))) none none).run prog W = .ok X W:=by
  rcases hr.2 with⟨h0,h1⟩ | ⟨g,cap,cur,h0,hb,hg,Y,_⟩
  ·have h1:L=0:=h1
   subst h1;injection h0 with h0 _ h2
   subst h0;subst h2;exact⟨pF none 0 0,fun W=>by kernel_rfl⟩
  ·injection h0 with h0 _ h2
   subst h0;subst h2;exact⟨_,fun W=>Ip.s_l W g 0 L c L (Aw _) Y⟩
 have af:((L:Int)==(L:Int))=true:=bA;clear T F G J M N h2 h3 O D hq hr hv hL;simp only [Bp] at h1;go_enter func269,ntmps269;go_wp2_with (at_builtin;refine Au _ rfl _ _ 128 rfl rfl rfl h1 ?_);go_ret;exact HF.o
theorem Y7(xs:List EX)(r:EX)(L i g c B M:Nat)(hL:xs.length=L)(hi:i<L)(E:L+1<=c)(F:L<=1000)(w:World)(hr:w.ownsRow B 55 5 (pF (some (A_ g 0)) L c) L (xs.flatMap B8))(hv:Blk w M 55 (B8 r).toArray)(hne:M≠g):
  Calls prog 269 #[pF (some (A_ g 0)) L c,I_ (i:Int),pF (some (A_ M 0)) 1 1] w (KO B xs r L i [g] w):=by
 have J:=lH (AZ hr g iW);obtain⟨W1,W2,hI⟩:=Ip.ins Cv FA r hL hi E F w hr hv hne;obtain⟨cs,D⟩:=DP hr rfl;have G:cs.size≠0:=by
  rcases hr.2 with⟨h0,_⟩ | ⟨N,c',cur,e1,hb,hg,aa,U,hs,af⟩
  ·cases h0
  ·injection e1 with e1 _ e2
   injection e1 with e1;injection e1 with e1 _
   subst e1;subst e2;have h1:Blk w g 55 cur:=hg;unfold Blk at h1 D;rw [h1] at D;injection D with D;injection D with D
   rw [<- D,hs];omega
 have ab:=fun k lb c=>Qw (k:=k) hv D hne G lb c;have hs1:=hI.s1;have ac:=hI.s2;have ad:=hI.s3;have ae:=hI.s4;have O:=hI.c1;have T:=hI.c2;have HI:=lH hI;have hw1:IntKind.i64.wrap ((L:Int)+1)=(L:Int)+1:=IntWalk.i64_in _ bB;have ag:IntKind.i64.wrap ((i:Int)+1)=(i:Int)+1:=IntWalk.i64_in _ bB;have X:((i:Int)==(L:Int))=false:=by simp;omega
 have Y:¬(c:Int)<(L:Int)+1:=bB;clear hI hr hv D G hL hi E hne;go_enter func269,ntmps269;go_wp2_with fail;go_region;all_goals
  go_wp2;go_ret;exact⟨_,_,rfl,HI.o.fin,HI.o.keep,fun N o' e=>by(injection e with e;injection e with e _;rw [<- e];exact J.o)⟩
theorem Y6(xs:List EX)(r:EX)(L i g c B O:Nat)(hL:xs.length=L)(hi:i<L)(D:c<L+1)(E:L<=1000)(w:World)(M:B<=w.heap.size)(hr:w.ownsRow B 55 5 (pF (some (A_ g 0)) L c) L (xs.flatMap B8))(hv:Blk w O 55 (B8 r).toArray):
  Calls prog 269 #[pF (some (A_ g 0)) L c,I_ (i:Int),pF (some (A_ O 0)) 1 1] w (KO B xs r L i [g] w):=by
 have F:=lH M;clear M;obtain⟨N,G,W1,W2,W3,hI⟩:=Ip.insG (ti:=3) underlying3 bE Cv FA r hL hi D E w hr hv;have hs1:=hI.s1;have aa:=hI.s2;have ab:=hI.s3;have ac:=hI.s4;have J:=hI.ap 128;have T:=hI.c1;have U:=hI.c2;have HI:=lH hI;have hw1:IntKind.i64.wrap ((L:Int)+1)=(L:Int)+1:=IntWalk.i64_in _ bB;have ad:IntKind.i64.wrap ((i:Int)+1)=(i:Int)+1:=IntWalk.i64_in _ bB;have ae:IntKind.i64.wrap ((L:Int)+1 - (i:Int))=(L:Int)+1 - (i:Int):=IntWalk.i64_in _ bB;have X:((i:Int)==(L:Int))=false:=by simp;omega
 have Y:(c:Int)<(L:Int)+1:=bB;clear hI hr hv hL hi D;go_enter func269,ntmps269;go_wp2_with (at_builtin;refine Lib.wpList_append_run _ rfl _ _ _ _ rfl _ _ rfl rfl _ _ J ?_);go_region;all_goals
  go_wp2;go_ret;exact⟨_,_,rfl,HI.o.fin,HI.o.keep.mono bA,fun g' o' e=>by(injection e with e;injection e with e _;rw [<- e];exact A8 F.o HI.o.ge)⟩
theorem UO(xs:List EX)(r:EX)(L i c B E:Nat)(a:Option Addr)(hL:xs.length=L)(hi:i<=L)(D:L<=1000)(w:World)(F:B<=w.heap.size)(hr:w.ownsRow B 55 5 (pF a L c) L (xs.flatMap B8))(hv:Blk w E 55 (B8 r).toArray)(hne:∀g,(pF a L c).ownBlock=some g->E≠g):
  Calls prog 269 #[pF a L c,I_ (i:Int),pF (some (A_ E 0)) 1 1] w (KO B xs r L i (pF a L c).ownBlock.toList w):=by
 rcases pP i L with h | h
 ·rcases hr.2 with⟨h0,h1⟩ | ⟨g,cap,cur,h0,hb,hg,G,_⟩
  ·have h1:L=0:=h1
   omega
  ·injection h0 with h0 _ h2
   subst h0;subst h2;rcases pP c (L+1) with h3 | h3
   ·exact Y6 xs r L i g c B E hL h h3 D w F hr hv
   ·exact Y7 xs r L i g c B E hL h h3 D w hr hv (hne g rfl)
 ·obtain rfl:i=L:=bB;exact cP xs r i c B E a hL D w F hr hv
def F4(B:Nat)(w:World)(u:Value)(l:List EX):Prop:=∃a c,u = pF a l.length c/\Ku w a c l/\∀g o,a=some ⟨g,o,none⟩->B<=g
theorem F4.none_(B:Nat)(w:World):F4 B w (pF none 0 0) []:=⟨none,0,rfl,AR.none_,fun _ _ e=>by cases e⟩
theorem SS(a:Option Addr)(c:Nat)(L:List EX)(n:Nat)(hn:L.length=n)(hL:n<=1000)(at_:Int)(w:World)(E:Nat->Addr)(hE:Fp w E)(h:Ku w a c L):
  Calls prog 241 #[pF a n c,I_ at_] w (fun e w'=>∃u,e = pJ (.tuple #[u,I_ (Cl L at_).2])/\F4 w w' u (Cl L at_).1/\Aa [] w w'):=by
 obtain⟨b1,hb1⟩:=eX (Ew L);have HR:=lH (JU a c L n hn bB b1 hb1 w h);have HH:=lH h;have HN:=lH hn;have HE:=lH hE;have HB:=lH hb1;have e5:=hE.cell 6 bA;have e6:=hE.cell 7 bA;clear h hn hE hb1;cases b1 with
 | false=>
  have HC:Hi (Cl L at_=([],81)):=lH (by unfold Cl;rw [HB.o];rfl);rw [HC.o];dsimp only;go_enter func241,ntmps241;go_wp2_with fail;refine HR.o.mono ?_;rintro e w1 ⟨rfl,hk1⟩;have e5:=(HE.o.keep hk1).cell 6 bA;have HK1:=lH hk1;clear hk1;go_wp2_with fail;refine(Lk w1 (HE.o.keep HK1.o)).mono ?_;rintro e w2 ⟨rfl,rfl⟩;go_wp2_with fail;exact bodyPost_ret (v:=.tuple #[pF none 0 0,I_ 81]) (by simp [results,results241,go_sem]) rfl ⟨_,rfl,F4.none_ _ _,HK1.o⟩
 | true=>
  by_cases hat:at_<0\/(n:Int)<=at_
  ·have HC:Hi (Cl L at_=([],82)):=lH (by unfold Cl;rw [HB.o,if_pos rfl,if_pos lQ])
   rw [HC.o];dsimp only;have hf:at_<0\/(¬at_<0/\at_≥(n:Int)):=bB;clear hat;go_enter func241,ntmps241;go_wp2_with fail;refine HR.o.mono ?_;rintro e w1 ⟨rfl,hk1⟩;have e6:=(HE.o.keep hk1).cell 7 bA;have HK1:=lH hk1;clear hk1;rcases hf with hf | ⟨U,X⟩
   ·go_wp2_with fail
    refine(I4 w1 (HE.o.keep HK1.o)).mono ?_;rintro e w2 ⟨rfl,rfl⟩;go_wp2_with fail;exact bodyPost_ret (v:=.tuple #[pF none 0 0,I_ 82]) (by simp [results,results241,go_sem]) rfl ⟨_,rfl,F4.none_ _ _,HK1.o⟩
   ·go_wp2_with fail
    refine(I4 w1 (HE.o.keep HK1.o)).mono ?_;rintro e w2 ⟨rfl,rfl⟩;go_wp2_with fail;exact bodyPost_ret (v:=.tuple #[pF none 0 0,I_ 82]) (by simp [results,results241,go_sem]) rfl ⟨_,rfl,F4.none_ _ _,HK1.o⟩
  ·obtain⟨i,rfl,hi⟩:=MA (i:=at_) (u:=n) bB bB
   have HC:Hi (Cl L (i:Int)=(L.eraseIdx i,0)):=lH (by unfold Cl;rw [HB.o,if_pos rfl,if_neg lQ,pW]);rw [HC.o];dsimp only;have U:¬((i:Int)<0):=bB;have X:¬((n:Int)<=(i:Int)):=bB;have ad:IntKind.i64.wrap ((i:Int)+1)=(i:Int)+1:=IntWalk.i64_in _ bB;clear hat;go_enter func241,ntmps241;go_wp2_with fail;refine HR.o.mono ?_;rintro e w1 ⟨rfl,hk1⟩;have HK1:=lH hk1;clear hk1;go_wp2_with fail;refine(KB a c L n HN.o bB w1 (HH.o.keeps HK1.o)).mono ?_;rintro e w2 ⟨a2,c2,rfl,Y,B,hk2⟩;obtain⟨g2,rfl⟩:∃g2,a2=some (A_ g2 0):=by
    rcases B.2 with⟨J,e1⟩ | ⟨g,cap,cur,J,_⟩
    ·have e1:n=0:=e1
     omega
    ·injection J with J _ _
     exact⟨g,J⟩
   have hg2:=AZ B g2 iW;have HK2:=lH hk2;have O:=lH B;have D:=lH hg2;clear Y B hk2 hg2;go_wp2_with fail;refine(Yi L n i g2 c2 _ HN.o hi hL w2 O.o).mono ?_;rintro e w3 ⟨rfl,G,hk3⟩;have N:Hi (Aa [] w w3):=lH ((HK1.o.trans HK2.o).own hk3 (fun y hy=>by simp only [Ac,Ab,or_false] at hy;have:=D.o;have:=HK1.o.size;omega));have T:=lH G;have F:(L.eraseIdx i).length=n - 1:=by rw [List.length_eraseIdx,if_pos (by rw [HN.o];exact hi),HN.o]
   have M:=lH F;clear G hk3 F;go_wp2_with fail;exact bodyPost_ret (v:=.tuple #[pF (some (A_ g2 0)) (n - 1) c2,I_ 0]) (by simp [results,results241,go_sem]) rfl ⟨_,rfl,⟨_,c2,by rw [M.o],T.o,fun g o e=>by(injection e with e;injection e with e _;rw [<- e];exact A8 HK1.o.size D.o)⟩,N.o⟩
theorem SR(a:Option Addr)(c:Nat)(L:List EX)(n:Nat)(hn:L.length=n)(hL:n<=999)(at_:Int)(r:EX)(w:World)(E:Nat->Addr)(hE:Fp w E)(h:Ku w a c L):
  Calls prog 240 #[pF a n c,I_ at_,pH (L_ r)] w (fun e w'=>∃u,e = pJ (.tuple #[u,I_ (BU L at_ r).2])/\F4 w w' u (BU L at_ r).1/\Aa [] w w'):=by
 obtain⟨b1,hb1⟩:=eX (Ew L);obtain⟨b2,hb2⟩:=eX (La r);obtain⟨wz,hwz⟩:=eX (w.alloc (.cells (L_ r) 55));have HZ:Hi (Aa [] w wz):=lH jV;have T:Hi (Blk wz w 55 (L_ r)):=lH nN;have HR:=lH (JU a c L n hn bB b1 hb1 wz (h.keeps HZ.o));have ab:=lH (I2 r b2 hb2);have HH:=lH (h.keeps HZ.o);have HN:=lH hn;have HE:=lH (hE.keep HZ.o);have HB:=lH hb1;have HB2:=lH hb2;clear h hn hE hb1 hb2;go_enter func240,ntmps240;go_wp2_with fail;clear hwz;refine HR.o.mono ?_;rintro e w1 ⟨rfl,hk1⟩;have HK1:=lH hk1;have e5:=(HE.o.keep hk1).cell 6 bA;have B:=T.o.keeps hk1 bA;have d0:=B.ce 0;have d1:=B.ce 1;have d2:=B.ce 2;have d3:=B.ce 3;have d4:=B.ce 4;have an:=lH B;clear hk1 B;cases b1 with
 | false=>
  have HC:Hi (BU L at_ r=([],81)):=lH (by unfold BU;rw [HB.o];rfl);go_wp2_with fail;refine(Lk w1 (HE.o.keep HK1.o)).mono ?_;rintro e w2 ⟨rfl,rfl⟩;go_wp2_with fail;exact bodyPost_ret (v:=.tuple #[pF none 0 0,I_ 81]) (by simp [results,results240,go_sem]) rfl ⟨_,by rw [HC.o],by rw [HC.o];exact F4.none_ _ _,HZ.o.trans HK1.o⟩
 | true=>
  go_wp2_with fail;refine(ab.o w1).mono ?_;rintro e w2 ⟨rfl,hk2⟩;have HK2:=lH (HK1.o.trans hk2);have e2:=(HE.o.keep HK2.o).cell 2 bA;have e6:=(HE.o.keep HK2.o).cell 7 bA;have B:=T.o.keeps HK2.o bA;clear d0 d1 d2 d3 d4 e5;have d0:=B.ce 0;have d1:=B.ce 1;have d2:=B.ce 2;have d3:=B.ce 3;have d4:=B.ce 4;have D:=lH B;clear hk2 B;cases b2 with
  | false=>
   have HC:Hi (BU L at_ r=([],80)):=lH (by unfold BU;rw [HB.o,if_pos rfl,HB2.o];rfl);go_wp2_with fail;refine(DH w2 (HE.o.keep HK2.o)).mono ?_;rintro e w3 ⟨rfl,rfl⟩;go_wp2_with fail;exact bodyPost_ret (v:=.tuple #[pF none 0 0,I_ 80]) (by simp [results,results240,go_sem]) rfl ⟨_,by rw [HC.o],by rw [HC.o];exact F4.none_ _ _,HZ.o.trans HK2.o⟩
  | true=>
   by_cases hat:at_<0\/(n:Int)<at_\/16<=n
   ·have HC:Hi (BU L at_ r=([],82)):=lH (by unfold BU;rw [HB.o,if_pos rfl,HB2.o,if_pos rfl,if_pos lQ])
    have hf:at_<0\/(¬at_<0/\(n:Int)<at_)\/(¬at_<0/\¬(n:Int)<at_/\(16:Int)<=(n:Int)):=bB;clear hat;rcases hf with hf | ⟨Y,aa⟩ | ⟨Y,aa,am⟩<;>
    ·go_wp2_with fail
     refine(I4 w2 (HE.o.keep HK2.o)).mono ?_;rintro e w3 ⟨rfl,rfl⟩;go_wp2_with fail;exact bodyPost_ret (v:=.tuple #[pF none 0 0,I_ 82]) (by simp [results,results240,go_sem]) rfl ⟨_,by rw [HC.o],by rw [HC.o];exact F4.none_ _ _,HZ.o.trans HK2.o⟩
   ·have hi:at_.toNat<=n:=bB;obtain⟨i,rfl⟩:∃i:Nat,at_=i:=⟨at_.toNat,by omega⟩;rw [pW] at hi;have HC:Hi (BU L (i:Int) r=(L.take i++r::L.drop i,0)):=lH (by unfold BU;rw [HB.o,if_pos rfl,HB2.o,if_pos rfl,if_neg lQ,pW]);have Y:¬((i:Int)<0):=bB;have aa:¬((n:Int)<(i:Int)):=bB;have am:¬((16:Int)<=(n:Int)):=bB;have J:(L.take i++r::L.drop i).length=n+1:=by have:=HN.o;simp;omega
    have G:=lH J;have HS:Hi (∀W,Aa [] w2 W->Aa [] w2 W/\W.cell? (A_ w 0)=some (pI r.allow)/\W.cell? (A_ w 1)=some (I_ r.addr)/\W.cell? (A_ w 2)=some (I_ r.bits)/\W.cell? (A_ w 3)=some (I_ r.from_)/\W.cell? (A_ w 4)=some (I_ r.to_)):=lH fun W hk=>⟨hk,(D.o.keeps hk bA).cell 0,(D.o.keeps hk bA).cell 1,(D.o.keeps hk bA).cell 2,(D.o.keeps hk bA).cell 3,(D.o.keeps hk bA).cell 4⟩;clear hat J e2 e6 d0 d1 d2 d3 d4;go_wp2_with fail;refine wp_region_held_drew (S:=(fun w':World=>Aa [] w2 w'/\w'.cell? (A_ w 0)=some (pI r.allow)/\w'.cell? (A_ w 1)=some (I_ r.addr)/\w'.cell? (A_ w 2)=some (I_ r.bits)/\w'.cell? (A_ w 3)=some (I_ r.from_)/\w'.cell? (A_ w 4)=some (I_ r.to_))) bC fX (fun hHeld=>?_);refine rQ 0 ?_;refine rQ 2 ?_;refine rQ 3 ?_;refine wpAnyH_ready (rs:=[1,4]) bC bA ?_;refine AllReadyH.cons rfl (fun K hK=>?_) ?_
    ·go_simp
     (refine(KB a c L n HN.o bB _ (HH.o.keeps (HK2.o.trans hHeld.1))).mono ?_;rintro r9 wb ⟨ac,cc,rfl,al,F,hck⟩)
     refine rO hK fX fun hHeld=>?_;clear hK K;refine rC 4 fun K hK=>?_;go_simp;refine rO hK fX fun hHeld=>?_;clear hK K;refine rC 5 fun K hK=>?_;go_simp
     (refine(UO L r n i cc w2 wb ac HN.o hi bB (wb.alloc (.cells (L_ r) 55)) (by(have:=hck.size;simp at this ⊢;omega)) (Ah F ((Aa.refl [] wb).alloc _) bA) (Blk.new wb 55 (L_ r)) (fun g hg=>by(have:=(F.lt g hg).2;omega))).mono ?_;rintro r8 wi ⟨U,X,rfl,O,N,M⟩;have hKI:Aa [] w2 wi:=((((Aa.refl [] w2).drew.trans hck).alloc _).own N (fun y hy=>by(have:=F.lt y bU;simp at this ⊢;omega))))
     refine rO hK fX fun hHeld=>?_;clear hK K;refine rQ 6 ?_;refine rQ 7 ?_;refine wpAnyH_done bC ?_ _
     (go_wp2_with fail;exact bodyPost_ret (v:=.tuple #[pF U (n+1) X,I_ 0]) (by simp [results,results240,go_sem]) rfl ⟨_,by rw [HC.o],by(rw [HC.o];exact⟨U,X,by rw [G.o],O,fun g o e=>A8 (A8 HZ.o.size HK2.o.size) (A8 bB (M g o e))⟩),(HZ.o.trans HK2.o).trans hKI⟩)
    refine AllReadyH.cons rfl (fun K hK=>?_) ?_
    ·go_simp
     refine rO hK fX fun hHeld=>?_;clear hK K;refine rC 1 fun K hK=>?_;go_simp
     (refine(KB a c L n HN.o bB _ (HH.o.keeps (HK2.o.trans hHeld.1))).mono ?_;rintro r9 wb ⟨ac,cc,rfl,al,F,hck⟩)
     refine rO hK fX fun hHeld=>?_;clear hK K;refine rC 5 fun K hK=>?_;go_simp
     (refine(UO L r n i cc (w2+1) w2 ac HN.o hi bB wb (by(have:=hck.size;simp at this ⊢;omega)) (by simpa using F) ((Blk.new w2 55 (L_ r)).drew.keeps hck bA) (fun g hg=>by(have:=(F.lt g hg).1;simp at this;omega))).mono ?_;rintro r8 wi ⟨U,X,rfl,O,N,M⟩;have hKI:Aa [] w2 wi:=(((((Aa.refl [] w2).alloc _).drew).trans hck).own N (fun y hy=>by(have:=F.lt y bU;simp at this ⊢;omega))))
     refine rO hK fX fun hHeld=>?_;clear hK K;refine rQ 6 ?_;refine rQ 7 ?_;refine wpAnyH_done bC ?_ _
     (go_wp2_with fail;exact bodyPost_ret (v:=.tuple #[pF U (n+1) X,I_ 0]) (by simp [results,results240,go_sem]) rfl ⟨_,by rw [HC.o],by(rw [HC.o];exact⟨U,X,by rw [G.o],O,fun g o e=>A8 (A8 HZ.o.size HK2.o.size) (A8 bB (M g o e))⟩),(HZ.o.trans HK2.o).trans hKI⟩)
    exact AllReadyH.nil
theorem Y3(n:Nat)(h0:0<n)(hn:n<=10000)(w:World):Calls prog 205 #[pF none 0 0,I_ (n:Int)] w fun e w'=>∃g G,e = pJ (pF (some (A_ g 0)) 0 G)/\w'.ownsRow w 131 8 (pF (some (A_ g 0)) 0 G) 0 []/\Aa [] w w':=by
 obtain⟨i0,zz,U,X,Y,M,T⟩:=Ck DB.hi;have hb:n*i0.bytes<=281474976710656:=A8 (Nat.mul_le_mul hn T) bE;have F:=Lib.run_append_nil_zeros (P:=prog) w 27 3 27 131 i0 zz .i64 .i64 DB.ht underlying3 U X n h0 bB bB hb;obtain⟨G,hG⟩:=eX (grownCap w n 0 131);have N:n<=G:=by rw [<- hG];exact grownCap_ge _ _ _ _
 have J:G<=maxLen:=by rw [<- hG];exact grownCap_le_maxLen _ _ _ _ bZ
 rw [hG] at F;obtain⟨D,B⟩:=eX (AN zz.cells n++AN zz.cells (G - n));rw [B] at F;have O:D.size=G*8:=by
  rw [<- B];simp [AN,M];omega
 obtain⟨W1,E⟩:=eX (w.drew.alloc (.cells D 131));rw [E] at F;have HROW:Hi (W1.ownsRow w 131 8 (pF (some (A_ w 0)) 0 G) 0 []):=lH (by
  rw [<- E];exact⟨by simp,.inr ⟨w,G,D,rfl,Aw _,Blk.new w.drew 131 D,Ba _,J,O,by simp⟩⟩)
 have HK:Hi (Aa [] w W1):=lH (by rw [<- E];exact((Aa.refl [] w).drew).alloc _);have ad:∀W,(AV 27 (pF none 0 0) none (some (I_ 0)) none).run prog W = .ok (pF none 0 0) W:=fun W=>by kernel_rfl
 have hs1:∀W,(AV 27 (pF (some (A_ w 0)) n G) none (some (I_ 0)) none).run prog W = .ok (pF (some (A_ w 0)) 0 G) W:=fun W=>DB.s_h W w 0 n G 0 (Ba _);have i1:¬(n:Int)<0:=bB;have i2:(0:Int)<(n:Int):=bB;have hw:IntKind.i64.wrap (n:Int)=(n:Int):=IntWalk.i64_in _ bB;have ae:wrap64 (n:Int)=(n:Int):=IntWalk.wrap64_in _ ⟨by omega,by omega⟩;clear U X Y M T hb hG N J B O E h0 hn;go_enter func205,ntmps205;go_wp2_with (at_builtin;refine Lib.wpList_append_run _ rfl _ _ _ _ rfl _ _ rfl rfl _ _ F ?_);go_ret;exact⟨_,_,rfl,HROW.o,HK.o⟩
theorem JW(sb:Nat)(ty:TypeId)(a1 a2 a3:Option Addr)(c1 c2 c3 B D U:Nat)(V1 V2 V3:List TV)(h1:V1.length=B)(h2:V2.length=D)(h3:V3.length=U)(h0:0<B+D+U)(hn:B+D+U<=10000)(w:World)
 (hs:Blk w sb ty #[pF a1 B c1,pF a2 D c2,pF a3 U c3])(af:AR BE 8 w a1 c1 V1)(hv2:AR BE 8 w a2 c2 V2)(ag:AR BE 8 w a3 c3 V3):
  Calls prog 162 #[pF (some (A_ sb 0)) 3 3] w fun e w'=>∃a c,e = pJ (pF a (B+D+U) c)/\AR BE 8 w' a c (V1++V2++V3)/\Aa [] w w'/\∀g o,a=some (A_ g o)->w.heap.size<=g:=by
 obtain⟨N,hN⟩:=eX (B+D+U);have HG:=lH (Y3 N bB bB w);have k1:IntKind.i64.wrap (B:Int)=(B:Int):=IntWalk.i64_in _ bB;have a7:wrap64 (B:Int)=(B:Int):=IntWalk.wrap64_in _ ⟨by omega,by omega⟩;have k2:IntKind.i64.wrap ((B:Int)+(D:Int))=(B:Int)+(D:Int):=IntWalk.i64_in _ bB;have k3:IntKind.i64.wrap ((B:Int)+(D:Int)+(U:Int))=(N:Int):=by rw [show(B:Int)+(D:Int)+(U:Int)=(N:Int) by omega];exact IntWalk.i64_in _ bB
 have j1:¬(B:Int)<0:=bB;have j2:¬(B:Int)+(D:Int)<0:=bB;have j3:¬(N:Int)<0:=bB;have HSB:=lH hs;have H1:=lH af;have H2:=lH hv2;have H3:=lH ag;have L1:=lH h1;have L2:=lH h2;have L3:=lH h3;have E:=lH hN;have HLE:=lH hn;have s0:=hs.ce 0;have s1:=hs.ce 1;have s2:=hs.ce 2;clear hs af hv2 ag h1 h2 h3 hN hn h0;go_enter func162,ntmps162;go_wp2;refine wp_loop_rounds 4 ?_;rw [rounds_succ];go_wp2_with fail;rw [rounds_succ];go_wp2_with fail;rw [rounds_succ];go_wp2_with fail;rw [rounds_succ];go_wp2_with fail;refine HG.o.mono ?_;rintro e w1 ⟨g,G,rfl,hrow,hk⟩;obtain⟨i0,zz,F,J,M,O,T⟩:=Ck DB.hi;obtain⟨x1,u1,r1,o1,g1⟩:=AR.app (c:=c1) prog (ys:=([]:List TV)) DB.ht F J M rfl O bE CF FB hrow hk.size (H1.o.keeps hk) (by have:=E.o;have:=HLE.o;rw [L1.out];simp;omega) T 27;have q1:Aa [] w u1:=hk.own ((Aa.refl (EZ (pF (some (A_ g 0)) 0 G)).toList w1).grown g1 (fun k hk=>.inl iX)) (fun y hy=>AZ hrow y hy);rw [BH] at o1;obtain⟨x2,u2,r2,o2,g2⟩:=AR.app (c:=c2) prog DB.ht F J M rfl O bE CF FB o1 q1.size (H2.o.keeps q1) (by have:=E.o;have:=HLE.o;rw [L1.out,L2.out];omega) T 27;have q2:Aa [] w u2:=q1.own ((Aa.refl x1.ownBlock.toList u1).grown g2 (fun k hk=>.inl iX)) (fun y hy=>AZ o1 y hy);obtain⟨x3,u3,r3,o3,g3⟩:=AR.app (c:=c3) prog DB.ht F J M rfl O bE CF FB o2 q2.size (H3.o.keeps q2) (by have:=E.o;have:=HLE.o;rw [Al,L1.out,L2.out,L3.out];omega) T 27;have q3:Aa [] w u3:=q2.own ((Aa.refl x2.ownBlock.toList u2).grown g3 (fun k hk=>.inl iX)) (fun y hy=>AZ o2 y hy);obtain⟨a',c',rfl,ae,X⟩:=AR.of_row CF o3;have Y:(V1++V2++V3).length=N:=by rw [Al,Al,L1.out,L2.out,L3.out];exact E.o
 rw [Y] at r3;rw [L1.out] at r1;rw [L2.out] at r2;rw [L3.out] at r3;have t0:=hk.cellsV _ _ s0;have t1:=q1.cellsV _ _ s1;have t2:=q2.cellsV _ _ s2;have HFIN:Hi (∃a c,pJ (.slice a' N c') = pJ (pF a (B+D+U) c)/\AR BE 8 u3 a c (V1++V2++V3)/\Aa [] w u3/\∀g o,a=some (A_ g o)->w.heap.size<=g):=lH ⟨a',c',by rw [E.o],ae,q3,X⟩;clear hrow hk F J M O T o1 g1 q1 o2 g2 q2 o3 g3 q3 ae X Y s0 s1 s2;go_wp2_with fail;refine wp_loop_rounds 4 ?_;rw [rounds_succ];go_wp2_with (at_builtin;refine Au _ rfl _ _ 27 rfl rfl rfl r1 ?_);rw [rounds_succ];go_wp2_with (at_builtin;refine Au _ rfl _ _ 27 rfl rfl rfl r2 ?_);rw [rounds_succ];go_wp2_with (at_builtin;refine Au _ rfl _ _ 27 rfl rfl rfl r3 ?_);rw [rounds_succ];go_wp2_with fail;go_ret;exact HFIN.o
end
section
open Go.RowKit Go.Shelf
attribute [local go_sem] pN Lr Ls Lp Lq
attribute [local go_sem ↓] wp_at_zero wp_at_succ
def comA(c:FW):Array Value:=(K_ c)
def MS(c:FW):FW:={ c with name:=Rl 41 c.name,key:=Rl 65 c.key }
theorem Ts(c:FW)(w:World):Calls prog 27 #[pH (comA c)] w fun e w'=>e = pJ (pH (comA (MS c)))/\Aa [] w w':=by
 obtain⟨B,E⟩:∃m:Nat,min c.name.size 41=m:=⟨_,rfl⟩;obtain⟨D,F⟩:∃m:Nat,min c.key.size 65=m:=⟨_,rfl⟩;obtain⟨O,z2,T⟩:=Iy c.name.size 41 41 B E;obtain⟨J,M,N⟩:=Iy c.key.size 65 65 D F;have hC:comA (MS c)=#[pE pK c.verb,Dz (c.name.extract 0 B),I_ c.want,I_ c.at_,pI c.rule.allow,I_ c.rule.addr,I_ c.rule.bits,I_ c.rule.from_,I_ c.rule.to_,Dz (c.key.extract 0 D),I_ c.n,I_ c.m]:=by rw [<- E,<- F];rfl
 rw [hC];clear hC E F;unfold comA;obtain⟨w0,hw0⟩:=eX ((w.alloc (.cells #[pE pK c.verb,Dz (c.name.extract 0 B),I_ c.want,I_ c.at_,pI c.rule.allow,I_ c.rule.addr,I_ c.rule.bits,I_ c.rule.from_,I_ c.rule.to_,Dz (c.key.extract 0 D),I_ c.n,I_ c.m] 57)).alloc (.cells #[pE pK 0,Dz ⟨#[]⟩,I_ 0,I_ 0,pI false,I_ 0,I_ 0,I_ 0,I_ 0,Dz ⟨#[]⟩,I_ 0,I_ 0] 57));have HK0:Hi (Aa [] w w0):=lH lX;have hb0:Blk w0 w 57 #[pE pK c.verb,Dz (c.name.extract 0 B),I_ c.want,I_ c.at_,pI c.rule.allow,I_ c.rule.addr,I_ c.rule.bits,I_ c.rule.from_,I_ c.rule.to_,Dz (c.key.extract 0 D),I_ c.n,I_ c.m]:=by rw [<- hw0];exact(Blk.new w _ _).alloc _
 have hb1:Blk w0 (w+1) 57 #[pE pK 0,Dz ⟨#[]⟩,I_ 0,I_ 0,pI false,I_ 0,I_ 0,I_ 0,I_ 0,Dz ⟨#[]⟩,I_ 0,I_ 0]:=by rw [<- hw0];exact Ar _ _ _ _ bA
 have G:=lH (Blk.rng hb0 0 #[pE pK c.verb,Dz (c.name.extract 0 B),I_ c.want,I_ c.at_,pI c.rule.allow,I_ c.rule.addr,I_ c.rule.bits,I_ c.rule.from_,I_ c.rule.to_,Dz (c.key.extract 0 D),I_ c.n,I_ c.m] (fun j v h=>by simpa using h));have HB1:=lH hb1;clear hb0 hb1;go_enter func27,ntmps27;go_upto_region 3 with fail
 clear hw0;go_wp2_with (first | (refine Ay bD 57 _ bD w 0 bD #[pE pK c.verb,Dz (c.name.extract 0 B),I_ c.want,I_ c.at_,pI c.rule.allow,I_ c.rule.addr,I_ c.rule.bits,I_ c.rule.from_,I_ c.rule.to_,Dz (c.key.extract 0 D),I_ c.n,I_ c.m] _ G.o underlying57 rfl bC ?_) | (refine wpList_store_row bD 57 _ _ bD (w+1) #[pE pK c.verb,Dz (c.name.extract 0 B),I_ c.want,I_ c.at_,pI c.rule.allow,I_ c.rule.addr,I_ c.rule.bits,I_ c.rule.from_,I_ c.rule.to_,Dz (c.key.extract 0 D),I_ c.n,I_ c.m] bD bD 57 #[pE pK 0,Dz ⟨#[]⟩,I_ 0,I_ 0,pI false,I_ 0,I_ 0,I_ 0,I_ 0,Dz ⟨#[]⟩,I_ 0,I_ 0] HB1.o bC rfl aG ?_));refine bodyPost_ret (v:=pH #[pE pK c.verb,Dz (c.name.extract 0 B),I_ c.want,I_ c.at_,pI c.rule.allow,I_ c.rule.addr,I_ c.rule.bits,I_ c.rule.from_,I_ c.rule.to_,Dz (c.key.extract 0 D),I_ c.n,I_ c.m]) ?_ rfl ⟨rfl,HK0.o.own (Br w0 (w+1) _) bF⟩;exact results_cell_row rfl _ _ (w+1) 57 #[pE pK c.verb,Dz (c.name.extract 0 B),I_ c.want,I_ c.at_,pI c.rule.allow,I_ c.rule.addr,I_ c.rule.bits,I_ c.rule.from_,I_ c.rule.to_,Dz (c.key.extract 0 D),I_ c.n,I_ c.m] (0,0) _ rfl (HB1.o.row _) underlying57 rfl bC
end
end Go.Proofs.YtjieiikpolahfaaGreatDoor
