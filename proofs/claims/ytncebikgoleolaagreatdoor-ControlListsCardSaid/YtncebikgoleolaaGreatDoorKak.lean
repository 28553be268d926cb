/- Steps. -/
import Derived.Test.YtncebikgoleolaaGreatDoorKaj
import Derived.Deep.RegionHeld3
set_option maxRecDepth 100000
set_option maxHeartbeats 8000000
set_option linter.all false
namespace Go.Proofs.YtncebikgoleolaaGreatDoor
open Tryz
open Act renaming put→By
open _root_.And renaming intro→Bl
open _root_.Array renaming getElem?_eq_some_iff→Ai,length_toList→BX
open _root_.Bool renaming and_eq_true→Af
open Builtin renaming append_→BI
open Ending renaming returned→pJ
open Instr renaming findNow→B0,lookup→Ed,slice→AV,typeAssert→Dr
open IntKind renaming i64→pK
open _root_.List renaming cons_append→AL,drop_zero→BC,getElem?_cons_zero→Aj,getElem?_eq_getElem→Aq,length_append→Al,length_cons→Av,length_drop→B1,length_map→Bd,length_nil→D4,length_take→Ax,mem_append→AQ,mem_cons→Ac,mem_map→BO,mem_singleton→Ag,nil_append→BH,not_mem_nil→Ab,push_toArray→Cd,take_append_drop→Dn,take_of_length_le→Ak
open _root_.Nat renaming add_zero→AT,le_refl→Aw,le_trans→A8,lt_of_lt_of_le→BS,lt_or_ge→pP,mul_one→pR,reduceAdd→pL,zero_add→AW,zero_le→Ba
open Oper renaming semAt_some→pN
open Value renaming agg→pH,bool→pI,int→pE,ownBlock→EZ,pointer→pG,slice→pF,string→Dz
open World renaming ownsRow_nil→BQ,setRow_alloc_new→pQ
section
open Go.RowKit Go.Shelf
attribute [local go_sem] pN Lr Ls Lp Lq
attribute [local go_sem ↓] wp_at_zero wp_at_succ
def fF(met:List Int):Nat:=(if met.contains 0 then 0 else 1)+(if met.contains 1 then 0 else 1)+(if met.contains 2 then 0 else 1)+(if met.contains 3 then 0 else 1)
theorem RV:∀(L:List Bq) (met:List Int),EB met L=true->L.length<=fF met
 | [],_,_=>Ba _
 | j::l,met,h=>by
  simp only [EB,Af,Bool.not_eq_true'] at h;obtain⟨⟨hj,hm⟩,hl⟩:=h;have ih:=RV l _ hl;simp only [Gn,Af,decide_eq_true_eq] at hj;have hc:j.conn=0\/j.conn=1\/j.conn=2\/j.conn=3:=bB;have hx:∀k:Int,(met++[j.conn]).contains k=(met.contains k||decide (k=j.conn)):=fun k=>by
   simp only [List.contains_eq_mem,AQ,Ag,Bool.decide_or]
  unfold fF at ih ⊢;simp only [hx] at ih;rw [Av];rcases hc with e | e | e | e<;>rw [e] at ih hm<;>simp only [hm]<;>simp at ih ⊢<;>omega
theorem Wq{L:List Bq}(h:EB [] L=true):L.length<=4:=RV L [] h
theorem Ye{c:BN}(h:JY c=true):EB [] c.jobs=true:=by
 unfold JY at h;simp only [Af] at h;exact h.1.1.1.1
theorem OH(v:CV)(c:BN)(conn:Int)(line:ByteArray)(O:line.size<=1000000)(w:World)(hE:Et w)(h:Cg w v c):
  Calls prog 15 #[pH (C_ v),I_ conn,Dz line] w (Xy w (Fj c conn line)):=by
 obtain⟨w0,hw0⟩:=eX ((w.alloc (.cells (C_ v) 36)).alloc (.cells Hh.k 36));have hk0:Aa [] w w0:=by rw [<- hw0];exact((Aa.refl [] w).alloc _).alloc _
 have ar:w0.heap.size=w.heap.size+2:=by rw [<- hw0];simp
 have hb0:Blk w0 w 36 (C_ v):=by rw [<- hw0];exact(Blk.new w _ _).alloc _
 have HB1:Hi (Blk w0 (w+1) 36 (ctlA cv0)):=lH lW;have q:=hb0.rl;have HB0:=lH hb0;have HK0:=lH hk0;have HS0:=lH ar;have HC:=JX (pF v.oa v.on v.oc) (pF v.r.s.ga v.gn v.r.s.gc) (pF v.r.s.ua v.un v.r.s.uc) (pF v.r.s.fa v.fn v.r.s.fc) (pF v.r.la v.ln v.r.lc) (I_ v.seq) (pF v.pa v.pn v.pc) (I_ v.nx) (pF v.da v.dn v.dc) v.ja v.jn v.jc c.jobs h.jn (by have:=h.jl;omega) conn w0 (h.j.keeps hk0);obtain⟨b,hb⟩:=eX (JY c);obtain⟨bz,aj⟩:=eX ((BF c.jobs conn).isSome);obtain⟨pz,aq⟩:=eX ((BF c.jobs conn).getD 0);obtain⟨R,hR⟩:=eX (Fj c conn line);rw [hR];unfold Fj at hR;rw [hb,aj] at hR;rw [aj,aq] at HC;have HR:=lH hR;have H:=lH h;have HB:=lH hb;have ag:=lH O;have HE:Hi (∀W,Aa [] w W->Et W):=lH fun W hk=>hE.keeps hk bA;clear hk0 ar hb0 h hb aj aq hR O hE;go_enter func15,ntmps15;go_wp2_with fail;refine QI 0 rfl ?_;go_wp2_with fail;refine HC.mono ?_;rintro e w1 ⟨rfl,hk1⟩;have HK1:=lH (HK0.o.trans hk1);have HC0:=lH (HB0.o.keeps hk1 bA);have an:=lH (HB1.o.keeps hk1 bA);clear hw0 hk1 HC q;have q:=HC0.o.rl;go_wp2_with fail;refine(Ij v c b HB.o _ (H.o.keeps HK1.o)).mono ?_;rintro e w2 ⟨rfl,hk2⟩;have HK2:=lH (HK1.o.trans hk2);have HD0:=lH (HC0.o.keeps hk2 bA);have M:=lH (an.o.keeps hk2 bA);clear hk2 q HC0 an;have q:=HD0.o.rl;cases b with
 | false=>
  obtain rfl:R=(Hl,190):=by rw [<- HR.o];rfl
  go_wp2_with fail;go_step3;refine(show(0:Nat)=0/\Code.wp _ _ _ _ _ from⟨rfl,?_⟩);go_wp2_with fail;refine(ErC.told_why 190 _ (HE.o _ HK2.o)).mono ?_;rintro e wy ⟨rfl,B⟩;have F:=lH (HK2.o.trans B);have D:=lH (M.o.keeps B bA);clear B;go_wp2_with (refine wpList_store_row bD 36 _ _ bD (w+1) (ctlA cv0) bD bD 36 (ctlA cv0) D.o (AD cv0) rfl (Bc cv0) ?_);rw [Exit.noGoto_ret];refine bodyPost_ret (v:=.tuple #[pH (ctlA cv0),I_ 190]) ?_ rfl ⟨cv0,rfl,Gz _,G0 _,?_⟩
  ·exact AS rfl _ _ (w+1) 36 (ctlA cv0) _ (I_ 190) rfl rfl (D.o.row _) underlying36 rfl (AD _)
  ·exact F.o.own (Br _ _ _) bF
 | true=>
  have X:Hi ((if conn<0\/4<=conn then((Hl,2):BN×Int) else if bz=true then(Hl,191) else({ c with jobs:=c.jobs++[{ job0 with conn:=conn,phase:=1,line:=line }] },0))=R):=lH HR.o;by_cases h1:conn<0
  ·obtain rfl:R=(Hl,2):=by rw [<- X.o,if_pos (.inl h1)]
   go_wp2_with fail;go_step3;refine(show(0:Nat)=0/\Code.wp _ _ _ _ _ from⟨rfl,?_⟩);go_wp2_with fail;refine(ErC.told_why 2 _ (HE.o _ HK2.o)).mono ?_;rintro e wy ⟨rfl,B⟩;have F:=lH (HK2.o.trans B);have D:=lH (M.o.keeps B bA);clear B;go_wp2_with (refine wpList_store_row bD 36 _ _ bD (w+1) (ctlA cv0) bD bD 36 (ctlA cv0) D.o (AD cv0) rfl (Bc cv0) ?_);rw [Exit.noGoto_ret];refine bodyPost_ret (v:=.tuple #[pH (ctlA cv0),I_ 2]) ?_ rfl ⟨cv0,rfl,Gz _,G0 _,?_⟩
   ·exact AS rfl _ _ (w+1) 36 (ctlA cv0) _ (I_ 2) rfl rfl (D.o.row _) underlying36 rfl (AD _)
   ·exact F.o.own (Br _ _ _) bF
  ·by_cases h2:4<=conn
   ·obtain rfl:R=(Hl,2):=by rw [<- X.o,if_pos (.inr h2)]
    go_wp2_with fail;go_step3;refine(show(0:Nat)=0/\Code.wp _ _ _ _ _ from⟨rfl,?_⟩);go_wp2_with fail;refine(ErC.told_why 2 _ (HE.o _ HK2.o)).mono ?_;rintro e wy ⟨rfl,B⟩;have F:=lH (HK2.o.trans B);have D:=lH (M.o.keeps B bA);clear B;go_wp2_with (refine wpList_store_row bD 36 _ _ bD (w+1) (ctlA cv0) bD bD 36 (ctlA cv0) D.o (AD cv0) rfl (Bc cv0) ?_);rw [Exit.noGoto_ret];refine bodyPost_ret (v:=.tuple #[pH (ctlA cv0),I_ 2]) ?_ rfl ⟨cv0,rfl,Gz _,G0 _,?_⟩
    ·exact AS rfl _ _ (w+1) 36 (ctlA cv0) _ (I_ 2) rfl rfl (D.o.row _) underlying36 rfl (AD _)
    ·exact F.o.own (Br _ _ _) bF
   ·have HN:Hi (¬(conn<0\/4<=conn)):=lH bB
    cases bz with
    | true=>
     obtain rfl:R=(Hl,191):=by rw [<- X.o,if_neg HN.o,if_pos rfl]
     go_wp2_with fail;go_step3;refine(show(0:Nat)=0/\Code.wp _ _ _ _ _ from⟨rfl,?_⟩);go_wp2_with fail;refine(ErC.told_why 191 _ (HE.o _ HK2.o)).mono ?_;rintro e wy ⟨rfl,B⟩;have F:=lH (HK2.o.trans B);have D:=lH (M.o.keeps B bA);clear B;go_wp2_with (refine wpList_store_row bD 36 _ _ bD (w+1) (ctlA cv0) bD bD 36 (ctlA cv0) D.o (AD cv0) rfl (Bc cv0) ?_);rw [Exit.noGoto_ret];refine bodyPost_ret (v:=.tuple #[pH (ctlA cv0),I_ 191]) ?_ rfl ⟨cv0,rfl,Gz _,G0 _,?_⟩
     ·exact AS rfl _ _ (w+1) 36 (ctlA cv0) _ (I_ 191) rfl rfl (D.o.row _) underlying36 rfl (AD _)
     ·exact F.o.own (Br _ _ _) bF
    | false=>
     obtain rfl:R=({ c with jobs:=c.jobs++[{ job0 with conn:=conn,phase:=1,line:=line }] },0):=by rw [<- X.o,if_neg HN.o,if_neg bA]
     go_wp2_with fail;refine(Rh v c _ (H.o.keeps HK2.o)).mono ?_;rintro e w3 ⟨v',rfl,hm,hjn,ho,hs,T,hpf,hk3⟩;obtain⟨w4,hw4⟩:=eX (w3.setRow w (ctlA v'));have Y:=HD0.o.keeps hk3 bA;have hk4:Aa [w.heap.size] w3 w4:=by rw [<- hw4];exact Br _ _ _
     have hlt:w.heap.size<w2.heap.size:=HD0.o.lt;have N:Cg w4 v' c:=hm.stay (Q:=(· < w2.heap.size)) T (Ey ho (fun g hg=>by have:=(ho.lt g hg).1;omega)) hk4 (fun y hy=>by obtain rfl:=Ag.1 hy;exact hlt) (H9.blk Y bE bE);have ab:=Ah ho hk4 (fun g hg U=>by have:=(ho.lt g hg).1;simp only [Ac,Ab,or_false] at U;omega);have HB4:Hi (Blk w4 w 36 (ctlA v')):=lH (by rw [<- hw4];exact Y.row _);have am:=lH ((M.o.keeps hk3 bA).keeps hk4 bI);have HK4:=lH ((HK2.o.trans hk3).own hk4 bF);have av:=lH Y;have af:w2.heap.size<=w4.heap.size:=A8 hk3.size hk4.size;have E:c.jobs.length=v'.jn:=N.jn;have ao:=N.jl;obtain⟨x,hx⟩:∃x,({ job0 with conn:=conn,phase:=1,line:=line } : Bq)=x:=⟨_,rfl⟩;obtain⟨g,gc,w5,G,ak,hk5,a3⟩:=CO (enc:=encJob) prog (t:=33) underlying33 bC bE Dc Ir (v:=.slice v'.ja v'.jn v'.jc) (ys:=c.jobs) (by rw [E];exact ab) af x bB 33;have HJL:Hi (c.jobs.length+1<=900):=lH (by have:=Wq (Ye HB.o);omega);rw [E] at G ak;have aa:∀y∈(pF v'.ja v'.jn v'.jc).ownBlock.toList,w2.heap.size<=y:=AZ ab;have ae:w.heap.size+1<w2.heap.size:=M.o.lt;have HB5:Hi (Blk w5 w 36 (ctlA v')):=lH (HB4.o.keeps hk5 (fun U=>by have:=aa _ U;omega));have ac:Hi (Blk w5 (w+1) 36 (ctlA cv0)):=lH (am.o.keeps hk5 (fun U=>by have:=aa _ U;omega));obtain⟨v'',J⟩:∃v'':CV,({ v' with ja:=some (A_ g 0),jn:=v'.jn+1,jc:=gc } : CV)=v'':=⟨_,rfl⟩;have hoff:H9 w4 (pF v'.ja v'.jn v'.jc).ownBlock.toList:=fun y hy=>by
      obtain⟨cs,az⟩:=DP ab bU;exact⟨cs,_,_,az,by decide,by decide⟩
     have hQ:DU (·∈(pF v'.ja v'.jn v'.jc).ownBlock.toList) v' c:=by
      cases e:(pF v'.ja v'.jn v'.jc).ownBlock with
      | none=>exact(N.later (fun y hy=>by simp at hy)).1
      | some g0=>
       have:=hs g0 e;exact⟨this.o.mono nR,this.r.mono nR,this.d.mono nR⟩
     have ax:Hi (Cg w5 v'' { c with jobs:=c.jobs++[x] }):=lH (by
      rw [<- J];refine N.jobs hQ hk5 (fun y hy=>hy) hoff (AR.row (xs:=c.jobs++[x]) Dc (by simpa [E] using ak)) (by simp [E]) (by have:=HJL.o;omega) (fun j hj=>?_);rcases AQ.1 hj with hj | hj
      ·exact N.js j hj
      ·obtain rfl:=Ag.1 hj
       rw [<- hx];exact⟨ag.o,(by decide:(-9223372036854775808:Int)<=0),(by decide:(0:Int)<=9223372036854775807)⟩)
     have ah:Hi (DU (· < w2.heap.size) v'' { c with jobs:=c.jobs++[x] }/\DW (· < w2.heap.size) v''.ja v''.jn/\uR w2 v''):=lH (by
      rw [<- J];exact⟨⟨T.o,T.r,T.d⟩,fun h0 g' o e hq=>by injection e with e;injection e with e _ _;omega,hpf⟩)
     have HK5:=lH (HK4.o.own hk5 (fun y hy=>by have:=aa y hy;have:=HK2.o.size;omega));have HLT:=lH (Bl hlt ae);have HX:=lH hx;have r4:=HB4.o.rl;simp only [ctlA] at r4;clear hm N hjn hs T hpf ho ab Y hk4 af E ao hlt hk3 ak hk5 aa ae hoff hQ;obtain⟨w6,al⟩:=eX (w5.setCell (A_ w 8) (pF (some (A_ g 0)) (v'.jn+1:Nat) gc));have ai:Blk w6 w 36 (ctlA v''):=by rw [<- al,<- J];exact HB5.o.set_ 8 _
     have a2:=lH ai;have ay:=lH (ai.rng 0 (ctlA v'') (fun j x hx=>by rw [AW];simpa using hx));have r5:=(show Blk w5 w 36 (ctlA v') from HB5.o).rl;simp only [ctlA] at r5;have ad:=lH (ac.o.keeps (show Aa [w.heap.size] w5 w6 by rw [<- al];exact Ae _ _ _ _) bI);have aw:Hi (Aa [w.heap.size,w.heap.size+1] w5 w6):=lH (by rw [<- al];exact(Ae w5 w 8 _).mono bA);rw [<- hx] at G;simp only [encJob,PZ,PY,B8,AL,BH,job0,req0,Yb,IW] at G;clear ai J;go_wp2_with (first | (refine wpList_store_row bD 36 _ _ bD w (ctlA v') bD bD 36 _ av.o (AD v') rfl (Bc v') ?_) | (at_builtin;refine Au _ rfl _ _ 33 rfl rfl rfl G ?_) | (refine Ay bD 36 _ bD w 0 bD (ctlA v'') _ ay.o underlying36 rfl (AD v'') ?_) | (refine wpList_store_row bD 36 _ _ bD (w+1) (ctlA v'') bD bD 36 (ctlA cv0) ad.o (AD v'') rfl (Bc v'') ?_));simp only [Exit.jump];have ap:Aa [w.heap.size,w.heap.size+1] w5 (w6.setRow (w+1) (ctlA v'')):=aw.o.trans ((Br _ _ _).mono bA);refine bodyPost_ret (v:=.tuple #[pH (ctlA v''),I_ 0]) ?_ rfl ⟨v'',rfl,?_,?_,HK5.o.own ap bF⟩
     ·exact AS rfl _ _ (w+1) 36 (ctlA v'') _ (I_ 0) rfl rfl (ad.o.row _) underlying36 rfl (AD _)
     ·have hlt:=HLT.o
      refine ax.o.stay ah.o.1 ah.o.2.1 ap bF (fun y hy=>?_);rcases Ac.1 hy with rfl | hy
      ·exact⟨_,_,_,HB5.o,by decide,by decide⟩
      ·obtain rfl:=Ag.1 hy
       exact⟨_,_,_,ac.o,by decide,by decide⟩
     ·exact Fo.down ah.o (by have:=HLT.o;omega)
theorem jP(v:Value)(w:World):(Dr (.iface 9 v) 20 9 true).run prog w = .ok (.tuple #[v,pI true]) w:=bC
theorem jL(v:Value)(w:World):(Dr (.iface 3 v) 20 9 true).run prog w = .ok (.tuple #[Dz ⟨#[]⟩,pI false]) w:=bC
theorem jO(v:Value)(w:World):(Dr (.iface 41 v) 20 9 true).run prog w = .ok (.tuple #[Dz ⟨#[]⟩,pI false]) w:=bC
theorem jK(v:Value)(w:World):(Dr (.iface 3 v) 20 3 true).run prog w = .ok (.tuple #[v,pI true]) w:=bC
theorem jM(v:Value)(w:World):(Dr (.iface 41 v) 20 3 true).run prog w = .ok (.tuple #[pE pK 0,pI false]) w:=bC
theorem jN(v:Value)(w:World):(Dr (.iface 41 v) 20 41 true).run prog w = .ok (.tuple #[v,pI true]) w:=bC
def gM(v:Value):List Value:=[v]
abbrev QJ:=AR gM 1
def Xx(w:World)(v:Value)(ws:List ByteArray):Prop:=
 (∃x,v = .iface 9 (Dz x)/\ws = [x])\/(∃n:Int,v = .iface 3 (pE pK n)/\ws = [E2 n]/\-9223372036854775808<=n/\n<=9223372036854775807)\/
 (∃a n c,v = .iface 41 (pF a n c)/\ws.length=n/\Kv w a c ws)
theorem Xx.keeps{w w':World}{v:Value}{ws:List ByteArray}(h:Xx w v ws)(hk:Aa [] w w'):Xx w' v ws:=
 h.imp id (fun h=>h.imp id (fun⟨a,n,c,h1,h2,h3⟩=>⟨a,n,c,h1,h2,h3.keeps hk⟩))
def IB(w:World):List Value->List (List ByteArray)->Prop
 | [],[]=>True
 | v::V,x::X=>Xx w v x/\IB w V X
 | _,_=>False
theorem IB.keeps{w w':World}(hk:Aa [] w w'):∀ {V:List Value} {X:List (List ByteArray)},IB w V X->IB w' V X
 | [],[],_=>trivial
 | _::_,_::_,h=>⟨h.1.keeps hk,IB.keeps hk h.2⟩
 | [],_::_,h=>h.elim
 | _::_,[],h=>h.elim
theorem IB.len{w:World}: ∀ {V:List Value} {X:List (List ByteArray)},IB w V X->V.length=X.length
 | [],[],_=>rfl
 | _::_,_::_,h=>by simp [IB.len h.2]
 | [],_::_,h=>h.elim
 | _::_,[],h=>h.elim
theorem IB.get{w:World}: ∀ {V:List Value} {X:List (List ByteArray)},IB w V X->∀ {k:Nat} {v:Value},V[k]? = some v->∃x,X[k]? = some x/\Xx w v x
 | v::V,x::X,h,0,u,hu=>⟨x,rfl,by simp only [Aj,Option.some.injEq] at hu;rw [<- hu];exact h.1⟩
 | v::V,x::X,h,k+1,u,hu=>IB.get h.2 (by simpa using hu)
 | [],[],_,_,_,hu=>by simp at hu
 | [],_::_,h,_,_,_=>h.elim
 | _::_,[],h,_,_,_=>h.elim
theorem We{α:Type}{X:List (List α)}{k:Nat}{x:List α}(h:X[k]? = some x):(X.take (k+1)).flatten=(X.take k).flatten++x:=by
 rw [A0 h,List.flatten_append];simp
theorem UL{α:Type}{X:List (List α)}{k:Nat}: (X.take k).flatten.length<=X.flatten.length:=by
 have:X.flatten=(X.take k).flatten++(X.drop k).flatten:=by rw [<- List.flatten_append,Dn]
 rw [this,Al];omega
theorem eF(L:List ByteArray):(NE L).1=Ex L:=by
 unfold NE Ex;rw [show L.map Ov=L.map (fun s=>s.data.toList) from rfl];cases Gc (L.map fun s=>s.data.toList)<;>rfl
structure Ks(w:World):Prop where
 et:Et w
 tab:Ie w
theorem Ks.keeps{w w':World}(h:Ks w)(hk:Aa [] w w'):Ks w':=⟨h.et.keeps hk bA,h.tab.keeps hk⟩
theorem NP(a:Option Addr)(c n:Nat)(V:List Value)(X:List (List ByteArray))(hn:V.length=n)(an:n<=100)(hx:X.flatten.length<=1000)(w:World)(hE:Ks w)(hV:QJ w a c V)(hX:IB w V X):
  Calls prog 123 #[pF a n c] w fun e w'=>e = pJ (Dz (Ex X.flatten))/\Aa [] w w':=by
 have HV:=lH hV;have HX:=lH hX;have HN:=lH hn;have J:=lH hx;have HE:Hi (∀W,Aa [] w W->Ks W):=lH fun W hk=>hE.keeps hk;clear hV hX hn hx hE;go_enter func123,ntmps123;go_wp2;go_loopw [3,13] (fun u i wr=>∃(k:Nat),k<=n/\i = I_ k/\Hi (wr.ownsRow w 9 1 u (X.take k).flatten.length ((X.take k).flatten.flatMap Fd))/\Hi (Aa [] w wr)) (fun _ i _=>n - (intOf i).toNat)
 case atStart=>exact⟨0,Ba _,rfl,lH (BQ _ _ _ _),lH (Aa.refl [] w)⟩
 case round=>
  obtain⟨k,hk,rfl,HS,HK⟩:=hrel;by_cases hlt:k<n
  ·obtain⟨g1,o1,y,rfl,hg1,hx1,hat1⟩:=(HV.o.keeps HK.o).at_k (k:=k) bO
   have q0:=hat1 0 y rfl;rw [AT,pR] at q0;obtain⟨x,U,hm⟩:=(HX.o.keeps HK.o).get hx1;have F:=lH (We U);have M:Hi ((X.take k).flatten.length<=1000):=lH (A8 UL J.o);have aa:Hi ((X.take (k+1)).flatten.length<=1000):=lH (A8 UL J.o);obtain⟨Y,hY⟩:=eX ((X.take k).flatten);rw [hY] at HS F M;have hsz:w.heap.size<=wr.heap.size:=HK.o.size;have i1:(0:Int)<=(k:Int):=bB;have i2:(k:Int)<(n:Int):=bB;clear hat1 hx1 U hY hg1;rcases hm with⟨s,rfl,rfl⟩ | ⟨m,rfl,rfl,aj,ak⟩ | ⟨la,ll,lc,rfl,ah,ai⟩
   ·have ha:=fun W=>jP (Dz s) W
    obtain⟨g,gc,w3,D,B,hk3,N⟩:=CO (enc:=Fd) prog (t:=41) underlying41 Gl bE DY Ho HS.o hsz s (by have:=M.o;omega) 41;have G:=lH (HK.o.own hk3 (fun y hy=>AZ HS.o y hy));have HR3:=lH B;simp only [Fd] at D;clear B hk3 N;go_wp2_with (at_builtin;refine Au _ rfl _ _ 41 rfl rfl rfl D ?_);go_roundw;case rel=>exact⟨k+1,by omega,by go_num,lH (by rw [F.o];simpa using HR3.o),G⟩
    case measure=>simp [intOf];omega
   ·have ha:=fun W=>jL (I_ m) W
    have hb:=fun W=>jK (I_ m) W;go_wp2_with fail;refine(G4 m aj ak _ (HE.o _ HK.o).tab).mono ?_;rintro e w2 ⟨rfl,hk2⟩;have E:=Ah HS.o hk2 bA;obtain⟨g,gc,w3,D,B,hk3,N⟩:=CO (enc:=Fd) prog (t:=41) underlying41 Gl bE DY Ho E (A8 hsz hk2.size) (E2 m) (by have:=M.o;omega) 41;have G:=lH ((HK.o.trans hk2).own hk3 (fun y hy=>AZ E y hy));have HR3:=lH B;simp only [Fd] at D;clear B hk3 N E hk2;go_wp2_with (at_builtin;refine Au _ rfl _ _ 41 rfl rfl rfl D ?_);go_roundw;case rel=>exact⟨k+1,by omega,by go_num,lH (by rw [F.o];simpa using HR3.o),G⟩
    case measure=>simp [intOf];omega
   ·have ha:=fun W=>jO (pF la ll lc) W
    have hb:=fun W=>jM (pF la ll lc) W;have hc:=fun W=>jN (pF la ll lc) W;subst ah;obtain⟨i0,z,ac,ad,ae,af,ag⟩:=Ck Gl;obtain⟨v',w3,D,B,O⟩:=AR.app prog underlying41 ac ad ae rfl af bE DY Ho HS.o hsz ai (by have h2:=aa.o;rw [F.o,Al] at h2;omega) ag 41;have G:Hi (Aa [] w w3):=lH (HK.o.own ((Aa.refl (EZ _).toList wr).grown O (fun k hk=>.inl iX)) (fun y hy=>AZ HS.o y hy));have HR3:=lH B;clear B O;go_wp2_with (at_builtin;refine Au _ rfl _ _ 41 rfl rfl rfl D ?_);go_roundw;case rel=>exact⟨k+1,by omega,by go_num,lH (by rw [F.o];exact HR3.o),G⟩
    case measure=>simp [intOf];omega
  ·obtain rfl:k=n:=bB;have ht:X.take k=X:=Ak (by rw [<- HX.o.len,HN.o];exact Aw _);rw [ht] at HS;obtain⟨a9,c9,rfl,T,_⟩:=AR.of_row DY HS.o;have ab:=lH T;obtain⟨m,hm⟩:=eX X.flatten.length;rw [hm];have HM:=lH hm;clear ht T hm;go_wp2_with fail;refine(Vs a9 c9 m X.flatten HM.o (by rw [<- HM.o];exact J.o) _ (HE.o _ HK.o).et ab.o).mono ?_;rintro e w2 ⟨rfl,hk2⟩;have HK2:=lH (HK.o.trans hk2);clear hk2;go_wp2_with fail;go_ret;exact⟨by rw [eF];rfl,HK2.o⟩
theorem CB.rng{w:World}{B:Nat}{p:Pr}(h:CB w B p):w.rangeAt B 0 (reqA p.q).toList:=by
 obtain⟨a,c,hb,_⟩:=h;refine hb.rng 0 (reqA p.q) (fun j v hv=>?_);rw [AW,show Mz p.q (pF a p.l.length c) (Ii p.bad)=reqA p.q++#[pF a p.l.length c,Ii p.bad] from rfl];rw [Array.getElem?_toList] at hv;rw [Array.getElem?_append_left (Ai.1 hv).1];exact hv
theorem VI(E:Nat->Addr)(s:ByteArray)(hs:s.size<=1000000)(w:World)(hE:MC E w)(l:List (List UInt8))(av:Ce s.data.toList = .ok l):
  Calls prog 117 #[Dz s] w fun e w'=>e = pJ (.tuple #[pH (reqA (E1 s).1),I_ (E1 s).2])/\Aa [] w w':=by
 obtain⟨w0,hw0⟩:=eX (w.alloc (.cells aQ.k 63));have HK0:Hi (Aa [] w w0):=lH aX;have HB0:Hi (Blk w0 w 63 (reqA req0)):=lH jX;have HE:Hi (∀W,Aa [] w W->MC E W):=lH fun W hW=>hE.keeps hW;have HSP:=Gr s hs w0 (HE.o w0 HK0.o).r.a.et;obtain⟨V,hV⟩:=eX (E1 s);rw [hV];unfold E1 at hV;unfold Ic at HSP;clear hE;rw [av] at HSP hV;have ah:=NU av;clear av;simp only [] at HSP hV;have bg:∀x:List UInt8,Dk x=str x:=fun _=>rfl;have ad:l.map Dk=l.map str:=rfl;rw [ad] at HSP;obtain⟨L,hL⟩:=eX (l.map str);have a7:L.length=l.length:=by rw [<- hL,Bd]
 have a6:∀s∈L,s.size<=64/\IZ s.data.toList:=by
  intro s hs;rw [<- hL] at hs;obtain⟨x,hx,rfl⟩:=BO.1 hs;exact⟨by rw [Dw];exact(ah x hx).1,ah x hx⟩
 rw [hL] at HSP hV;rw [<- a7] at HSP;unfold Je at hV;dsimp only at hV;obtain⟨p0,aj⟩:∃p0:Pr,(⟨req0,L,false⟩:Pr)=p0:=⟨_,rfl⟩;rw [aj] at hV;obtain⟨a,Y,ha⟩:∃a Y,p0.next=(a,Y):=⟨_,_,rfl⟩;rw [ha] at hV;simp only [] at hV;obtain⟨p1,ak⟩:∃p1:Pr,({ Y with q:={ Y.q with who:=a } } : Pr)=p1:=⟨_,rfl⟩;rw [ak] at hV;obtain⟨b,b2,hb⟩:∃a Y,p1.number 1 1000000=(a,Y):=⟨_,_,rfl⟩;rw [hb] at hV;simp only [] at hV;obtain⟨p2,al⟩:∃p1:Pr,({ b2 with q:={ b2.q with id:=b } } : Pr)=p1:=⟨_,rfl⟩;rw [al] at hV;obtain⟨c,c2,hc⟩:∃a Y,p2.next=(a,Y):=⟨_,_,rfl⟩;rw [hc] at hV;simp only [] at hV;obtain⟨G,ve,hv⟩:∃G ve,verbR c=(G,ve):=⟨_,_,rfl⟩;rw [hv] at hV;simp only [] at hV;obtain⟨p3,am⟩:∃p1:Pr,({ c2 with q:={ c2.q with com:={ c2.q.com with verb:=G } } } : Pr)=p1:=⟨_,rfl⟩;have ae:c2.com { c2.q.com with verb:=G } = p3:=am;rw [ae] at hV;have HV:=lH hV;have bm:=lH aj;have HA:=lH ha;have HP1:=lH ak;have HB:=lH hb;have bo:=lH al;have HC:=lH hc;have bv:=lH hv;have bp:=lH am;have bl:=lH a6;clear hV aj ha ak hb al hc hv am ae hL ad bg a6 ah a7;obtain⟨n,hn⟩:=eX L.length;rw [hn] at HSP;have HN:=lH hn;clear hn;go_enter func117,ntmps117;go_wp2_with fail;refine HSP.mono ?_;rintro x w1 ⟨sa,sc,rfl,hm,hk1⟩;have HK1:=lH (HK0.o.trans hk1);have HB1:=lH (HB0.o.keeps hk1 bA);have HM:=lH hm;clear hk1 hw0 hm;obtain⟨wr,hwr⟩:=eX (w1.alloc (.cells #[Dz ⟨#[]⟩,I_ 0,I_ 0,Dz ⟨#[]⟩,I_ 0,I_ 0,pI false,I_ 0,I_ 0,I_ 0,I_ 0,Dz ⟨#[]⟩,I_ 0,I_ 0,I_ 0,I_ 0,I_ 0,pF sa n sc,.nilIface] 300));have br:Hi (CB wr w1 p0):=lH (by
  rw [<- bm.o];refine⟨sa,sc,?_,?_,fun h0 g o e=>?_,bl.o⟩
  ·rw [<- hwr]
   show Blk _ _ _ (Mz req0 (pF sa L.length sc) .nilIface);rw [HN.o];exact Blk.new w1 _ _
  ·rw [<- hwr];exact HM.o.keeps ((Aa.refl [] w1).alloc _)
  ·obtain⟨g2,o2,e2,hlt,_⟩:=HM.o.at_ h0
   rw [e] at e2;injection e2 with e2
   injection e2 with e2
   omega)
 have HKR:Hi (Aa [] w1 wr):=lH (by rw [<- hwr];exact(Aa.refl [] w1).alloc _);have M:Hi (Bs E w1 wr w1):=lH ⟨HKR.o,Aw _,(HE.o w1 HK1.o).r⟩;have O:=FD w1 p0 wr br.o;rw [HA.o] at O;simp only [] at O;go_wp2_with fail;clear hwr
 with_reducible refine O.mono ?_
 rintro e w2 ⟨rfl,ao,hk2⟩;obtain⟨aa,ac,q2⟩:=ao.rl;simp only [Mz] at q2;obtain⟨w3,aw⟩:=eX (w2.setCell (A_ w1 0) (Dz a));have HR3:Hi (CB w3 w1 p1):=lH (by rw [<- aw,<- HP1.o];exact ao.set 0 (Dz a) { Y.q with who:=a } (fun _ _=>rfl));have a0:Hi (Aa [w1.heap.size] wr w3):=lH (by rw [<- aw];exact hk2.trans (Ae w2 w1 0 _));have T:=GP E w1 w1 p1 1 1000000 w3 (M.o.go a0.o) HR3.o;rw [HB.o] at T;simp only [] at T;clear ao hk2;go_wp2_with fail;clear aw q2
 with_reducible refine T.mono ?_
 rintro e w4 ⟨rfl,ap,hk4⟩;obtain⟨b7,b9,q4⟩:=ap.rl;simp only [Mz] at q4;obtain⟨w5,hw5⟩:=eX (w4.setCell (A_ w1 1) (I_ b));have bs:Hi (CB w5 w1 p2):=lH (by rw [<- hw5,<- bo.o];exact ap.set 1 (I_ b) { b2.q with id:=b } (fun _ _=>rfl));have HK5:Hi (Aa [w1.heap.size] wr w5):=lH (by rw [<- hw5];exact a0.o.trans (hk4.trans (Ae w4 w1 1 _)));have U:=FD w1 p2 w5 bs.o;rw [HC.o] at U;simp only [] at U;clear ap hk4;go_wp2_with fail;clear hw5 q4
 with_reducible refine U.mono ?_
 rintro e w6 ⟨rfl,bf,hk6⟩;have a1:=lH (HK5.o.trans hk6);have bt:=lH bf;have X:=XB c w6 (HE.o w6 (HK1.o.trans (M.o.go a1.o).kw)).v;rw [bv.o] at X;simp only [] at X;clear bf hk6;go_wp2_with fail
 with_reducible refine X.mono ?_
 rintro e w7 ⟨rfl,hk7⟩;have aq:=bt.o.keep hk7;obtain⟨b8,ca,q7⟩:=aq.rl;simp only [Mz] at q7;obtain⟨w8,ax⟩:=eX (w7.setCell (A_ w1 2) (I_ G));have a3:Hi (CB w8 w1 p3):=lH (by rw [<- ax,<- bp.o];exact aq.set 2 (I_ G) { c2.q with com:={ c2.q.com with verb:=G } } (fun _ _=>rfl));have HK8:Hi (Aa [w1.heap.size] wr w8):=lH (by rw [<- ax];exact(a1.o.trans (hk7.mono bA)).trans (Ae w7 w1 2 _));clear aq hk7 O T U X;have HSZ:Hi (w.heap.size<w1.heap.size):=lH HB1.o.lt;have J:Hi (∀W,Aa [w1.heap.size] wr W->Aa [] w W/\Blk W w 63 (reqA req0)/\MC E W):=lH fun W hW=>
  have h1:=HK1.o.trans (M.o.go hW).kw
  ⟨h1,(HB1.o.keeps HKR.o bA).keeps hW (by simp;have:=HSZ.o;omega),HE.o W h1⟩
 by_cases hve:ve=0
 ·subst hve
  go_wp2_with fail;clear ax q7;refine(WE G w8).mono ?_;rintro e w9 ⟨g,m,rfl,hm,F,hk9⟩;have af:=Z3 E w1 w1 g p3 (KM G) m hm (by
   rw [<- hm];unfold KM
   repeat' split
   all_goals (simp only [Av,D4];omega)) (gP E G) w9 (M.o.go (HK8.o.trans (hk9.mono bA))) (a3.o.keep hk9) F (by
    rintro rfl;obtain⟨_,_,a9,_⟩:=a3.o.keep hk9;unfold Blk at a9 F;rw [a9] at F;injection F with F
    injection F with _ ht
    exact absurd ht bE)
  have az:Hi ((KM G).foldl (fun p x=>x.2 p) p3=(partsR G).foldl (fun p f=>f p) p3):=lH (by rw [<- T5,List.foldl_map]);obtain⟨p4,an⟩:=eX ((KM G).foldl (fun p x=>x.2 p) p3);rw [an] at af;have bq:Hi ((partsR G).foldl (fun p f=>f p) p3=p4):=lH (by rw [<- az.o,an]);have HK9:Hi (Aa [w1.heap.size] wr w9):=lH (HK8.o.trans (hk9.mono bA));clear an hk9 F hm az;go_wp2_with fail
  with_reducible refine af.mono ?_
  rintro e wA ⟨rfl,ar,bb⟩;have N:=lH (HK9.o.trans bb);obtain⟨aA,cA,qA⟩:=ar.rl;simp only [Mz] at qA;obtain⟨nA,ai⟩:=eX p4.l.length;rw [ai] at qA;have HW:Hi (V=if p4.bad=true\/0<nA then(req0,193) else(p4.q,0)):=lH (by rw [<- HV.o,if_neg bA,bq.o,ai]);obtain⟨bd,ba⟩:=eX p4.bad;rw [ba] at qA HW;have au:=ar.rng;obtain⟨q4,be⟩:=eX p4.q;rw [be] at qA HW au;have bu:=lH au;clear au;have B:=lH (J.o wA N.o).2.1;clear ar bb ai ba be af;cases bd with
  | true=>
   have D:Hi (V=(req0,193)):=lH (by rw [HW.o];simp);simp only [Ii,if_true] at qA;go_wp2_with ((refine wpList_store_row bD 63 _ _ bD w (reqA req0) bD bD 63 (reqA req0) B.o (Cr _) rfl (Dg _) ?_));refine bodyPost_ret (v:=.tuple #[pH (reqA req0),I_ 193]) ?_ rfl ⟨by rw [D.o],?_⟩
   ·exact AS rfl _ _ w 63 (reqA req0) _ (I_ 193) rfl rfl (B.o.row _) underlying63 rfl (Cr _)
   ·exact(J.o wA N.o).1.own (Br _ _ _) bF
  | false=>
   simp only [Ii,Bool.false_eq_true,if_false] at qA;by_cases hnp:0<nA
   ·have D:Hi (V=(req0,193)):=lH (by rw [HW.o];simp [hnp])
    have f1:(0:Int)<(nA:Int):=bB;clear hnp;go_wp2_with ((refine wpList_store_row bD 63 _ _ bD w (reqA req0) bD bD 63 (reqA req0) B.o (Cr _) rfl (Dg _) ?_));refine bodyPost_ret (v:=.tuple #[pH (reqA req0),I_ 193]) ?_ rfl ⟨by rw [D.o],?_⟩
    ·exact AS rfl _ _ w 63 (reqA req0) _ (I_ 193) rfl rfl (B.o.row _) underlying63 rfl (Cr _)
    ·exact(J.o wA N.o).1.own (Br _ _ _) bF
   ·obtain rfl:nA=0:=bB;have D:Hi (V=(q4,0)):=lH (by rw [HW.o];simp);clear hnp;go_wp2_with (first | (refine wpList_store_row bD 63 _ _ bD w (reqA q4) bD bD 63 (reqA req0) B.o (Cr _) rfl (Dg _) ?_) | (refine Ay bD 63 _ bD w1 0 bD (reqA q4) _ bu.o underlying63 rfl (Cr q4) ?_));refine bodyPost_ret (v:=.tuple #[pH (reqA q4),I_ 0]) ?_ rfl ⟨by rw [D.o],?_⟩
    ·exact AS rfl _ _ w 63 (reqA q4) _ (I_ 0) rfl rfl (B.o.row _) underlying63 rfl (Cr _)
    ·exact(J.o wA N.o).1.own (Br _ _ _) bF
 ·have f1:(ve==0)=false:=by simpa using hve
  have f2:(ve != 0)=true:=by simpa using hve
  have D:Hi (V=(req0,193)):=lH (by rw [<- HV.o,if_pos hve]);have B:=lH (J.o w8 HK8.o).2.1;clear hve;go_wp2_with ((refine wpList_store_row bD 63 _ _ bD w (reqA req0) bD bD 63 (reqA req0) B.o (Cr _) rfl (Dg _) ?_));refine bodyPost_ret (v:=.tuple #[pH (reqA req0),I_ 193]) ?_ rfl ⟨by rw [D.o],?_⟩
  ·exact AS rfl _ _ w 63 (reqA req0) _ (I_ 193) rfl rfl (B.o.row _) underlying63 rfl (Cr _)
  ·exact(J.o w8 HK8.o).1.own (Br _ _ _) bF
theorem Gw(E:Nat->Addr)(s:ByteArray)(hs:s.size<=1000000)(w:World)(hE:MC E w):
  Calls prog 117 #[Dz s] w fun e w'=>e = pJ (.tuple #[pH (reqA (E1 s).1),I_ (E1 s).2])/\Aa [] w w':=by
 cases hsp:Ce s.data.toList with
 | error k=>exact Ti E s hs w hE k hsp
 | ok l=>exact VI E s hs w hE l hsp
theorem MH(w:World)(V:List Value)(n:Nat)(hn:V.length=n)(t:TypeId):QJ (w.alloc (.cells V.toArray t)) (some (A_ w 0)) n V:=by
 have hb:=Blk.new w t V.toArray;exact AR.of_blk (f:=id) (fun _=>rfl) hn (by rw [List.map_id];exact hb)
def AH(w:World)(sb:Nat)(j:Bq)(v:CV)(now left:Int)(e:GJ):Prop:=
 Blk w sb 132 (Kj j (pF v.oa v.on v.oc) (pF v.r.s.ga v.gn v.r.s.gc) (pF v.r.s.ua v.un v.r.s.uc) (pF v.r.s.fa v.fn v.r.s.fc) (pF v.r.la v.ln v.r.lc) (pE pK v.seq) (pF v.pa v.pn v.pc) (pE pK v.nx) (pF v.ja v.jn v.jc) (pF v.da v.dn v.dc) now left e)
theorem AH.keeps{w w':World}{sb:Nat}{j:Bq}{v:CV}{now left:Int}{e:GJ}{S:List Nat}(h:AH w sb j v now left e)(hk:Aa S w w')(hS:sb∉S):AH w' sb j v now left e:=Blk.keeps h hk hS
theorem FR(sb:Nat)(j:Bq)(v:CV)(now left:Int)(e:GJ)(id er:Int)(hid : -9223372036854775808<=id/\id<=9223372036854775807)(B : -9223372036854775808<=er/\er<=9223372036854775807)(w:World)(hE:Ks w)(h:AH w sb j v now left e):
  Calls prog 118 #[pG (some (A_ sb 0)),I_ id,I_ er] w fun r w'=>r = pJ (.tuple #[])/\AH w' sb (j.refuses id er) v now left e/\Aa [sb] w w':=by
 obtain⟨w0,hw0⟩:=eX (w.alloc (.cells #[.iface 9 (Dz Eh),.iface 3 (I_ id),.iface 3 (I_ er)] 20));have hk0:Aa [] w w0:=by rw [<- hw0];exact(Aa.refl [] w).alloc _
 have hV:QJ w0 (some (A_ w 0)) 3 [.iface 9 (Dz Eh),.iface 3 (I_ id),.iface 3 (I_ er)]:=by rw [<- hw0];exact MH w _ 3 rfl 20
 have HS:=NP (some (A_ w 0)) 3 3 [.iface 9 (Dz Eh),.iface 3 (I_ id),.iface 3 (I_ er)] [[Eh],[E2 id],[E2 er]] rfl bE bA w0 (hE.keeps hk0) hV ⟨.inl ⟨_,rfl,rfl⟩,.inr (.inl ⟨_,rfl,rfl,hid⟩),.inr (.inl ⟨_,rfl,rfl,B⟩),trivial⟩;have HB:=lH (h.keeps hk0 bA);have HK0:=lH hk0;have hew:Eh=⟨#[101,114,114,111,114]⟩:=rfl;rw [hew] at hw0;clear hk0 hV h hew hid B;go_enter func118,ntmps118;go_wp2_with fail;clear hw0;refine HS.mono ?_;rintro r w1 ⟨rfl,hk1⟩;have HB1:=lH (HB.o.keeps hk1 bA);have HK1:=lH (HK0.o.trans hk1);clear hk1;go_wp2_with fail;refine(GL sb j _ _ _ _ _ _ _ _ _ _ now left e _ _ HB1.o).mono ?_;rintro r w2 ⟨rfl,hb2,hk2⟩;have HB2:=lH hb2;have HK2:=lH (Aa.trans (HK1.o.mono bA) hk2);clear hb2 hk2;go_wp2_with fail
 go_end0
 exact⟨rfl,HB2.o,HK2.o⟩
def TY(j:Bq):Bq:=if(E1 j.line).2≠0 then Bq.refuses { j with req:=(E1 j.line).1 } 0 193 else { j with req:=(E1 j.line).1,phase:=2 }
theorem ZK(j:Bq)(B D E F G J M N O T:Value)(now left:Int)(e:GJ):(Kj j B D E F G J M N O T now left e).size=40:=bC
theorem eO(j:Bq)(B D E F G J M N O T:Value)(now left:Int)(e:GJ)(q:QK):Ht (Kj j B D E F G J M N O T now left e) 3 (reqA q).toList=Kj { j with req:=q } B D E F G J M N O T now left e:=bC
theorem Xb(j:Bq)(B D E F G J M N O T:Value)(now left:Int)(e:GJ)(k:Int):(Kj j B D E F G J M N O T now left e).setIfInBounds 1 (I_ k)=Kj { j with phase:=k } B D E F G J M N O T now left e:=bC
theorem ZJ(j:Bq)(B D E F G J M N O T:Value)(now left:Int)(e:GJ)(k:Int):(Kj j B D E F G J M N O T now left e).setIfInBounds 20 (I_ k)=Kj { j with role:=k } B D E F G J M N O T now left e:=bC
theorem AH.req{w:World}{sb:Nat}{j:Bq}{v:CV}{now left:Int}{e:GJ}(h:AH w sb j v now left e)(q:QK):AH (w.setCells sb 3 (reqA q).toList) sb { j with req:=q } v now left e:=by
 unfold AH;rw [<- eO];exact Blk.puts (reqA q).toList 3 h
theorem AH.phase{w:World}{sb:Nat}{j:Bq}{v:CV}{now left:Int}{e:GJ}(h:AH w sb j v now left e)(k:Int):AH (w.setCell (A_ sb 1) (I_ k)) sb { j with phase:=k } v now left e:=by
 unfold AH;rw [<- Xb];exact Blk.set_ h 1 _
theorem AH.role{w:World}{sb:Nat}{j:Bq}{v:CV}{now left:Int}{e:GJ}(h:AH w sb j v now left e)(k:Int):AH (w.setCell (A_ sb 20) (I_ k)) sb { j with role:=k } v now left e:=by
 unfold AH;rw [<- ZJ];exact Blk.set_ h 20 _
theorem AH.there{w:World}{sb:Nat}{j:Bq}{v:CV}{now left:Int}{e:GJ}(h:AH w sb j v now left e)(o n:Nat)(hn:o+n<=40):w.there sb o n:=Blk.there h o n (by rw [ZK];exact hn)
theorem AH.cell{w:World}{sb:Nat}{j:Bq}{v:CV}{now left:Int}{e:GJ}(h:AH w sb j v now left e)(i:Nat):w.cell? (A_ sb i)=(Kj j (pF v.oa v.on v.oc) (pF v.r.s.ga v.gn v.r.s.gc) (pF v.r.s.ua v.un v.r.s.uc) (pF v.r.s.fa v.fn v.r.s.fc) (pF v.r.la v.ln v.r.lc) (I_ v.seq) (pF v.pa v.pn v.pc) (I_ v.nx) (pF v.ja v.jn v.jc) (pF v.da v.dn v.dc) now left e)[i]?:=Blk.cell h i
theorem AH.lit{w:World}{sb:Nat}{j:Bq}{v:CV}{now left:Int}{e:GJ}(h:AH w sb j v now left e):Blk w sb 132 #[pE pK j.conn,pE pK j.phase,Dz j.line,Dz j.req.who,pE pK j.req.id,pE pK j.req.com.verb,Dz j.req.com.name,pE pK j.req.com.want,pE pK j.req.com.at_,pI j.req.com.rule.allow,pE pK j.req.com.rule.addr,pE pK j.req.com.rule.bits,pE pK j.req.com.rule.from_,pE pK j.req.com.rule.to_,Dz j.req.com.key,pE pK j.req.com.n,pE pK j.req.com.m,pE pK j.req.count,pE pK j.req.cursor,pE pK j.req.from_,pE pK j.role,Dz j.reply,pE pK j.slot,pE pK j.gen,pF v.oa v.on v.oc,pF v.r.s.ga v.gn v.r.s.gc,pF v.r.s.ua v.un v.r.s.uc,pF v.r.s.fa v.fn v.r.s.fc,pF v.r.la v.ln v.r.lc,pE pK v.seq,pF v.pa v.pn v.pc,pE pK v.nx,pF v.ja v.jn v.jc,pF v.da v.dn v.dc,pE pK now,pE pK left,pE pK e.kind,pE pK e.slot,pE pK e.gen,Dz e.text]:=h
theorem O2(E:Nat->Addr)(sb:Nat)(j:Bq)(v:CV)(now left:Int)(e:GJ)(hl:j.line.size<=1000000)(wb w:World)(hE:MC E wb)(F:Aa [] wb w)(J:wb.heap.size<=sb)(h:AH w sb j v now left e):
  Calls prog 85 #[pG (some (A_ sb 0))] w fun r w'=>r = pJ (.tuple #[])/\AH w' sb (TY j) v now left e/\Aa [sb] w w':=by
 have HP:=Gw E j.line hl w (hE.keeps F);have X:w.cell? (A_ sb 2)=some (Dz j.line):=Blk.cell h 2;have HE:Hi (∀W,Aa [] wb W->Ks W):=lH fun W hk=>⟨(hE.keeps hk).r.a.et,(hE.keeps hk).r.a.tab⟩;have N:=lH F;have HSB:=lH J;have HB:=lH h;obtain⟨R,hR⟩:=eX (E1 j.line);have HJ:Hi (TY j=if R.2≠0 then Bq.refuses { j with req:=R.1 } 0 193 else { j with req:=R.1,phase:=2 }):=lH (by unfold TY;rw [hR]);rw [hR] at HP;obtain⟨q,er⟩:=R;clear h hR hl hE F J;go_enter func85,ntmps85;go_wp2_with fail;refine HP.mono ?_;rintro r w1 ⟨rfl,hk1⟩;obtain⟨w2,M⟩:=eX (w1.alloc (.cells (reqA q) 63));have hk2:Aa [] w1 w2:=by rw [<- M];exact(Aa.refl [] w1).alloc _
 have HQ:Hi (Blk w2 w1 63 (reqA q)):=lH (by rw [<- M];exact Blk.new w1 _ _);have G:=lH (HQ.o.rng 0 (reqA q) (fun j x hx=>by rw [AW];simpa using hx));have HB2:Hi (AH w2 sb j v now left e):=lH (AH.keeps HB.o (hk1.trans hk2) bA);have U:=lH (AH.there HB2.o 3 17 bE);have HK2:=lH (hk1.trans hk2);have B:=lH (HB2.o.req q);have D:=lH (Bb sb 3 (reqA q).toList w2);obtain⟨w3,T⟩:=eX (w2.setCells sb 3 (reqA q).toList);rw [T] at B D;clear hk1 hk2 X HP;by_cases h0:er=0
 ·subst h0
  have Y:=(AH.lit B.o).rl;go_wp2_with (first | (refine wpList_store_row bD 63 _ _ bD w1 (reqA q) bD bD 63 (reqA req0) (Blk.new w1 _ _) (Cr _) rfl (Dg _) ?_;rw [pQ]) | (refine Ay bD 63 _ bD w1 0 bD (reqA q) _ G.o underlying63 rfl (Cr q) ?_) | (refine wpList_store_mid bD 63 _ _ bD sb 3 (reqA q) bD bD U.o (Cr q) (Dg q) ?_))
  go_end0
  refine⟨rfl,by rw [HJ.o,if_neg bA];exact AH.phase B.o 2,Aa.trans (Aa.trans (HK2.o.mono bA) D.o) (Ae _ _ _ _)⟩
 ·have f1:(er != 0)=true:=by simpa using h0
  have O:=lH h0;clear h0;go_wp2_with (first | (refine wpList_store_row bD 63 _ _ bD w1 (reqA q) bD bD 63 (reqA req0) (Blk.new w1 _ _) (Cr _) rfl (Dg _) ?_;rw [pQ]) | (refine Ay bD 63 _ bD w1 0 bD (reqA q) _ G.o underlying63 rfl (Cr q) ?_) | (refine wpList_store_mid bD 63 _ _ bD sb 3 (reqA q) bD bD U.o (Cr q) (Dg q) ?_));refine(FR sb { j with req:=q } v now left e 0 193 ⟨by decide,by decide⟩ ⟨by decide,by decide⟩ _ (HE.o _ ?_) B.o).mono ?_
  ·exact(N.o.trans HK2.o).own D.o (fun y hy=>by obtain rfl:=Ag.1 hy;exact HSB.o)
  rintro r w4 ⟨rfl,hb4,hk4⟩;have HB4:=lH hb4;have HK4:=lH (Aa.trans (Aa.trans (HK2.o.mono bA) D.o) hk4);clear hb4 hk4;go_wp2_with fail;exact bodyPost_ret (results_none rfl _ _ _) rfl ⟨rfl,by rw [HJ.o,if_pos O.o];exact HB4.o,HK4.o⟩
def fV(j:Bq)(ops:List GF):Bq:=if(BM ops j.req.who).2≠0 then Bq.refuses { j with role:=(BM ops j.req.who).1 } j.req.id (BM ops j.req.who).2 else { j with role:=(BM ops j.req.who).1,phase:=3 }
theorem Y0(L:List GF)(B:ByteArray): -9223372036854775808<=(BM L B).2/\(BM L B).2<=9223372036854775807:=by
 unfold BM
 repeat' split
 all_goals (simp;try omega)
theorem QU(sb:Nat)(j:Bq)(v:CV)(c:BN)(now left:Int)(e:GJ)(hid : -9223372036854775808<=j.req.id/\j.req.id<=9223372036854775807)(wb w:World)(hE:Ks wb)(E:Aa [] wb w)(F:wb.heap.size<=sb)(hm:Cg w v c)(h:AH w sb j v now left e):
  Calls prog 86 #[pG (some (A_ sb 0))] w fun r w'=>r = pJ (.tuple #[])/\AH w' sb (fV j c.ops) v now left e/\Aa [sb] w w':=by
 have HE:Hi (∀W,Aa [] wb W->Ks W):=lH fun W hk=>hE.keeps hk;have J:=lH E;have HSB:=lH F;have HB:=lH h;have HM:=lH hm;have HID:=lH hid;have D:=lH (Y0 c.ops j.req.who);obtain⟨R,hR⟩:=eX (BM c.ops j.req.who);have HJ:Hi (fV j c.ops=if R.2≠0 then Bq.refuses { j with role:=R.1 } j.req.id R.2 else { j with role:=R.1,phase:=3 }):=lH (by unfold fV;rw [hR]);rw [hR] at D;obtain⟨B,er⟩:=R;have N:=lH (fun W (hk:Aa [] w W)=>Pj v.oa v.oc c.ops v.on HM.o.on (by have:=HM.o.ol;omega) HM.o.os j.req.who B er hR W (HM.o.o.keeps hk));have r:=(AH.lit h).rl;clear h hE E F hm hid hR;go_enter func86,ntmps86;go_upto_region 0 with(fail)
 go_cut [2,3] (fun x y wc=>x = pE pK B/\y = pE pK er/\Hi (Aa [] w wc))
 case first=>
  refine wp_region_held_drew (S:=(Aa [] w)) bC (by((try dsimp only);((try with_reducible refine Aa.drew ?_);with_reducible (first | exact hk1 | exact Aa.refl _ _)))) (fun hHeld=>?_);refine rK 0 ?_;refine rK 1 ?_;refine rK 2 ?_;refine rK 3 ?_;refine rK 4 ?_;refine rK 5 ?_;refine rK 6 ?_;refine rK 7 ?_;refine rK 8 ?_;refine rK 9 ?_;refine rK 10 ?_;refine rC 11 fun K hK=>?_;go_simp
  (refine(N.o _ hHeld).mono ?_;rintro e1 w1 ⟨rfl,hk1⟩;have hk1:=((Aa.refl [] w).drew).trans hk1)
  (try clear rH);refine rP hK (by((try dsimp only);((try with_reducible refine Aa.drew ?_);with_reducible (first | exact hk1 | exact Aa.refl _ _)))) fun rH hHeld=>?_;clear hK K
  refine rK 12 ?_;refine rK 13 ?_;refine rK 14 ?_;refine rK 15 ?_;refine rK 16 ?_;refine wpAnyH_done bC ?_ _
  (go_wp2_with (fail);go_meet;exact⟨rfl,rfl,lH hk1⟩)
 case rest=>
  obtain⟨rfl,rfl,HK1⟩:=hcut
  rename World=>w1
  clear r;have HB1:Hi (AH w1 sb j v now left e):=lH (HB.o.keeps HK1.o bA);have O:=(AH.lit HB1.o).rl;obtain⟨w2,G⟩:=eX (w1.setCell (A_ sb 20) (pE pK B));have HB2:Hi (AH w2 sb { j with role:=B } v now left e):=lH (by rw [<- G];exact AH.role HB1.o B);have HK2:Hi (Aa [sb] w w2):=lH ((HK1.o.mono bA).trans (by rw [<- G];exact Ae _ _ _ _));have T:=(AH.lit HB2.o).rl;by_cases h0:er=0
  ·subst h0
   go_wp2_with (fail)
   go_end0
   exact⟨rfl,by rw [HJ.o,if_neg bA];exact AH.phase HB2.o 3,HK2.o.trans (Ae _ _ _ _)⟩
  ·have f1:(er != 0)=true:=by simpa using h0
   have M:=lH h0;clear h0;go_wp2_with (fail);refine(FR sb { j with role:=B } v now left e j.req.id er HID.o D.o _ (HE.o _ (J.o.own HK2.o (fun y hy=>by obtain rfl:=Ag.1 hy;exact HSB.o))) HB2.o).mono ?_;rintro r w4 ⟨rfl,hb4,hk4⟩;have HB4:=lH hb4;have HK4:=lH (HK2.o.trans hk4);clear hb4 hk4;go_wp2_with (fail);exact bodyPost_ret (results_none rfl _ _ _) rfl ⟨rfl,by rw [HJ.o,if_pos M.o];exact HB4.o,HK4.o⟩
theorem fT(s t:ByteArray)(i k:Int)(x:ByteArray)(w:World):(binOp .eql 97 (pH #[Dz s,I_ i,Dz x]) (pH #[Dz t,I_ k,Dz x])).run prog w = .ok (pI (decide ((⟨s,i,x⟩:IA)=⟨t,k,x⟩))) w:=by
 rw [run_eql_struct,KD];rfl
def aJ(l:List IA)(who:ByteArray)(id:Int)(k:Nat):Prop:=∀j<k,∀a,l[j]? = some a->¬(a.who=who/\a.id=id)
theorem RD{α:Type}{p:α->Bool}: ∀ {l:List α} {k:Nat} {a:α},(∀j<k,∀b,l[j]? = some b->p b=false)->l[k]? = some a->p a=true->l.find? p=some a
 | x::l,0,a,_,h1,h2=>by
  simp only [Aj,Option.some.injEq] at h1;subst h1;rw [List.find?_cons,h2]
 | x::l,k+1,a,h0,h1,h2=>by
  rw [List.find?_cons,h0 0 bB x rfl];exact RD (fun j hj b hb=>h0 (j+1) (Nat.succ_lt_succ hj) b (by simpa using hb)) bR h2
 | [],_,_,_,h1,_=>by simp at h1
theorem QO{l:List IA}{B:ByteArray}{id:Int}{k:Nat}{a:IA}(h:aJ l B id k)(D:l[k]? = some a)(h1:a.who=B)(h2:a.id=id):Bf l B id=some a.text:=by
 unfold Bf;rw [RD (k:=k) (a:=a) (fun j hj b hb=>?_) D (by simp [h1,h2])]
 ·rfl
 ·have:=h j hj b hb
  rw [Bool.and_eq_false_iff];by_cases h3:b.who=B
  ·right;exact beq_eq_false_iff_ne.2 (fun h4=>this ⟨h3,h4⟩)
  ·left;exact beq_eq_false_iff_ne.2 h3
theorem Ol{l:List IA}{B:ByteArray}{id:Int}(h:aJ l B id l.length):Bf l B id=none:=by
 unfold Bf;rw [List.find?_eq_none.2]
 ·rfl
 ·intro a D
  obtain⟨j,hj,rfl⟩:=List.getElem_of_mem D;have:=h j hj _ (Aq hj);simp only [Af,beq_iff_eq];exact this
theorem K0(sb:Nat)(j:Bq)(v:CV)(c:BN)(now left:Int)(e:GJ)(w:World)(hm:Cg w v c)(h:AH w sb j v now left e):
  Calls prog 120 #[pG (some (A_ sb 0))] w fun r w'=>r = pJ (.tuple #[Dz ((Bf c.done j.req.who j.req.id).getD ⟨#[]⟩),pI (Bf c.done j.req.who j.req.id).isSome])/\Aa [] w w':=by
 have HB:=lH h;have U:=lH hm.d;have HN:=lH hm.dn;have O:=hm.dl;obtain⟨l,hl⟩:=eX (c.done);rw [hl] at U HN ⊢;obtain⟨n,hn⟩:=eX (v.dn);rw [hn] at HN O;obtain⟨R,hR⟩:=eX (Bf l j.req.who j.req.id);rw [hR];have HR:=lH hR;have r:=(AH.lit h).rl;rw [hn] at r;have ac:=lH hn;clear h hm hl hn hR;go_enter func120,ntmps120;go_wp2;clear r;go_loopw [13] (fun i wr=>∃k:Nat,k<=n/\i = pE pK k/\Hi (aJ l j.req.who j.req.id k)/\Hi (Aa [] w wr)) (fun i _=>n - (intOf i).toNat)
 case atStart=>exact⟨0,Ba _,rfl,lH (fun j hj=>by omega),lH (Aa.refl [] w)⟩
 case round=>
  obtain⟨k,hk,rfl,HA,HK⟩:=hrel;by_cases hlt:k<n
  ·obtain⟨g1,o1,y,G,hg1,hx1,hat1⟩:=(U.o.keeps HK.o).at_k (k:=k) bO
   have q0:=hat1 0 _ rfl;have q1:=hat1 1 _ rfl;have q2:=hat1 2 _ rfl;rw [AT] at q0;have i1:(0:Int)<=(k:Int):=by omega
   have i2:(k:Int)<(n:Int):=by omega
   obtain⟨wa,D⟩:=eX (wr.alloc (.cells #[Dz y.who,pE pK y.id,Dz y.text] 97));have M:Aa [] wr wa:=by rw [<- D];exact(Aa.refl [] wr).alloc _
   have E:Hi (Blk wa wr 97 #[Dz y.who,pE pK y.id,Dz y.text]):=lH (by rw [<- D];exact Blk.new wr _ _);have B:=lH (HK.o.trans M);have HSA:Hi (AH wa sb j v now left e):=lH (HB.o.keeps B.o bA);have X:=lH hx1;have ab:=lH G;rw [G];clear hat1 hx1 M hg1;go_upto_region 4 with(fail)
   clear D q0 q1 q2;have r:=(AH.lit HSA.o).rl;have T:=E.o.rl;go_cut [6] (fun x wc=>∃g,x = pG (some (A_ g 0))/\Hi (Blk wc g 97 #[Dz j.req.who,pE pK j.req.id,Dz y.text])/\Hi (Aa [] wa wc))
   case first=>
    refine C8 (b:=16) (S:=(Aa [] wa)) bC (by((try dsimp only);((try with_reducible refine Aa.drew ?_);(try with_reducible refine Aa.alloc ?_ _);with_reducible exact Aa.refl _ _))) (fun hHeld=>?_);refine tK 0 ?_;refine tK 1 ?_;refine tK 2 ?_;refine tK 3 ?_;refine tK 4 ?_;refine tK 5 ?_;refine tK 6 ?_;refine tK 7 ?_;refine tK 8 ?_;refine tK 9 ?_;refine tK 10 ?_;refine tK 11 ?_;refine tK 12 ?_;refine tK 13 ?_;refine tK 14 ?_;refine tC 15 fun K hK=>?_;go_simp
    (try clear rH);refine tP hK (by((try dsimp only);((try with_reducible refine Aa.drew ?_);(try with_reducible refine Aa.alloc ?_ _);with_reducible exact Aa.refl _ _))) fun rH hHeld=>?_;clear hK K
    refine tS fun K hK=>?_;go_simp
    (try clear rH);(try clear hHeld);refine tT hK fun hHeld=>?_;clear hK K
    refine wpAnyH_done bC ?_ _
    (go_wp2_with (fail);go_meet;exact⟨_,rfl,lH (by first | exact Blk.new _ _ _ | exact(((Blk.new wa.drew 97 #[Dz ⟨#[]⟩,pE pK 0,Dz ⟨#[]⟩]).set_ 0 (Dz j.req.who)).set_ 1 (pE pK j.req.id)).set_ 2 (Dz y.text)),lH (by first | exact((Aa.refl [] wa).drew).alloc _ | exact(((((Aa.refl [] wa).drew).alloc _).setCell (.inr bA) _).setCell (.inr bA) _).setCell (.inr bA) _)⟩)
   case rest=>
    obtain⟨g,rfl,HG,HKG⟩:=hcut
    rename World=>wc
    clear r T;have rg:=HG.o.rl;have T:=(E.o.keeps HKG.o bA).rl;have J:=fun W=>fT y.who j.req.who y.id j.req.id y.text W;by_cases hh:y.who=j.req.who/\y.id=j.req.id
    ·obtain rfl:R=some y.text:=by rw [<- HR.o];exact QO HA.o X.o hh.1 hh.2
     rw [hh.1,hh.2,decide_eq_true rfl] at J;rw [hh.1,hh.2] at T;clear hh;go_wp2_with (fail);go_ret2;exact⟨rfl,B.o.trans HKG.o⟩
    ·have Y:decide ((⟨y.who,y.id,y.text⟩:IA)=⟨j.req.who,j.req.id,y.text⟩)=false:=decide_eq_false (fun e=>by injection e with e1 e2 _;exact hh ⟨e1,e2⟩)
     rw [Y] at J;have N:Hi (aJ l j.req.who j.req.id (k+1)):=lH (fun i hi a F=>by
      rcases pP i k with h | h
      ·exact HA.o i h a F
      ·obtain rfl:i=k:=by omega
       rw [X.o] at F;injection F with F
       rw [<- F];exact hh)
     clear hh Y;go_wp2_with (fail);go_roundw;case rel=>exact⟨k+1,by omega,by go_num,N,lH (B.o.trans HKG.o)⟩
     case measure=>simp [intOf];omega
  ·obtain rfl:k=n:=by omega
   obtain rfl:R=none:=by rw [<- HR.o];exact Ol (by rw [HN.o];exact HA.o)
   go_wp2;go_ret2;exact⟨rfl,HK.o⟩
end
section
open Go.RowKit Go.Shelf
structure SI(wb:World)(sb:Nat)(w:World)(v:CV)(c:BN):Prop where
 kw:Aa [] wb w
 lo:wb.heap.size+3≤sb
 m:Cg w v c
 no:DU (fun y=>y=sb∨y<wb.heap.size+3) v c
 nj:DW (fun y=>y=sb∨y<wb.heap.size+3) v.ja v.jn
 pf:uR wb.heap.size v
theorem SI.keeps{wb w w':World}{sb:Nat}{v:CV}{c:BN}(h:SI wb sb w v c)(hk:Aa [] w w'):SI wb sb w' v c:=⟨h.kw.trans hk,h.lo,h.m.keeps hk,h.no,h.nj,h.pf⟩
theorem SI.put{wb w w':World}{sb:Nat}{v u:CV}{c:BN}{j:Bq}{now left:Int}{e:GJ}(h:SI wb sb w v c)(hs:AH w sb j u now left e)(hk:Aa [sb] w w'):SI wb sb w' v c:=
 ⟨h.kw.own hk (fun y hy=>by obtain rfl:=Ag.1 hy;have:=h.lo;omega),h.lo,h.m.stay h.no h.nj hk (fun y hy=>.inl bU) (H9.blk hs bE bE),h.no,h.nj,h.pf⟩
def Lz(wb:World)(sb:Nat)(w:World)(now left:Int)(R:Bq×BN×GJ):Ending->World->Prop:=fun r w'=>∃v',r = pJ (.tuple #[])/\AH w' sb R.1 v' now left R.2.2/\SI wb sb w' v' R.2.1/\Aa [sb] w w'
theorem NY{w:World}{a:Option Addr}{c:Nat}{xs:List ByteArray}(h:Cy w a c xs):Kv w a c xs:=
 ⟨h.le,h.nil,fun h0=>by
  obtain⟨g,off,cs,fz,ha,hb,hat⟩:=h.at_ (by intro e;rw [e] at h0;simp at h0);refine⟨g,off,ha,(Ai.1 hb).1,fun i hi j u hj=>?_⟩;cases j with
  | zero=>
   simp only [Fd,Aj,Option.some.injEq] at hj;rw [<- hj,pR,AT];exact hat i hi
  | succ j=>simp [Fd] at hj⟩
theorem Wf(l:List ByteArray):l.flatMap Fd=l.map Dz:=by
 induction l with
 | nil=>rfl
 | cons x l ih=>rw [List.flatMap_cons,ih];rfl
theorem Xd{w:World}{B n c:Nat}{a:Option Addr}{xs:List ByteArray}(h:w.ownsRow B 9 1 (pF a n c) xs.length (xs.flatMap Fd))(D:xs.length<=1000000)(hsz:∀x∈xs,x.size<=maxLen):Cy w a c xs:=by
 rw [Wf] at h;obtain⟨E,F,h1,h2⟩:=J0 h D hsz;injection h1 with e1 _ e3
 rw [e1,e3];exact h2
theorem Zd{p:Po}{cursor f n now:Int}{q:Po}{page:List ByteArray}{nx:Int}(h:qO p cursor f n now=(q,page,nx,0)):page.length<=64/\1<=cursor/\cursor<=1000000000000/\-1<=nx/\nx<=64:=by
 rcases Ps h with⟨_,_,_,h4⟩ | ⟨J,M,s,hl,hm,h2,_,h3,h4,F,G,_,E,h8,_⟩
 ·exact absurd rfl h4
 ·have hs:s∈p.l:=by rw [hl];simp
  have h10:=hm.ok.cur s hs;have B:=hm.ok.wh s hs;have D:=hm.ok.n2;simp only [Dd,Af,decide_eq_true_eq] at B;have hp:page.length<=s.items.length:=by rw [E];unfold oV;rw [Ax,B1];omega
  refine⟨by omega,by omega,by omega,?_,?_⟩;all_goals
   rw [h8];unfold oW IL
   repeat' split
   all_goals omega
theorem Zm{p:Po}{xs:List ByteArray}{now:Int}{q:Po}{cur err:Int}(h:IV p xs now=(q,cur,err)): -9223372036854775808<=err/\err<=9223372036854775807:=by
 unfold IV at h;split at h<;>cases h<;>decide
theorem Zc{p:Po}{cursor f n now:Int}{q:Po}{page:List ByteArray}{nx err:Int}(h:qO p cursor f n now=(q,page,nx,err)): -9223372036854775808<=err/\err<=9223372036854775807:=by
 unfold qO at h
 repeat' split at h
 all_goals (cases h;decide)
end
section
open Go.RowKit Go.Shelf
attribute [local go_sem] pN Lr Ls Lp Lq
attribute [local go_sem ↓] wp_at_zero wp_at_succ
theorem EO{P:Program}{B:Oper}{a:Act}{w:World}(ty:TypeId)(x:Operand)(ho:B.op = .load ty x)(b o:Nat)(hx:a.eval x = p_ b o)(cs:Array Value)(d:TypeDesc)(D:w.rangeAt b o cs.toList)
 (hu:P.underlying ty=some d)(E:d.isRow=true)(hi:(P.info? ty).map (·.size)=some cs.toList.length):(execOp a.eval B).run P w = .ok (.value (.agg cs)) w:=by
 unfold execOp;simp only [ho,hx,Instr.loadAt,Instr.sureAddr,Sem.run_bind,Sem.run_pure,Result.andThen_ok,run_loadVar_mid w b o ty cs.toList d D hu E hi]
theorem AH.reqs{w:World}{sb:Nat}{j:Bq}{v:CV}{now left:Int}{e:GJ}(h:AH w sb j v now left e):w.rangeAt sb 3 (reqA j.req).toList:=fun i u hu=>by
 have:=(AH.lit h).cell (3+i);rw [this];simp only [reqA] at hu
 match i,hu with
 | 0,hu=>exact hu
 | 1,hu=>exact hu
 | 2,hu=>exact hu
 | 3,hu=>exact hu
 | 4,hu=>exact hu
 | 5,hu=>exact hu
 | 6,hu=>exact hu
 | 7,hu=>exact hu
 | 8,hu=>exact hu
 | 9,hu=>exact hu
 | 10,hu=>exact hu
 | 11,hu=>exact hu
 | 12,hu=>exact hu
 | 13,hu=>exact hu
 | 14,hu=>exact hu
 | 15,hu=>exact hu
 | 16,hu=>exact hu
 | i+17,hu=>simp at hu
theorem Wt{j:Bq}{p P:Po}{xs:List ByteArray}{seq now cur err:Int}(h:(if j.req.cursor=0 then IV p xs now else(p,j.req.cursor,0))=(P,cur,err))(h0:¬err=0):Ft j p xs seq now=(j.refuses j.req.id err,p):=by
 unfold Ft;simp only [h];rw [if_pos h0]
theorem Wu{j:Bq}{p P Q:Po}{xs page:List ByteArray}{seq now cur nx err:Int}(h:(if j.req.cursor=0 then IV p xs now else(p,j.req.cursor,0))=(P,cur,0))(h2:qO P cur j.req.from_ j.req.count now=(Q,page,nx,err))(h0:¬err=0):Ft j p xs seq now=(j.refuses j.req.id err,p):=by
 unfold Ft;simp only [h,h2];rw [if_neg bA,if_pos h0]
theorem Wv{j:Bq}{p P Q:Po}{xs page:List ByteArray}{seq now cur nx:Int}(h:(if j.req.cursor=0 then IV p xs now else(p,j.req.cursor,0))=(P,cur,0))(h2:qO P cur j.req.from_ j.req.count now=(Q,page,nx,0)):
  Ft j p xs seq now=(j.answers (Ex (okT::E2 j.req.id::E2 seq::E2 cur::(if 0<=nx then E2 nx else qV)::page)),Q):=by
 unfold Ft;simp only [h,h2];rw [if_neg bA,if_neg bA];simp
theorem Ze{p:Po}{cursor f n now:Int}{q:Po}{page:List ByteArray}{nx:Int}(h:qO p cursor f n now=(q,page,nx,0)):q.l.length<=3:=by
 rcases Ps h with⟨_,_,_,h4⟩ | ⟨B,D,s,hl,hm,_,_,_,_,_,_,hq,_⟩
 ·exact absurd rfl h4
 ·have:=hm.ok.len
  rw [hl] at this;rw [hq];simp at this ⊢;omega
theorem Cg.pool{w:World}{v:CV}{c:BN}(h:Cg w v c){a:Option Addr}{n k:Nat}{V:List SV}{P:Po}(hP:BP w a k V P)(hn:V.length=n)(hl:n<=1000):Cg w { v with pa:=a,pn:=n,pc:=k,pv:=V,nx:=P.next } { c with pool:=P }:=
 { h with p:=hP,pn:=hn,pl:=hl,nx:=rfl }
theorem SI.pool{wb w:World}{sb:Nat}{v:CV}{c:BN}(h:SI wb sb w v c){a:Option Addr}{n k:Nat}{V:List SV}{P:Po}(hP:BP w a k V P)(hn:V.length=n)(hl:n<=1000)(hF:∀x∈V,SO wb x):SI wb sb w { v with pa:=a,pn:=n,pc:=k,pv:=V,nx:=P.next } { c with pool:=P }:=
 ⟨h.kw,h.lo,h.m.pool hP hn hl,⟨h.no.o,h.no.r,h.no.d⟩,h.nj,hF⟩
theorem AH.pool{w:World}{sb:Nat}{j:Bq}{v:CV}{now left:Int}{e:GJ}(h:AH w sb j v now left e)(a:Option Addr)(n k:Nat)(V:List SV)(x:Int):AH ((w.setCell (A_ sb 30) (pF a n k)).setCell (A_ sb 31) (I_ x)) sb j { v with pa:=a,pn:=n,pc:=k,pv:=V,nx:=x } now left e:=
 (Blk.set_ h 30 (pF a n k)).set_ 31 (I_ x)
theorem N1{w:World}{sb:Nat}{j:Bq}{v:CV}{now left:Int}{e:GJ}(h:AH w sb j v now left e):H9 w [sb]:=H9.blk h bE bE
theorem N0{w:World}{g:Nat}{cs:Array Value}(h:Blk w g 32 cs):H9 w [g]:=H9.blk h bE bE
theorem YP(sb:Nat)(j:Bq)(v:CV)(c:BN)(now left:Int)(e:GJ)(seq:Int)(hid : -9223372036854775808<=j.req.id/\j.req.id<=9223372036854775807)(hsq : -9223372036854775808<=seq/\seq<=9223372036854775807)(hnm:∀x∈Bz c.reg,x.size<=maxLen)
 (wb w:World)(eN:Nat->Addr)(hE:Ks wb)(hN:M1 wb eN)(hI:SI wb sb w v c)(h:AH w sb j v now left e):
  Calls prog 122 #[.pointer (some (A_ sb 0)),.int .i64 seq] w (Lz wb sb w now left ((Ft j c.pool (Bz c.reg) seq now).1,{ c with pool:=(Ft j c.pool (Bz c.reg) seq now).2 },e)):=by
 have HE:Hi (∀W,Aa [] wb W->Ks W):=lH fun W hk=>hE.keeps hk;have HN:Hi (∀W,Aa [] wb W->M1 W eN):=lH fun W hk=>M1.keep hN hk;have HI:=lH hI;have HB:=lH h;have HID:=lH hid;have HSQ:=lH hsq;have HNM:=lH hnm;have hnl:(Bz c.reg).length=v.ln:=by rw [<- hI.m.l];unfold Bz;exact List.length_map ..
 have hnz:v.ln<=1000:=by rw [<- hI.m.l];exact hI.m.r.sl
 have HNL:=lH (show(Bz c.reg).length=v.ln/\v.ln<=1000 from⟨hnl,hnz⟩);obtain⟨LC,hLC⟩:=eX (Ft j c.pool (Bz c.reg) seq now);rw [hLC];have HLC:=lH hLC;have HNA:Hi (∀W,Aa [] w W->Calls prog 9 #[.agg (R_ v.r v.gn v.un v.fn v.ln v.seq)] W fun x w'=>∃a k,x = .returned (.slice a v.ln k)/\Cy w' a k (Bz c.reg)/\Aa [] W w'):=lH fun W hk=>
  (Vr v.r c.reg v.gn v.un v.fn v.ln hI.m.lv hnz v.seq hI.m.q W (hI.m.r.l.keeps hk) (hI.m.r.t.keeps hk)).mono fun x w' ⟨a,k,h1,_,h3,h4⟩=>⟨a,k,h1,Xd h3 (by rw [hnl];omega) hnm,h4⟩
 have HRQ:Hi (∀W,Aa [] w W->W.rangeAt sb 3 (reqA j.req).toList):=lH fun W hk=>AH.reqs (AH.keeps HB.o hk bA);have HSB:Hi (sb<w.heap.size):=lH (Blk.lt h);have r:=(AH.lit h).rl;clear hE hN hI h hid hsq hnm hLC hnl hnz;go_enter func122,ntmps122;go_upto_region 0 with fail
 go_cut [4,5,6] (fun x y z wc=>∃pb qb,x = .pointer (some (A_ pb 0))/\y = .int .i64 j.req.cursor/\z = .pointer (some (A_ qb 0))/\Hi (Blk wc pb 32 #[.slice v.pa v.pn v.pc,.int .i64 v.nx])/\Hi (Blk wc qb 63 (reqA j.req))/\Hi (Aa [] w wc)/\Hi (w.heap.size<=pb/\pb≠qb/\w.heap.size<=qb))
 case first=>
  refine C8 (b:=20) (S:=(Aa [] w)) bC fY (fun hHeld=>?_);refine tK 0 ?_;refine tK 1 ?_;refine tK 2 ?_;refine tK 3 ?_;refine tK 4 ?_;refine tK 5 ?_;refine tK 6 ?_;refine tK 7 ?_;refine tK 8 ?_;refine tK 9 ?_;refine tK 10 ?_;refine tK 11 ?_;refine tK 12 ?_;refine tK 13 ?_;refine tK 14 ?_;refine tQ 15 ?_ (hy:=by(intro wS hSw;refine(EO (P:=prog) 63 _ bD sb 3 bD (reqA j.req) _ (HRQ.o wS hSw) underlying63 rfl (Cr _)).trans ?_;with_reducible rfl));refine I5 (rs:=[16,17]) bC bA ?_;refine Dm.cons rfl bE (fun K hK=>?_) ?_
  ·go_simp
   (try clear rH);refine tP hK fY fun rH hHeld=>?_;clear hK K
   refine tC 17 fun K hK=>?_;go_simp
   (try clear rH);refine tP hK fY fun rH hHeld=>?_;clear hK K
   refine tC 18 fun K hK=>?_;go_simp
   (try clear rH);refine tP hK fY fun rH hHeld=>?_;clear hK K
   refine tK 19 ?_;refine tS fun K hK=>?_
   (first | refine wp_store_mid 63 _ _ bD (w+1) 0 (reqA j.req) bD bD (Blk.there (Ar _ _ _ _ bA) 0 17 bE) (Cr _) (Dg _) ?_ | refine wp_store_mid 63 _ _ bD w 0 (reqA j.req) bD bD (Blk.there ((Ar _ _ _ _ bA).alloc _) 0 17 bE) (Cr _) (Dg _) ?_)
   (try clear rH);(try clear hHeld);refine tT hK fun hHeld=>?_;clear hK K
   refine wpAnyH_done bC ?_ _
   (go_wp2_with fail;go_meet;refine⟨_,_,rfl,rfl,rfl,lH ?_,lH ?_,lH ?_,lH ⟨by simp,by simp,by simp⟩⟩;(· refine Blk.keeps ?_ (Bb _ 0 _ _) bA;(repeat(with_reducible first | exact Blk.new _ _ _ | exact Ar _ _ _ _ bA | refine Blk.alloc ?_ _ | refine Blk.drew ?_)));(· refine Blk.putAll (cs:=aQ.k) ?_ rfl;(repeat(with_reducible first | exact Blk.new _ _ _ | exact Ar _ _ _ _ bA | refine Blk.alloc ?_ _ | refine Blk.drew ?_)));(· refine Aa.setCells (.inr bA) _ 0 ?_;repeat(with_reducible first | exact Aa.refl _ _ | refine Aa.drew ?_ | refine Aa.alloc ?_ _)))
  refine Dm.cons rfl bE (fun K hK=>?_) ?_
  ·go_simp
   (try clear rH);refine tP hK fY fun rH hHeld=>?_;clear hK K
   refine tC 16 fun K hK=>?_;go_simp
   (try clear rH);refine tP hK fY fun rH hHeld=>?_;clear hK K
   refine tC 18 fun K hK=>?_;go_simp
   (try clear rH);refine tP hK fY fun rH hHeld=>?_;clear hK K
   refine tK 19 ?_;refine tS fun K hK=>?_
   (first | refine wp_store_mid 63 _ _ bD (w+1) 0 (reqA j.req) bD bD (Blk.there (Ar _ _ _ _ bA) 0 17 bE) (Cr _) (Dg _) ?_ | refine wp_store_mid 63 _ _ bD w 0 (reqA j.req) bD bD (Blk.there ((Ar _ _ _ _ bA).alloc _) 0 17 bE) (Cr _) (Dg _) ?_)
   (try clear rH);(try clear hHeld);refine tT hK fun hHeld=>?_;clear hK K
   refine wpAnyH_done bC ?_ _
   (go_wp2_with fail;go_meet;refine⟨_,_,rfl,rfl,rfl,lH ?_,lH ?_,lH ?_,lH ⟨by simp,by simp,by simp⟩⟩;(· refine Blk.keeps ?_ (Bb _ 0 _ _) bA;(repeat(with_reducible first | exact Blk.new _ _ _ | exact Ar _ _ _ _ bA | refine Blk.alloc ?_ _ | refine Blk.drew ?_)));(· refine Blk.putAll (cs:=aQ.k) ?_ rfl;(repeat(with_reducible first | exact Blk.new _ _ _ | exact Ar _ _ _ _ bA | refine Blk.alloc ?_ _ | refine Blk.drew ?_)));(· refine Aa.setCells (.inr bA) _ 0 ?_;repeat(with_reducible first | exact Aa.refl _ _ | refine Aa.drew ?_ | refine Aa.alloc ?_ _)))
  exact Dm.nil
 case rest=>
  obtain⟨pb,qb,rfl,rfl,rfl,HPB,HQB,HK,HPQ⟩:=hcut
  rename World=>wc
  clear r;have HIC:=lH (HI.o.keeps HK.o);have HBC:Hi (AH wc sb j v now left e):=lH (AH.keeps HB.o HK.o bA);have r:=(AH.lit HBC.o).rl;have rp:=HPB.o.rl;have ne1:¬sb=pb:=by have:=HPQ.o.1;have:=HSB.o;omega
  have ne2:¬qb=pb:=by have:=HPQ.o.2.1;omega
  obtain⟨bc,hbc⟩:=eX ((j.req.cursor==0));have HBC:=lH hbc;go_upto_if 28 with fail
  clear hbc;go_cut [5,7] (fun x y wd=>∃a n k V P cur,x = .int .i64 cur/\y = .int .i64 0/\Hi ((if j.req.cursor=0 then IV c.pool (Bz c.reg) now else(c.pool,j.req.cursor,0))=(P,cur,0))/\Hi (V.length=n)/\Hi (BP wd a k V P)/\Hi (Blk wd pb 32 #[.slice a n k,.int .i64 P.next])/\Hi (Blk wd qb 63 (Q_ j.req))/\Hi (Aa [] w wd)/\Hi (∀z∈V,SO wb z))
  case first=>
   cases bc;rotate_left
   ·have h0:j.req.cursor=0:=by simpa using HBC.o
    obtain⟨P,cur,err,hP⟩:∃P cur err,IV c.pool (Bz c.reg) now=(P,cur,err):=⟨_,_,_,rfl⟩;have HP1:Hi ((if j.req.cursor=0 then IV c.pool (Bz c.reg) now else(c.pool,j.req.cursor,0))=(P,cur,err)):=lH (by rw [if_pos h0];exact hP);have HER:=lH (Zm hP);have HPN:Hi (∀W a m,Aa [] wc W->Cy W a m (Bz c.reg)->Calls prog 161 #[.agg #[.slice v.pa v.pn v.pc,.int .i64 v.nx],.slice a v.ln m,.int .i64 now] W (OA W P cur err)):=lH fun W a m hk hs=>by
     rw [<- HI.o.m.nx];exact iC v.pa v.pc v.pv c.pool v.pn HI.o.m.pn a m v.ln (Bz c.reg) HNL.o.1 now W (HI.o.m.p.keeps (HK.o.trans hk)) hs eN (HN.o W (HI.o.kw.trans (HK.o.trans hk))) P cur err hP
    clear hP h0;go_upto_region 3 with fail
    go_cut [5,7] (fun x y wd=>∃a n k V,x = .int .i64 cur/\y = .int .i64 err/\Hi (V.length=n)/\Hi (BP wd a k V P)/\Hi (Blk wd pb 32 #[.slice a n k,.int .i64 P.next])/\Hi (Aa [pb] wc wd)/\Hi (∀z∈V,SO wb z))
    case first=>
     refine wp_region_held_drew (S:=(Aa [pb] wc)) bC (by((try dsimp only);((try with_reducible refine Aa.drew ?_);(repeat with_reducible refine Aa.setCell ?_ (.inl bA) _);with_reducible (first | exact hkm2 | exact hkm1 | exact Aa.refl _ _)))) (fun hHeld=>?_)
     repeat' (first | exact rZ | refine rX ?_ | ((first | (refine rA 0 (fun K hK=>?_) ?_;go_simp) | (refine rA 6 (fun K hK=>?_) ?_;go_simp;(refine(HNA.o _ (HK.o.trans ((Aa.refl [] wc).drew))).mono ?_;rintro e1 w1 ⟨na,nk,rfl,hs1,hk1⟩;have hk1:=((Aa.refl [] wc).drew).trans hk1;have hkm1:=hk1.mono (S':=[pb]) bA;have rk:=(HPB.o.keeps hk1 bA).rl)) | (refine rA 11 (fun K hK=>?_) ?_;go_simp;(refine(HPN.o _ _ _ hk1 hs1).mono ?_;rintro e1 w2 ⟨a,n,k,V,rfl,hn,hp,hk2,hfr⟩;have hk2:=hk1.trans hk2;have hkm2:=hk2.mono (S':=[pb]) bA;have rk2:=(HPB.o.keeps hk2 bA).rl)) | (refine rA 16 (fun K hK=>?_) ?_;go_simp));(try clear rH);refine rP hK ((by((try dsimp only);((try with_reducible refine Aa.drew ?_);(repeat with_reducible refine Aa.setCell ?_ (.inl bA) _);with_reducible (first | exact hkm2 | exact hkm1 | exact Aa.refl _ _))))) fun rH hHeld=>?_;clear hK K) | (refine rK 1 ?_;refine rK 2 ?_;refine rK 3 ?_;refine rK 4 ?_;refine rK 5 ?_;refine rK 7 ?_;refine rK 8 ?_;refine rK 9 ?_;refine rK 10 ?_) | (refine rK 12 ?_;refine rK 13 ?_;refine rK 14 ?_;refine rK 15 ?_) | (refine rK 17 ?_;refine rK 18 ?_) | refine rB [0,6,11,16] ?_ | (refine wpAnyH_done bC ?_ _;(go_wp2_with fail;go_meet;exact⟨a,n,k,V,rfl,rfl,lH hn,lH (hp.off ((Ae _ pb 0 _).trans (Ae _ pb 1 _)) (N0 (HPB.o.keeps hk2 bA))),lH (((HPB.o.keeps hk2 bA).set_ 0 (.slice a n k)).set_ 1 (.int .i64 P.next)),lH ((hk2.mono bA).trans ((Ae _ pb 0 _).trans (Ae _ pb 1 _))),lH (fun z hz=>Fr.down (hfr z hz) (by have:=HI.o.kw.size;have:=HK.o.size;have:=hk1.size;omega))⟩)))
    case rest=>
     obtain⟨a,n,k,V,rfl,rfl,HVN,HPV,HPB2,HKD,HFV⟩:=hcut
     rename World=>wd
     clear r rp;have HKW:Hi (Aa [] w wd):=lH (HK.o.own HKD.o (fun y hy=>by obtain rfl:=List.mem_singleton.1 hy;exact HPQ.o.1));have HBD:Hi (AH wd sb j v now left e):=lH (AH.keeps HB.o HKW.o bA);have HQD:Hi (Blk wd qb 63 (Q_ j.req)):=lH (HQB.o.keeps HKD.o (by have:=HPQ.o.2.1;simp;omega));by_cases h1:err=0
     ·subst h1
      go_wp2_with fail;go_meet;exact⟨a,n,k,V,P,cur,rfl,rfl,HP1,HVN,HPV,HPB2,HQD,HKW,HFV⟩
     ·have f1:(err != 0)=true:=bR;obtain rfl:LC=(j.refuses j.req.id err,c.pool):=by rw [<- HLC.o];exact Wt HP1.o h1
      have rq:=HQD.o.rl;clear h1;go_wp2_with fail;refine(FR sb j v now left e j.req.id err HID.o HER.o _ (HE.o _ (HI.o.kw.trans HKW.o)) HBD.o).mono ?_;rintro r w4 ⟨rfl,hb4,hk4⟩;have HB4:=lH hb4;have HK4:=lH hk4;clear hb4 hk4;go_wp2_with fail;exact bodyPost_ret (results_none rfl _ _ _) rfl ⟨v,rfl,HB4.o,(HI.o.keeps HKW.o).put HBD.o HK4.o,(HKW.o.mono bA).trans HK4.o⟩
   ·have h0:¬j.req.cursor=0:=by simpa using HBC.o
    have H0:=lH h0;clear h0;go_wp2_with fail;go_meet;exact⟨v.pa,v.pn,v.pc,v.pv,c.pool,j.req.cursor,rfl,rfl,lH (if_neg H0.o),lH HI.o.m.pn,lH HIC.o.m.p,lH (by rw [HI.o.m.nx];exact HPB.o),lH HQB.o,HK,lH HI.o.pf⟩
  case rest=>
   obtain⟨a,n,k,V,P,cur,rfl,rfl,HP1,HVN,HPV,HPD,HQD,HKW,HFV⟩:=hcut
   rename World=>wd
   clear r rp;have HBD:Hi (AH wd sb j v now left e):=lH (AH.keeps HB.o HKW.o bA);obtain⟨Q,page,nx,err,hG⟩:∃Q page nx err,qO P cur j.req.from_ j.req.count now=(Q,page,nx,err):=⟨_,_,_,_,rfl⟩;have HG:=lH hG;have HER:=lH (Zc hG);have HPG:Hi (∀W,Aa [] wd W->Calls prog 162 #[.agg #[.slice a n k,.int .i64 P.next],.int .i64 cur,.int .i64 j.req.from_,.int .i64 j.req.count,.int .i64 now] W (Lv W Q page nx err)):=lH fun W hk=>
    dI a k V P n HVN.o cur j.req.from_ j.req.count now W (HPV.o.keeps hk) eN (HN.o W (HI.o.kw.trans (HKW.o.trans hk))) Q page nx err hG
   have r:=(AH.lit HBD.o).rl;have rp:=HPD.o.rl;have rq:=HQD.o.rl;clear hG;go_upto_region 6 with fail
   go_cut [7,8,9] (fun x y z we=>∃a n k V pa m pk,x = .int .i64 err/\y = .slice pa m pk/\z = .int .i64 nx/\Hi (V.length=n)/\Hi (BP we a k V Q)/\Hi (page.length=m)/\Hi (Cy we pa pk page)/\Hi (Blk we pb 32 #[.slice a n k,.int .i64 Q.next])/\Hi (Aa [pb] wd we)/\Hi (∀z∈V,SO wb z))
   case first=>
    refine wp_region_held_drew (S:=(Aa [pb] wd)) bC lF (fun hHeld=>?_);refine rK 1 ?_;refine rK 2 ?_;refine rK 3 ?_;refine rK 4 ?_;refine rK 5 ?_;refine rK 6 ?_;refine rK 7 ?_;refine rK 8 ?_;refine rK 9 ?_;refine rC 0 fun K hK=>?_;go_simp
    (try clear rH);refine rP hK lF fun rH hHeld=>?_;clear hK K
    refine rC 10 fun K hK=>?_;go_simp
    (refine(HPG.o _ ((Aa.refl [] wd).drew)).mono ?_;rintro e1 w2 ⟨a,n,k,V,pa,m,pk,rfl,hn,hp,hm,hst,hk2,hfr,hfr2⟩;have hk2:=((Aa.refl [] wd).drew).trans hk2;have hkm2:=hk2.mono (S':=[pb]) bA;have rk2:=(HPD.o.keeps hk2 bA).rl)
    (try clear rH);refine rP hK lF fun rH hHeld=>?_;clear hK K
    refine rK 11 ?_;refine rK 12 ?_;refine rK 13 ?_;refine rK 14 ?_;refine rK 15 ?_;refine rC 16 fun K hK=>?_;go_simp
    (try clear rH);refine rP hK lF fun rH hHeld=>?_;clear hK K
    refine rK 17 ?_;refine rK 18 ?_;refine rK 19 ?_;refine wpAnyH_done bC ?_ _
    (go_wp2_with fail;go_meet;exact⟨a,n,k,V,pa,m,pk,rfl,rfl,rfl,lH hn,lH (hp.off ((Ae _ pb 0 _).trans (Ae _ pb 1 _)) (N0 (HPD.o.keeps hk2 bA))),lH hm,lH (hst.keepsS ((Ae _ pb 0 _).trans (Ae _ pb 1 _)) (N0 (HPD.o.keeps hk2 bA)).str),lH (((HPD.o.keeps hk2 bA).set_ 0 (.slice a n k)).set_ 1 (.int .i64 Q.next)),lH ((hk2.mono bA).trans ((Ae _ pb 0 _).trans (Ae _ pb 1 _))),lH (fun z hz=>Fr.down (hfr z hz) (by have:=HI.o.kw.size;have:=HKW.o.size;have:=((Aa.refl [] wd).drew).size;omega))⟩)
   case rest=>
    obtain⟨a,n,k,V,pa,m,pk,rfl,rfl,rfl,HVN,HPV,HM,HST,HPE,HKE,HFV⟩:=hcut
    rename World=>we
    clear r rp rq;have HKV:Hi (Aa [] w we):=lH (HKW.o.own HKE.o (fun y hy=>by obtain rfl:=List.mem_singleton.1 hy;exact HPQ.o.1));have HBE:Hi (AH we sb j v now left e):=lH (AH.keeps HB.o HKV.o bA);have HQE:Hi (Blk we qb 63 (Q_ j.req)):=lH (HQD.o.keeps HKE.o (by have:=HPQ.o.2.1;simp;omega));have rq:=HQE.o.rl;have rp:=HPE.o.rl;by_cases h1:err=0;rotate_left
    ·have f1:(err != 0)=true:=bR;obtain rfl:LC=(j.refuses j.req.id err,c.pool):=by rw [<- HLC.o];exact Wu HP1.o HG.o h1
     clear h1;go_wp2_with fail;refine(FR sb j v now left e j.req.id err HID.o HER.o _ (HE.o _ (HI.o.kw.trans HKV.o)) HBE.o).mono ?_;rintro r w4 ⟨rfl,hb4,hk4⟩;have HB4:=lH hb4;have HK4:=lH hk4;clear hb4 hk4;go_wp2_with fail;exact bodyPost_ret (results_none rfl _ _ _) rfl ⟨v,rfl,HB4.o,(HI.o.keeps HKV.o).put HBE.o HK4.o,(HKV.o.mono bA).trans HK4.o⟩
    ·subst h1
     have HLE:Hi (LC=(j.answers (Ex (okT::E2 j.req.id::E2 seq::E2 cur::(if 0<=nx then E2 nx else qV)::page)),Q)):=lH (by rw [<- HLC.o];exact Wv HP1.o HG.o);have HPF:=lH (Zd HG.o);have hn3:n<=1000:=by have:=HVN.o;have:=HPV.o.mt.len;have:=Ze HG.o;omega
     obtain⟨v2,hv2⟩:∃v2:CV,{ v with pa:=a,pn:=n,pc:=k,pv:=V,nx:=Q.next } = v2:=⟨_,rfl⟩;obtain⟨wf,hwf⟩:=eX ((we.setCell (A_ sb 30) (.slice a n k)).setCell (A_ sb 31) (.int .i64 Q.next));have hkf:Aa [sb] we wf:=by rw [<- hwf];exact(Ae _ sb 30 _).trans (Ae _ sb 31 _)
     have HBF:Hi (AH wf sb j v2 now left e):=lH (by rw [<- hwf,<- hv2];exact AH.pool HBE.o a n k V Q.next);have HSI:Hi (SI wb sb wf v2 { c with pool:=Q }):=lH (by rw [<- hv2];exact((HI.o.keeps HKV.o).put HBE.o hkf).pool (HPV.o.off hkf (N1 HBE.o)) HVN.o hn3 HFV.o);have HSF:Hi (Cy wf pa pk page):=lH (HST.o.keepsS hkf (N1 HBE.o).str);have HQF:Hi (Blk wf qb 63 (Q_ j.req)):=lH (HQE.o.keeps hkf (by have:=HPQ.o.2.2;have:=HSB.o;simp;omega));have HKF:Hi (Aa [sb] w wf):=lH ((HKV.o.mono bA).trans hkf);obtain⟨en,hen⟩:=eX ((if 0<=nx then E2 nx else qV));have HEN:=lH hen;have r:=(AH.lit HBE.o).rl;clear hn3 hv2 hkf hen HPB HPD HPE HQB HQD HQE;obtain⟨bn,hbn⟩:=eX (decide (nx≥0));have HBN:=lH hbn;go_upto_if 81 with fail
     clear hbn;clear hwf r rp rq;go_cut [10] (fun x wg=>x = .string en/\Hi (Aa [] wf wg))
     case first=>
      cases bn;rotate_left
      ·have h2:0<=nx:=by simpa using HBN.o
       obtain rfl:en=E2 nx:=by rw [<- HEN.o,if_pos h2]
       go_wp2_with fail;refine(G4 nx bB (by have:=HPF.o.2.2.2.2;omega) _ (HE.o _ HSI.o.kw).tab).mono ?_;rintro e1 w2 ⟨rfl,hk2⟩;have hk2:=lH hk2;go_wp2_with fail;go_meet;exact⟨rfl,hk2⟩
      ·have h2:¬0<=nx:=by simpa using HBN.o
       obtain rfl:en=qV:=by rw [<- HEN.o,if_neg h2]
       go_wp2_with fail;go_meet;exact⟨rfl,lH (Aa.refl _ _)⟩
     case rest=>
      obtain⟨rfl,HKG⟩:=hcut
      rename World=>wg
      have HBG:Hi (AH wg sb j v2 now left e):=lH (AH.keeps HBF.o HKG.o bA);have rq:=(HQF.o.keeps HKG.o bA).rl;obtain⟨wh,hwh⟩:=eX (wg.alloc (.cells #[.iface 9 (.string okT),.iface 3 (.int .i64 j.req.id),.iface 3 (.int .i64 seq),.iface 3 (.int .i64 cur),.iface 9 (.string en),.iface 41 (.slice pa m pk)] 20));have hkh:Aa [] wg wh:=by rw [<- hwh];exact(Aa.refl [] wg).alloc _
      have hV:QJ wh (some (A_ wg 0)) 6 [.iface 9 (.string okT),.iface 3 (.int .i64 j.req.id),.iface 3 (.int .i64 seq),.iface 3 (.int .i64 cur),.iface 9 (.string en),.iface 41 (.slice pa m pk)]:=by rw [<- hwh];exact MH wg _ 6 rfl 20
      have HS:=NP (some (A_ wg 0)) 6 6 _ [[okT],[E2 j.req.id],[E2 seq],[E2 cur],[en],page] rfl bE (by have:=HPF.o.1;simp;omega) wh (HE.o _ (HSI.o.kw.trans (HKG.o.trans hkh))) hV
       ⟨.inl ⟨_,rfl,rfl⟩,.inr (.inl ⟨_,rfl,rfl,HID.o⟩),.inr (.inl ⟨_,rfl,rfl,HSQ.o⟩),.inr (.inl ⟨_,rfl,rfl,by have:=HPF.o.2.1;omega,by have:=HPF.o.2.2.1;omega⟩),.inl ⟨_,rfl,rfl⟩,.inr (.inr ⟨pa,m,pk,rfl,HM.o,NY (HSF.o.keeps (HKG.o.trans hkh))⟩),trivial⟩
      have HKH:=lH (HKG.o.trans hkh);have HBH:Hi (AH wh sb j v2 now left e):=lH (AH.keeps HBG.o hkh bA);have hew:okT=⟨#[111,107]⟩:=rfl;rw [hew] at hwh;clear hkh hV hew;go_wp2_with fail;clear hwh rq;refine HS.mono ?_;rintro r w1 ⟨rfl,hk1⟩;have HB1:Hi (AH w1 sb j v2 now left e):=lH (AH.keeps HBH.o hk1 bA);have HK1:=lH (HKH.o.trans hk1);clear hk1 HS;go_wp2_with fail;refine(GL sb j _ _ _ _ _ _ _ _ _ _ now left e _ _ HB1.o).mono ?_;rintro r w2 ⟨rfl,hb2,hk2⟩;have HB2:=lH hb2;have HK2:=lH hk2;clear hb2 hk2;go_wp2_with fail;rw [HLE.o,HEN.o];exact bodyPost_ret (results_none rfl _ _ _) rfl ⟨v2,rfl,HB2.o,(HSI.o.keeps HK1.o).put HB1.o HK2.o,(HKF.o.trans (HK1.o.mono bA)).trans HK2.o⟩
end
section
open Go.RowKit Go.Shelf
def Yc(j:Bq)(c:BN)(now:Int):CJ:=if(pY c.reg j.role j.req.com now).2.err≠150 then(pY c.reg j.role j.req.com now).1 else c.reg
def cB(j:Bq)(c:BN)(now:Int):Bq×Po:=
 if(pY c.reg j.role j.req.com now).2.err≠0 then(j.refuses j.req.id (pY c.reg j.role j.req.com now).2.err,c.pool)
 else if j.req.com.verb=9 then Ft j c.pool (Bz (Yc j c now)) (pY c.reg j.role j.req.com now).2.seq now
 else(if Lh j.req.com.verb then { j.answers (Ex [okT,E2 j.req.id,E2 (pY c.reg j.role j.req.com now).2.seq,E2 (pY c.reg j.role j.req.com now).2.slot,E2 (pY c.reg j.role j.req.com now).2.gen,E2 (pY c.reg j.role j.req.com now).2.version,E2 (pY c.reg j.role j.req.com now).2.state]) with phase:=4,slot:=(pY c.reg j.role j.req.com now).2.slot,gen:=(pY c.reg j.role j.req.com now).2.gen }
  else j.answers (Ex [okT,E2 j.req.id,E2 (pY c.reg j.role j.req.com now).2.seq,E2 (pY c.reg j.role j.req.com now).2.slot,E2 (pY c.reg j.role j.req.com now).2.gen,E2 (pY c.reg j.role j.req.com now).2.version,E2 (pY c.reg j.role j.req.com now).2.state]),c.pool)
theorem Rd{j:Bq}{c:BN}{now:Int}{t:ByteArray}(h:Bf c.done j.req.who j.req.id=some t):commitC j c now=(j.answers t,c):=by unfold commitC;rw [h]
theorem Rc{j:Bq}{c:BN}{now:Int}(h:Bf c.done j.req.who j.req.id=none):
  commitC j c now=((cB j c now).1,{ c with reg:=Yc j c now,pool:=(cB j c now).2,done:=Do (c.done++[⟨j.req.who,j.req.id,(cB j c now).1.reply⟩]) }):=by
 unfold commitC;rw [h];rfl
theorem aZ{j:Bq}{c:BN}{now:Int}(h:CE c.reg):CE (Yc j c now):=by
 unfold Yc;split
 ·rename_i h0;exact MI h _ _ _ h0
 ·exact h
theorem Wz{r:CJ}(h:CE r):∀x∈Bz r,x.size<=maxLen:=fun x hx=>by
 have:=((Mk h).2 x hx).1;have h3:x.size=x.data.toList.length:=by rw [BX];rfl
 unfold maxLen;omega
theorem AH.reg{w:World}{sb:Nat}{j:Bq}{v:CV}{now left:Int}{e:GJ}(h:AH w sb j v now left e)(rv:B6)(gn un fn ln:Nat)(q:Int):
  AH (((((w.setCell (A_ sb 25) (pF rv.s.ga gn rv.s.gc)).setCell (A_ sb 26) (pF rv.s.ua un rv.s.uc)).setCell (A_ sb 27) (pF rv.s.fa fn rv.s.fc)).setCell (A_ sb 28) (pF rv.la ln rv.lc)).setCell (A_ sb 29) (I_ q)) sb j { v with r:=rv,gn:=gn,un:=un,fn:=fn,ln:=ln,seq:=q } now left e:=
 ((((Blk.set_ h 25 (pF rv.s.ga gn rv.s.gc)).set_ 26 (pF rv.s.ua un rv.s.uc)).set_ 27 (pF rv.s.fa fn rv.s.fc)).set_ 28 (pF rv.la ln rv.lc)).set_ 29 (I_ q)
theorem Aa.two{a b:Nat}{w w1 w2 w3:World}(h:Aa [] w w1)(h1:Aa [a] w1 w2)(h2:Aa [b] w2 w3):Aa [a,b] w w3:=((h.mono bA).trans (h1.mono bA)).trans (h2.mono bA)
theorem AH.done{w:World}{sb:Nat}{j:Bq}{v:CV}{now left:Int}{e:GJ}(h:AH w sb j v now left e)(a:Option Addr)(n k:Nat):AH (w.setCell (A_ sb 33) (pF a n k)) sb j { v with da:=a,dn:=n,dc:=k } now left e:=Blk.set_ h 33 (pF a n k)
theorem AH.sweep{w:World}{sb:Nat}{j:Bq}{v:CV}{now left:Int}{e:GJ}(h:AH w sb j v now left e)(s g:Int):AH (((w.setCell (A_ sb 1) (I_ 4)).setCell (A_ sb 22) (I_ s)).setCell (A_ sb 23) (I_ g)) sb { j with phase:=4,slot:=s,gen:=g } v now left e:=
 ((Blk.set_ h 1 (I_ 4)).set_ 22 (I_ s)).set_ 23 (I_ g)
theorem SI.reg{wb w:World}{sb:Nat}{v:CV}{c:BN}(h:SI wb sb w v c){rv:B6}{R:CJ}(hm:CH w rv R)(hn:CL (fun y=>y=sb\/y<wb.heap.size+3) rv R){gn un fn ln:Nat}{q:Int}(hq:q=R.seq)(hg:R.slots.gens.length=gn)(hu:R.slots.used.length=un)(hf:R.slots.free.length=fn)(hl:R.l.length=ln):
  SI wb sb w { v with r:=rv,gn:=gn,un:=un,fn:=fn,ln:=ln,seq:=q } { c with reg:=R }:=
 ⟨h.kw,h.lo,{ h.m with r:=hm,g:=hg,u:=hu,f:=hf,l:=hl,q:=hq.symm },⟨h.no.o,hn,h.no.d⟩,h.nj,h.pf⟩
theorem SI.done{wb w:World}{sb:Nat}{v:CV}{c:BN}(h:SI wb sb w v c){a:Option Addr}{n k:Nat}{d:List IA}(hd:O8 w a k d)(hn:d.length=n)(hl:n<=900)(hq:DW (fun y=>y=sb\/y<wb.heap.size+3) a n):SI wb sb w { v with da:=a,dn:=n,dc:=k } { c with done:=d }:=
 ⟨h.kw,h.lo,{ h.m with d:=hd,dn:=hn,dl:=hl },⟨h.no.o,h.no.r,hq⟩,h.nj,h.pf⟩
theorem CH.stayO{w W':World}{v:B6}{r:CJ}{B:Nat}{S:List Nat}(h:CH w v r)(hn:CL (· < B) v r)(hk:Aa S w W')(hS:∀y∈S,y<B\/w.heap.size<=y):CH W' v r:=
 h.stay (Q:=fun y=>y<B\/w.heap.size<=y) (hn.and2 (h.later (Q:=fun y=>w.heap.size<=y) (fun _ hy=>hy)) (fun _ hy=>hy)) hk hS
theorem QN{W:World}{B n k:Nat}{a:Option Addr}{xs:List IA}(h:W.ownsRow B 97 3 (pF a n k) n (xs.flatMap Cu))(hn:xs.length=n)(hl:n<=900)(N:B<=W.heap.size){g:Nat}{x:IA}(hx:AR Cu 3 W (some (A_ g 0)) 1 [x])(M:TypeId):
  ∃g' k' w',(BI #[34,34] M #[pF a n k,pF (some (A_ g 0)) 1 1]).run prog W = .ok (pF (some (A_ g' 0)) (n+1) k') w'/\w'.ownsRow B 97 3 (pF (some (A_ g' 0)) (n+1) k') (n+1) ((xs++[x]).flatMap Cu)/\(∀w0,Aa [] w0 W->w0.heap.size<=B->Aa [] w0 w'):=by
 obtain⟨O,z,D,E,F,G,J⟩:=Ck Gx;subst hn;obtain⟨v',w',h1,h2,h3⟩:=AR.app (c:=1) prog (t:=34) underlying34 D E F rfl G bE DL Kc h N hx bG J M;rw [show(xs++[x]).length=xs.length+1 by simp] at h2;obtain⟨g',k',rfl,hb,hg⟩:=QC h2;exact⟨g',k',w',h1,h2,fun w0 hk hs=>hk.grown h3 (fun y hy=>.inr (A8 hs (h.lt y hy).1))⟩
theorem Rs:Lu prog 34 97 3 (pH #[Dz ⟨#[]⟩,I_ 0,Dz ⟨#[]⟩]):=⟨by kernel_rfl,by kernel_rfl,by kernel_rfl,fun W=>by kernel_rfl,fun W=>by kernel_rfl,by kernel_rfl,by
 intro u hu;simp only [Value.cells,Ac,Ab,or_false] at hu;rcases hu with rfl | rfl | rfl<;>rfl⟩
theorem Yl{w:World}{B m g k:Nat}{xs:List IA}(hm:xs.length=m)(hp:0<m)(h:w.ownsRow B 97 3 (pF (some (A_ g 0)) m k) m (xs.flatMap Cu)):
  ∃o rc,(∀W,(AV 34 (pF (some (A_ g 0)) m k) (some (I_ ((m - 8:Nat):Int))) none none).run prog W = .ok (pF (some (A_ g o)) (m - (m - 8)) rc) W)/\O8 w (some (A_ g o)) rc (Do xs):=by
 have hS:O8 w (some (A_ g 0)) k xs:=AR.row (xs:=xs) DL (by rw [hm];exact h);have D:=hS.le;have hne:¬k=m - 8:=bB;refine⟨0+(m - 8)*3,k - (m - 8),fun W=>(Rs.s_l W g 0 m k (m - 8) bB bB).trans (by rw [if_neg hne]),?_⟩;unfold Do;rw [hm];refine⟨by rw [B1];omega,(fun e=>by cases e),fun _=>?_⟩;obtain⟨E,off,e,hg,hat⟩:=hS.at_ bB;injection e with e
 injection e with e1 e2 _
 subst e1;subst e2;refine⟨g,0+(m - 8)*3,rfl,hg,fun i hi j u hj=>?_⟩;rw [List.getElem_drop] at hj;have:=hat (m - 8+i) (by rw [B1] at hi;omega) j u hj
 rwa [show 0+(m - 8+i)*3+j=0+(m - 8)*3+i*3+j by omega] at this
end
section
open Go.RowKit Go.Shelf
attribute [local go_sem] pN Lr Ls Lp Lq
attribute [local go_sem ↓] wp_at_zero wp_at_succ
theorem Tq(sb:Nat)(j:Bq)(v:CV)(c:BN)(now left:Int)(e:GJ)(t:ByteArray)(hZ:Bf c.done j.req.who j.req.id=some t)(wb w:World)(hI:SI wb sb w v c)(h:AH w sb j v now left e):
  Calls prog 87 #[pG (some (A_ sb 0))] w (Lz wb sb w now left ((commitC j c now).1,(commitC j c now).2,e)):=by
 have HA:=K0 sb j v c now left e w hI.m h;rw [hZ] at HA;simp only [Option.getD_some,Option.isSome_some] at HA;rw [Rd hZ];have HI:=lH hI;have HB:=lH h;clear hI h hZ;go_enter func87,ntmps87;go_wp2_with fail;refine HA.mono ?_;rintro B w1 ⟨rfl,hk1⟩;have HB1:Hi (AH w1 sb j v now left e):=lH (AH.keeps HB.o hk1 bA);have HK1:=lH hk1;clear hk1 HA;go_wp2_with fail;refine(GL sb j _ _ _ _ _ _ _ _ _ _ now left e t _ HB1.o).mono ?_;rintro B w2 ⟨rfl,hb2,hk2⟩;have HB2:Hi (AH w2 sb (j.answers t) v now left e):=lH hb2;have HK2:=lH hk2;clear hb2 hk2;go_wp2_with fail;exact bodyPost_ret (results_none rfl _ _ _) rfl ⟨v,rfl,HB2.o,(HI.o.keeps HK1.o).put HB1.o HK2.o,(HK1.o.mono bA).trans HK2.o⟩
theorem Tp(E eN:Nat->Addr)(sb:Nat)(j:Bq)(v:CV)(c:BN)(now left:Int)(e:GJ)(hid:0<=j.req.id/\j.req.id<=1000000)(hat : -9223372036854775808<=j.req.com.at_/\j.req.com.at_<=9223372036854775807)(hc:Gd c)(hZ:Bf c.done j.req.who j.req.id=none)
 (wb w:World)(hE:Ks wb)(hR:Lx wb E)(hN:M1 wb eN)(hI:SI wb sb w v c)(h:AH w sb j v now left e):
  Calls prog 87 #[pG (some (A_ sb 0))] w (Lz wb sb w now left ((commitC j c now).1,(commitC j c now).2,e)):=by
 have HA:=K0 sb j v c now left e w hI.m h;rw [hZ] at HA;simp only [Option.getD_none,Option.isSome_none] at HA;rw [Rc hZ];have HE:Hi (∀W,Aa [] wb W->Ks W):=lH fun W hk=>hE.keeps hk;have HN:=lH hN;have bl:=lH hE;have HI:=lH hI;have HB:=lH h;have HID:=lH hid;have HC:=lH hc;obtain⟨D,hD⟩:=eX (pY c.reg j.role j.req.com now);obtain⟨G,hG⟩:=eX (Yc j c now);obtain⟨O,am⟩:=eX (cB j c now);have HG:Hi ((if D.2.err≠150 then D.1 else c.reg)=G):=lH (by rw [<- hG,<- hD];rfl);have ag:Hi ((if D.2.err≠0 then(j.refuses j.req.id D.2.err,c.pool)
  else if j.req.com.verb=9 then Ft j c.pool (Bz G) D.2.seq now
  else(if Lh j.req.com.verb then { j.answers (Ex [okT,E2 j.req.id,E2 D.2.seq,E2 D.2.slot,E2 D.2.gen,E2 D.2.version,E2 D.2.state]) with phase:=4,slot:=D.2.slot,gen:=D.2.gen }
   else j.answers (Ex [okT,E2 j.req.id,E2 D.2.seq,E2 D.2.slot,E2 D.2.gen,E2 D.2.version,E2 D.2.state]),c.pool))=O):=lH (by rw [<- am,<- hG,<- hD];rfl)
 have bo:Hi (CE G):=lH (by rw [<- hG];exact aZ hc.reg);have HER:Hi (0<=D.2.err/\D.2.err<=1000):=lH (by rw [<- hD];exact LA _ _ _ _);have bq:Hi (D.2.err=0->fO D.2):=lH (by rw [<- hD];exact Jc hc.reg _ _ _);have bh:Hi (∀W,Aa [] w W->Calls prog 21 #[pH (R_ v.r v.gn v.un v.fn v.ln v.seq),I_ j.role,pH (K_ j.req.com),I_ now] W (Lt W D)):=lH fun W hk=>by
  rw [<- hD];exact Ng v.r c.reg v.gn v.un v.fn v.ln hI.m.g hI.m.u hI.m.f hI.m.l v.seq hI.m.q j.role j.req.com now hat W E (hR.keeps (hI.kw.trans hk)) (hI.m.r.keeps hk)
 rw [hG,am];have bz:Hi (w.rangeAt sb 3 (reqA j.req).toList->∀W,Aa [] w W->W.rangeAt sb 3 (reqA j.req).toList):=lH fun _ W hk=>AH.reqs (AH.keeps h hk bA);have HSB:Hi (sb<w.heap.size):=lH (Blk.lt h);clear hE hR hN hI h hid hat hc hZ hD hG am;go_enter func87,ntmps87;go_wp2_with fail;refine HA.mono ?_;rintro r0 w1 ⟨rfl,hk1⟩;have HB1:Hi (AH w1 sb j v now left e):=lH (AH.keeps HB.o hk1 bA);have bp:=lH (AH.reqs HB1.o);obtain⟨w2,Y⟩:=eX (w1.alloc (.cells (reqA j.req) 63));have ae:Aa [] w1 w2:=by rw [<- Y];exact(Aa.refl [] w1).alloc _
 have ak:Hi (Blk w2 w1 63 (Q_ j.req)):=lH (by rw [<- Y];exact Blk.new w1 _ _);have HK2:=lH (hk1.trans ae);have HB2:Hi (AH w2 sb j v now left e):=lH (AH.keeps HB.o HK2.o bA);have HSQ:Hi (sb<w1.heap.size/\w1.heap.size<w2.heap.size):=lH ⟨BS HSB.o hk1.size,by rw [<- Y];simp⟩;clear hk1 ae HA;go_upto_region 4 with(first | (refine Ay bD 63 _ bD sb 3 bD (reqA j.req) _ bp.o underlying63 rfl (Cr _) ?_) | (refine wpList_store_row bD 63 _ _ bD w1 (reqA j.req) bD bD 63 (reqA req0) (Blk.new w1 _ _) (Cr _) rfl (Dg _) ?_;rw [pQ]))
 simp only [By];rw [Y];clear Y;obtain⟨qb,ba⟩:=eX w1.heap.size;rw [ba] at ak HSQ ⊢;have r2:=(AH.lit HB2.o).rl;have rq:=ak.o.rl;clear ba;go_cut [5,6] (fun x y wd=>∃rb ab rv gn un fn ln q,x = p_ rb 0/\y = p_ ab 0/\Hi (Blk wd rb 29 (R_ rv gn un fn ln q))/\Hi (Blk wd ab 85 #[pE pK D.2.err,I_ D.2.seq,I_ D.2.slot,I_ D.2.gen,I_ D.2.version,I_ D.2.state])/\
  Hi (q=D.1.seq/\D.1.slots.gens.length=gn/\D.1.slots.used.length=un/\D.1.slots.free.length=fn/\D.1.l.length=ln)/\Hi (CH wd rv D.1/\CL (fun y=>y=sb\/y<wb.heap.size+3) rv D.1)/\Hi (Aa [] w2 wd)/\Hi (w2.heap.size<=rb/\w2.heap.size<=ab))
 case first=>
  refine wp_region_held_drew (S:=(Aa [] w2)) bC (by((try dsimp only);(repeat(with_reducible first | exact X | exact Aa.refl _ _ | refine Aa.drew ?_ | refine Aa.alloc ?_ _ | refine Aa.own ?_ hkT (fun y hy=>fC) | refine Aa.own ?_ hkS (fun y hy=>fC))))) (fun hHeld=>?_)
  repeat' (first | exact rZ | refine rX ?_ | ((first | (refine rA 16 (fun K hK=>?_) ?_;go_simp;(refine(bh.o _ (HK2.o.trans hHeld)).mono ?_;rintro er w3 ⟨rv,gn,un,fn,ln,q,rfl,hq,hg,hu,hf,hl,hm,hno,hk3⟩;have HLN:=lH (Bl hq (Bl hg (Bl hu (Bl hf hl))));clear hq hg hu hf hl;have X:=hHeld.trans hk3;have b7:=X.size;have b6:=hHeld.size;have bv:=hk3.size;(try simp at bv);have a7:CL (fun y=>y=sb\/y<wb.heap.size+3) rv D.1:=hno.mono (fun y hy=>by have:=hHeld.size;have:=HSQ.o;have:=HI.o.lo;show y<_;omega))) | (refine rA 20 (fun K hK=>?_) ?_;go_simp) | (refine rA 21 (fun K hK=>?_) ?_;go_simp) | (refine rA 22 (fun K hK=>?_) ?_;(refine DT 29 _ _ bD _ (R_ rv gn un fn ln q) bD bD 29 LU.k ?_ rfl bC aG ?_;(· (repeat(with_reducible first | exact Blk.new _ _ _ | exact Ar _ _ _ _ bA | refine Blk.alloc ?_ _ | refine Blk.drew ?_ | refine Blk.keeps ?_ hk3 bA)));intro wS HRB hkS)) | (refine rA 23 (fun K hK=>?_) ?_;(refine DT 85 _ _ bD _ #[pE pK D.2.err,I_ D.2.seq,I_ D.2.slot,I_ D.2.gen,I_ D.2.version,I_ D.2.state] bD bD 85 fS.k ?_ rfl bC aG ?_;(· refine Blk.keeps ?_ hkS gE;(repeat(with_reducible first | exact Blk.new _ _ _ | exact Ar _ _ _ _ bA | refine Blk.alloc ?_ _ | refine Blk.drew ?_ | refine Blk.keeps ?_ hk3 bA)));intro wT HAB hkT)));(try clear rH);refine rP hK ((by((try dsimp only);(repeat(with_reducible first | exact X | exact Aa.refl _ _ | refine Aa.drew ?_ | refine Aa.alloc ?_ _ | refine Aa.own ?_ hkT (fun y hy=>fC) | refine Aa.own ?_ hkS (fun y hy=>fC)))))) fun rH hHeld=>?_;clear hK K) | (refine rK 0 ?_;refine rK 1 ?_;refine rK 2 ?_;refine rK 3 ?_;refine rK 4 ?_;refine rK 5 ?_;refine rK 6 ?_;refine rK 7 ?_;refine rK 8 ?_;refine rK 9 ?_;refine rK 10 ?_;refine rK 11 ?_;refine rK 12 ?_;refine rK 13 ?_;refine rK 14 ?_;refine rK 15 ?_) | (refine rK 17 ?_;refine rK 18 ?_;refine rK 19 ?_) | refine rB [16,20,21,22,23] ?_ | (refine wpAnyH_done bC ?_ _;(go_wp2_with fail;go_meet;refine⟨_,_,rv,gn,un,fn,ln,q,rfl,rfl,lH (Blk.keeps HRB hkT gE),lH HAB,HLN,lH ⟨?_,a7⟩,lH hHeld,lH ⟨gE,gE⟩⟩;refine CH.stayO hm hno (Aa.two ?_ hkS hkT) ?_;(· repeat(with_reducible first | exact Aa.refl _ _ | refine Aa.drew ?_ | refine Aa.alloc ?_ _));(· intro y hy;simp only [Ac,Ab,or_false] at hy;rcases hy with rfl | rfl<;>first | (simp;done) | (simp;omega) | omega))))
 case rest=>
  obtain⟨rb,ab,rv,gn,un,fn,ln,q,rfl,rfl,HRB,HAB,HLN,al,HKD,bm⟩:=hcut
  rename World=>wd
  clear r2 rq;have HKW:Hi (Aa [] w wd):=lH (HK2.o.trans HKD.o);have HBD:Hi (AH wd sb j v now left e):=lH (AH.keeps HB.o HKW.o bA);have HQD:=lH (ak.o.keeps HKD.o bA);have ne1:¬qb=sb:=by have:=HSQ.o;omega
  have ne2:¬ab=sb:=by have:=HSQ.o;have:=bm.o;omega
  have ra:=HAB.o.rl;have rg:=HRB.o.rl;have r:=(AH.lit HBD.o).rl;obtain⟨b5,a0⟩:=eX ((D.2.err != 150));have HB5:=lH a0;go_upto_if 44 with fail
  clear a0;go_cut [] (fun we=>∃v',Hi (AH we sb j v' now left e)/\Hi (SI wb sb we v' { c with reg:=G })/\Hi (Aa [sb] wd we))
  case first=>
   cases b5
   ·have h0:D.2.err=150:=by simpa using HB5.o
    have ah:Hi (c.reg=G):=lH (by rw [<- HG.o,if_neg (by simp [h0])]);clear h0;go_wp2_with fail;go_meet;exact⟨v,HBD,lH (by rw [<- ah.o];exact HI.o.keeps HKW.o),lH (Aa.refl _ _)⟩
   ·have ah:Hi (D.1=G):=lH (by rw [<- HG.o,if_pos (by simpa using HB5.o)])
    go_wp2_with fail;go_meet;exact⟨{ v with r:=rv,gn:=gn,un:=un,fn:=fn,ln:=ln,seq:=q },lH (AH.reg HBD.o rv gn un fn ln q),lH (by
     rw [<- ah.o];exact((HI.o.keeps HKW.o).put HBD.o (FN _ sb 25 _ _ _ _ _)).reg (al.o.1.stay al.o.2 (FN _ sb 25 _ _ _ _ _) bA) al.o.2 HLN.o.1 HLN.o.2.1 HLN.o.2.2.1 HLN.o.2.2.2.1 HLN.o.2.2.2.2),lH (FN _ sb 25 _ _ _ _ _)⟩
  case rest=>
   obtain⟨v5,HBE,T,HKE⟩:=hcut
   rename World=>we
   clear r ra rg;have HQE:=lH (HQD.o.keeps HKE.o bG);have av:=lH (HAB.o.keeps HKE.o bG);go_step;go_step;go_cut [] (fun wf=>∃v',Hi (AH wf sb O.1 v' now left e)/\Hi (SI wb sb wf v' { c with reg:=G,pool:=O.2 })/\Hi (Aa [sb] we wf))
   case first=>
    have ra:=av.o.rl;have rq:=HQE.o.rl;have r:=(AH.lit HBE.o).rl;by_cases h0:D.2.err=0;rotate_left
    ·have HCQ:Hi (O=(j.refuses j.req.id D.2.err,c.pool)):=lH (by rw [<- ag.o,if_pos h0])
     have f1:(D.2.err != 0)=true:=by simpa using h0
     clear h0;go_wp2_with fail;refine(FR sb j v5 now left e j.req.id D.2.err ⟨by have:=HID.o;omega,by have:=HID.o;omega⟩ ⟨by have:=HER.o;omega,by have:=HER.o;omega⟩ _ (HE.o _ T.o.kw) HBE.o).mono ?_;rintro r0 w4 ⟨rfl,hb4,hk4⟩;have HB4:=lH hb4;have HK4:=lH hk4;clear hb4 hk4;go_wp2_with fail;go_meet;exact⟨v5,lH nQ,lH (by rw [HCQ.o];exact T.o.put HBE.o HK4.o),HK4⟩
    ·have f1:(D.2.err != 0)=false:=by simpa using h0
     have hS:=bq.o h0;have B:=lH hS;have H0:=lH h0;clear h0 hS;obtain⟨b9,a1⟩:=eX ((j.req.com.verb==9));cases b9;rotate_left
     ·have h9:j.req.com.verb=9:=by simpa using a1
      have HCQ:Hi (O=Ft j c.pool (Bz G) D.2.seq now):=lH (by rw [<- ag.o,if_neg (by simp [H0.o]),if_pos h9]);clear h9;go_wp2_with fail;refine(YP sb j v5 { c with reg:=G } now left e D.2.seq ⟨by have:=HID.o;omega,by have:=HID.o;omega⟩ ⟨by have:=B.o.seq;omega,by have:=B.o.seq;omega⟩ (Wz bo.o) wb _ eN bl.o HN.o T.o HBE.o).mono ?_;rintro r0 w4 ⟨M,rfl,hb4,a4,hk4⟩;have HB4:=lH hb4;have ac:=lH a4;have HK4:=lH hk4;clear hb4 a4 hk4;go_wp2_with fail;go_meet;exact⟨M,lH nQ,lH (by rw [HCQ.o];exact ac.o),HK4⟩
     ·have h9:¬j.req.com.verb=9:=by simpa using a1
      obtain⟨TX,ao⟩:=eX (Ex [okT,E2 j.req.id,E2 D.2.seq,E2 D.2.slot,E2 D.2.gen,E2 D.2.version,E2 D.2.state]);obtain⟨bs,ap⟩:=eX (Lh j.req.com.verb);have HCQ:Hi (O=(if bs then { j.answers TX with phase:=4,slot:=D.2.slot,gen:=D.2.gen } else j.answers TX,c.pool)):=lH (by rw [<- ag.o,if_neg (by simp [H0.o]),if_neg h9,ao,ap]);have bi:=lH ap;obtain⟨wh,hwh⟩:=eX (we.alloc (.cells #[.iface 9 (Dz okT),.iface 3 (I_ j.req.id),.iface 3 (I_ D.2.seq),.iface 3 (I_ D.2.slot),.iface 3 (I_ D.2.gen),.iface 3 (I_ D.2.version),.iface 3 (I_ D.2.state)] 20));have hkh:Aa [] we wh:=by rw [<- hwh];exact(Aa.refl [] we).alloc _
      have hV:QJ wh (some (A_ we 0)) 7 [.iface 9 (Dz okT),.iface 3 (I_ j.req.id),.iface 3 (I_ D.2.seq),.iface 3 (I_ D.2.slot),.iface 3 (I_ D.2.gen),.iface 3 (I_ D.2.version),.iface 3 (I_ D.2.state)]:=by rw [<- hwh];exact MH we _ 7 rfl 20
      have HS:=NP (some (A_ we 0)) 7 7 _ [[okT],[E2 j.req.id],[E2 D.2.seq],[E2 D.2.slot],[E2 D.2.gen],[E2 D.2.version],[E2 D.2.state]] rfl bE bA wh (HE.o _ (T.o.kw.trans hkh)) hV
       ⟨.inl ⟨_,rfl,rfl⟩,.inr (.inl ⟨_,rfl,rfl,by have:=HID.o;omega,by have:=HID.o;omega⟩),.inr (.inl ⟨_,rfl,rfl,by have:=B.o.seq;omega,by have:=B.o.seq;omega⟩),.inr (.inl ⟨_,rfl,rfl,by have:=B.o.slot;omega,by have:=B.o.slot;omega⟩),.inr (.inl ⟨_,rfl,rfl,by have:=B.o.gen;omega,by have:=B.o.gen;omega⟩),.inr (.inl ⟨_,rfl,rfl,by have:=B.o.version;omega,by have:=B.o.version;omega⟩),.inr (.inl ⟨_,rfl,rfl,by have:=B.o.state;omega,by have:=B.o.state;omega⟩),trivial⟩
      simp only [List.flatten_cons,List.flatten_nil,AL,BH,ao] at HS;have HKH:=lH hkh;have HBH:Hi (AH wh sb j v5 now left e):=lH (AH.keeps HBE.o hkh bA);have hew:okT=⟨#[111,107]⟩:=rfl;rw [hew] at hwh;clear hkh hV hew h9 ap ao;go_wp2_with fail;clear hwh ra rq r;refine HS.mono ?_;rintro r0 w1 ⟨rfl,hk1⟩;have HB1:Hi (AH w1 sb j v5 now left e):=lH (AH.keeps HBH.o hk1 bA);have HK1:=lH (HKH.o.trans hk1);clear hk1 HS;go_wp2_with fail;refine(GL sb j _ _ _ _ _ _ _ _ _ _ now left e TX _ HB1.o).mono ?_;rintro r0 w4 ⟨rfl,hb4,hk4⟩;have HB4:Hi (AH w4 sb (j.answers TX) v5 now left e):=lH hb4;have HK4:Hi (Aa [sb] we w4):=lH ((HK1.o.mono bA).trans hk4);have ac:Hi (SI wb sb w4 v5 { c with reg:=G }):=lH (T.o.put HBE.o HK4.o);have rq:=(HQE.o.keeps HK4.o bG).rl;have ra:=(av.o.keeps HK4.o bG).rl;have r:=(AH.lit HB4.o).rl;clear hb4 hk4;go_wp2_with fail;refine(Ur _ bs bi.o _).mono ?_;rintro r0 w5 ⟨rfl,rfl⟩;cases bs
      ·go_wp2_with fail
       go_meet;exact⟨v5,lH nQ,lH (by rw [HCQ.o];exact ac.o),HK4⟩
      ·go_upto_region 9 with fail
       refine wp_region_held_drew (S:=(Aa [sb] w4)) bC kH (fun hHeld=>?_);refine rK 0 ?_;refine rK 1 ?_;refine rK 2 ?_;refine rK 3 ?_;refine rK 4 ?_;refine rK 5 ?_;refine rK 6 ?_;refine rC 7 fun K hK=>?_;go_simp
       (try clear rH);refine rP hK kH fun rH hHeld=>?_;clear hK K
       refine rK 8 ?_;refine rK 9 ?_;refine rK 10 ?_;refine rC 11 fun K hK=>?_;go_simp
       (try clear rH);refine rP hK kH fun rH hHeld=>?_;clear hK K
       refine wpAnyH_done bC ?_ _
       (go_wp2_with fail;go_meet;exact⟨v5,lH (by rw [HCQ.o];exact Blk.drew (AH.sweep HB4.o D.2.slot D.2.gen)),lH (by rw [HCQ.o];exact ac.o.put HB4.o hHeld),lH (HK4.o.trans hHeld)⟩)
   case rest=>
    obtain⟨M,HBF,U,HKF⟩:=hcut
    rename World=>wf
    have HQF:=lH (HQE.o.keeps HKF.o bG);have ax:Hi (Aa [sb] w wf):=lH (((HKW.o.mono bA).trans HKE.o).trans HKF.o);have F:Hi (c.done.length=M.dn/\M.dn<=900/\M.dn<=8):=lH ⟨U.o.m.dn,U.o.m.dl,by have h1:c.done.length=M.dn:=U.o.m.dn;have:=HC.o.done;omega⟩;have aw:=lH (fun W (hk:Aa [] wf W)=>K8 M.da M.dc c.done M.dn F.o.1 (by have:=F.o.2.1;omega) W (U.o.m.d.keeps hk));obtain⟨an,az⟩:∃an:IA,⟨j.req.who,j.req.id,O.1.reply⟩=an:=⟨_,rfl⟩;have af:=lH az;have r:=(AH.lit HBF.o).rl;have rq:=HQF.o.rl;clear az;go_step;go_step;go_upto_region 14 with fail
    go_cut [7] (fun x wg=>∃g k,x = pF (some (A_ g 0)) (M.dn+1) k/\Hi (wg.ownsRow wf 97 3 (pF (some (A_ g 0)) (M.dn+1) k) (M.dn+1) ((c.done++[an]).flatMap Cu))/\Hi (Aa [] wf wg))
    case first=>
     refine wp_region_held_drew (S:=(Aa [] wf)) bC fZ (fun hHeld=>?_);refine rK 0 ?_;refine rK 1 ?_;refine rK 2 ?_;refine rK 3 ?_;refine rK 4 ?_;refine rK 6 ?_;refine rK 7 ?_;refine rK 8 ?_;refine rK 9 ?_;refine rK 10 ?_;refine rK 11 ?_;refine rK 12 ?_;refine rK 13 ?_;refine rK 14 ?_;refine rK 15 ?_;refine wpAnyH_ready (rs:=[5,16]) bC bA ?_;refine AllReadyH.cons rfl (fun K hK=>?_) ?_
     ·go_simp
      (refine(aw.o _ hHeld).mono ?_;rintro er w5 ⟨a5,k5,rfl,hs5,J,hk5⟩;have hk5':=hHeld.trans hk5;have J:=Bw J hHeld.size)
      (try clear rH);refine rP hK fZ fun rH hHeld=>?_;clear hK K
      refine rC 16 fun K hK=>?_;go_simp
      (try clear rH);refine rP hK fZ fun rH hHeld=>?_;clear hK K
      refine rC 17 fun K hK=>?_
      (obtain⟨g6,k6,w6,N,ar,hkk⟩:=QN (J.alloc (.cells #[Dz j.req.who,I_ j.req.id,Dz O.1.reply] 97)) F.o.1 F.o.2.1 (by have:=hk5'.size;simp;omega) (x:=an) (by rw [<- af.o];exact AR.one (enc:=Cu) w5 ⟨j.req.who,j.req.id,O.1.reply⟩ 97 (DL _)) 34;refine BG _ _ 34 bD bD bD bD N ?_;have hk6:=hkk wf (hk5'.alloc _) (Aw _))
      (try clear rH);refine rP hK fZ fun rH hHeld=>?_;clear hK K
      refine rK 18 ?_;refine wpAnyH_done bC ?_ _
      (go_wp2_with fail;go_meet;exact⟨g6,k6,rfl,lH ar,lH hk6⟩)
     refine AllReadyH.cons rfl (fun K hK=>?_) ?_
     ·go_simp
      (try clear rH);refine rP hK fZ fun rH hHeld=>?_;clear hK K
      refine rC 5 fun K hK=>?_;go_simp
      (refine(aw.o _ hHeld).mono ?_;rintro er w5 ⟨a5,k5,rfl,hs5,J,hk5⟩;have hk5':=hHeld.trans hk5;have J:=Bw J hHeld.size;have a9:AR Cu 3 w5 (some (A_ wf 0)) 1 [an]:=AR.keeps (by rw [<- af.o];exact(AR.one (enc:=Cu) wf ⟨j.req.who,j.req.id,O.1.reply⟩ 97 (DL _)).keeps ((Aa.refl [] _).drew)) hk5)
      (try clear rH);refine rP hK fZ fun rH hHeld=>?_;clear hK K
      refine rC 17 fun K hK=>?_
      (obtain⟨g6,k6,w6,N,ar,hkk⟩:=QN J F.o.1 F.o.2.1 hk5'.size a9 34;refine BG _ _ 34 bD bD bD bD N ?_;have hk6:=hkk wf hk5' (Aw _))
      (try clear rH);refine rP hK fZ fun rH hHeld=>?_;clear hK K
      refine rK 18 ?_;refine wpAnyH_done bC ?_ _
      (go_wp2_with fail;go_meet;exact⟨g6,k6,rfl,lH ar,lH hk6⟩)
     exact AllReadyH.nil
    case rest=>
     obtain⟨g,k,rfl,aj,HKG⟩:=hcut
     rename World=>wg
     clear r rq;have HBG:Hi (AH wg sb O.1 M now left e):=lH (AH.keeps HBF.o HKG.o bA);have bu:wf.heap.size<=g:=(aj.o.lt g rfl).1;have ai:Hi (¬g=sb/\¬g<wb.heap.size+3):=lH (by have:=ax.o.size;have:=HSB.o;have:=HI.o.lo;omega);obtain⟨m,hm⟩:=eX (M.dn+1);have HM:Hi (M.dn+1=m/\m<=9):=lH ⟨hm,by have:=F.o.2.2;omega⟩;rw [hm] at aj ⊢;obtain⟨o,rc,N,a2⟩:=Yl (m:=m) (by rw [Al,F.o.1];exact HM.o.1) (by have:=HM.o.1;omega) aj.o;have bj:=lH a2;have hw1:IntKind.i64.wrap ((m:Int) - 8)=(m:Int) - 8:=IntWalk.i64_in _ (by have:=HM.o.2;omega);have b4:max ((m:Int) - 8) 0=((m - 8:Nat):Int):=bB;have r:=(AH.lit HBG.o).rl;clear bu hm a2;go_wp2_with fail
     go_end0
     rw [af.o];have aq:=Ae wg sb 33 (pF (some (A_ g o)) (m - (m - 8)) rc);have a3:O8 (wg.setCell (A_ sb 33) (pF (some (A_ g o)) (m - (m - 8)) rc)) (some (A_ g o)) rc (Do (c.done++[an])):=bj.o.keepsN aq (fun _ g' o' e hm'=>by
      injection e with e;injection e with e _ _
      exact ai.o.1 (by rw [e];simpa using hm'))
     have a6:(Do (c.done++[an])).length=m - (m - 8):=by
      have h1:(c.done++[an]).length=m:=by rw [Al,F.o.1];exact HM.o.1
      unfold Do;rw [B1,h1]
     refine⟨_,rfl,AH.done HBG.o _ _ _,(((U.o.keeps HKG.o).put HBG.o aq).done a3 a6 bB (fun _ g' o' e hq=>?_)),(ax.o.trans (HKG.o.mono bA)).trans aq⟩;injection e with e;injection e with e _ _
     exact hq.elim (fun h=>ai.o.1 (by rw [e];exact h)) (fun h=>ai.o.2 (by rw [e];exact h))
theorem AH.eff{w:World}{sb:Nat}{j:Bq}{v:CV}{now left:Int}{e:GJ}(h:AH w sb j v now left e)(k s g:Int)(t:ByteArray):
  AH ((((w.setCell (A_ sb 36) (I_ k)).setCell (A_ sb 37) (I_ s)).setCell (A_ sb 38) (I_ g)).setCell (A_ sb 39) (Dz t)) sb j v now left ⟨k,s,g,t⟩:=
 (((Blk.set_ h 36 (I_ k)).set_ 37 (I_ s)).set_ 38 (I_ g)).set_ 39 (Dz t)
theorem GO(w:World)(b o:Nat)(x0 x1 x2 x3:Value):Aa [b] w ((((w.setCell (A_ b o) x0).setCell (A_ b (o+1)) x1).setCell (A_ b (o+2)) x2).setCell (A_ b (o+3)) x3):=
 (((Ae w b o x0).trans (Ae _ b (o+1) x1)).trans (Ae _ b (o+2) x2)).trans (Ae _ b (o+3) x3)
theorem O6(sb:Nat)(j:Bq)(v:CV)(c:BN)(now left:Int)(hp:j.phase=4)(wb w:World)(hI:SI wb sb w v c)(h:AH w sb j v now left Cp):
  Calls prog 88 #[pG (some (A_ sb 0))] w (Lz wb sb w now left (Co j c now left)):=by
 have HI:=lH hI;have HB:=lH h;rw [M9 hp];have r:=(AH.lit h).rl;clear hI h hp;go_enter func88,ntmps88;by_cases h0:left=0
 ·subst h0
  go_wp2_with fail
  go_end0
  exact⟨v,rfl,AH.phase HB.o 5,HI.o.put HB.o (Ae _ _ _ _),Ae _ _ _ _⟩
 ·have B:(left==0)=false:=by simpa using h0
  simp only [if_neg h0];go_wp2_with fail
  go_end0
  exact⟨v,rfl,AH.eff HB.o 1 j.slot j.gen ⟨#[]⟩,HI.o.put HB.o (GO _ sb 36 _ _ _ _),GO _ sb 36 _ _ _ _⟩
theorem O4(sb:Nat)(j:Bq)(v:CV)(c:BN)(now left:Int)(hp:j.phase=5)(wb w:World)(hI:SI wb sb w v c)(h:AH w sb j v now left Cp):
  Calls prog 89 #[pG (some (A_ sb 0))] w (Lz wb sb w now left (Co j c now left)):=by
 have HI:=lH hI;have HB:=lH h;rw [QE hp];have r:=(AH.lit h).rl;clear hI h hp;go_enter func89,ntmps89;go_wp2_with fail
 go_end0
 exact⟨v,rfl,AH.eff HB.o 2 0 0 j.reply,HI.o.put HB.o (GO _ sb 36 _ _ _ _),GO _ sb 36 _ _ _ _⟩
def WG(k:Int)(f n:Nat):MapEntry:={ key:=pE pK k,val:=.func (.func f) #[] #[],born:=n }
def KV:Array MapEntry:=#[WG 1 85 0,WG 2 86 1,WG 3 87 2,WG 4 88 3,WG 5 89 4]
theorem KW(es:Array MapEntry)(c:Nat)(k:Int)(f:Nat)(hf:B0 (.int .i64) (I_ k) es.toList 0=some none)(w:World):
  (Instr.mapUpdate 134 (.map (some w)) (I_ k) (.func (.func f) #[] #[])).run prog (w.alloc (.map es c)) = .ok () (w.alloc (.map (es.push (WG k f c)) (c+1))):=
 Fh underlying134 underlying3 rfl hf
theorem Ub(w:World):Calls prog 44 #[] w fun r w'=>r = pJ (.map (some w))/\w.alloc (.map KV 5)=w':=by
 have hm:=fun W=>run_makeMap (P:=prog) 134 W;have h1:=KW #[] 0 1 85 rfl w;have h2:=KW (KV.extract 0 1) 1 2 86 rfl w;have h3:=KW (KV.extract 0 2) 2 3 87 rfl w;have h4:=KW (KV.extract 0 3) 3 4 88 rfl w;have B:=KW (KV.extract 0 4) 4 5 89 rfl w;simp only [KV,List.extract_toArray,List.extract_eq_take_drop,BC,Nat.sub_zero,List.take_succ_cons,List.take_zero,Cd,BH,AL,pL] at h1 h2 h3 h4 B;go_enter func44,ntmps44;go_wp2;go_ret;exact⟨rfl,rfl⟩
structure Gu(w:World):Prop where
 c:∃E,MC E w
 n:∃E,M1 w E
 r:∃E,Lx w E
theorem Gu.keeps{w w':World}(h:Gu w)(hk:Aa [] w w'):Gu w':=⟨h.c.imp fun _ h=>h.keeps hk,h.n.imp fun _ h=>M1.keep h hk,h.r.imp fun _ h=>h.keeps hk⟩
theorem Gu.s{w:World}(h:Gu w):Ks w:=by
 obtain⟨E,h⟩:=h.c;exact⟨h.r.a.et,h.r.a.tab⟩
theorem Ua(wb:World)(sb:Nat)(j:Bq)(c:BN)(now left:Int)(hE:Gu wb)(hj:Gn j=true)(B:O9 j)(G:Gd c):
  ∃f,(∀(W:World) (b:Nat),W.heap[b]? = some (.map KV 5)->(Ed 134 (.map (some b)) (I_ j.phase) false).run prog W = .ok (.func (.func f) #[] #[]) W)/\(∀(W:World) args,(callFunc f args).run prog W = .ok (.enter f args) W)/\
   ∀(w:World) (v:CV),SI wb sb w v c->AH w sb j v now left Cp->Calls prog f #[pG (some (A_ sb 0))] w (Lz wb sb w now left (Co j c now left)):=by
 have hl:∀(k:Int) (f i:Nat),B0 (.int .i64) (I_ k) KV.toList 0=some (some (i,.func (.func f) #[] #[]))->∀(W:World) (b:Nat),W.heap[b]? = some (.map KV 5)->(Ed 134 (.map (some b)) (I_ k) false).run prog W = .ok (.func (.func f) #[] #[]) W:=
  fun k f i hf W b hb=>(DD underlying134 underlying3 hb bS hf).2
 obtain⟨_,_,h1,h2,D,F⟩:=(Hq j).1 hj;have hid : -9223372036854775808<=j.req.id/\j.req.id<=9223372036854775807:=⟨by omega,by omega⟩;have hv:j.phase=1\/j.phase=2\/j.phase=3\/j.phase=4\/j.phase=5:=bB;rcases hv with h | h | h | h | h
 ·refine⟨85,by rw [h];exact hl _ _ _ rfl,fun W args=>enters_of func85 bC rfl args W,fun w v hI hs=>?_⟩
  rw [Le h];obtain⟨E,hC⟩:=hE.c;exact(O2 E sb j v now left Cp B.1 wb w hC hI.kw (by have:=hI.lo;omega) hs).mono fun r w' ⟨h1,h2,h3⟩=>⟨v,h1,h2,hI.put hs h3,h3⟩
 ·refine⟨86,by rw [h];exact hl _ _ _ rfl,fun W args=>enters_of func86 bC rfl args W,fun w v hI hs=>?_⟩
  rw [Lf h];exact(QU sb j v c now left Cp hid wb w hE.s hI.kw (by have:=hI.lo;omega) hI.m hs).mono fun r w' ⟨h1,h2,h3⟩=>⟨v,h1,h2,hI.put hs h3,h3⟩
 ·refine⟨87,by rw [h];exact hl _ _ _ rfl,fun W args=>enters_of func87 bC rfl args W,fun w v hI hs=>?_⟩
  rw [QD h];obtain⟨E,hR⟩:=hE.r;obtain⟨eN,hN⟩:=hE.n;cases hZ:Bf c.done j.req.who j.req.id with
  | some t=>exact Tq sb j v c now left Cp t hZ wb w hI hs
  | none=>exact Tp E eN sb j v c now left Cp ⟨D,F⟩ B.2 G hZ wb w hE.s hR hN hI hs
 ·refine⟨88,by rw [h];exact hl _ _ _ rfl,fun W args=>enters_of func88 bC rfl args W,fun w v hI hs=>O6 sb j v c now left h wb w hI hs⟩
 ·refine⟨89,by rw [h];exact hl _ _ _ rfl,fun W args=>enters_of func89 bC rfl args W,fun w v hI hs=>O4 sb j v c now left h wb w hI hs⟩
end
end Go.Proofs.YtncebikgoleolaaGreatDoor
