/- Steps. -/
import Derived.Test.YtncebikgoleolaaGreatDoorKah
set_option maxRecDepth 100000
set_option maxHeartbeats 8000000
set_option linter.all false
namespace Go.Proofs.YtncebikgoleolaaGreatDoor
open Tryz
open _root_.Go renaming undef→UD
open _root_.Array renaming replicate_succ→Bt,replicate_zero→Bu
open _root_.Bool renaming and_eq_true→Af,false_and→Ep,true_and→DJ
open Ending renaming returned→pJ
open IntKind renaming i64→pK
open _root_.List renaming append_toArray→BD,cons_append→AL,getD_eq_getElem?_getD→AO,getElem?_eq_getElem→Aq,length_append→Al,length_cons→Av,length_nil→D4,length_range→AP,length_singleton→Bp,mem_cons→Ac,mem_of_getElem?→CD,nil_append→BH,not_mem_nil→Ab,push_toArray→Cd,range→AC,size_toArray→Cz,take_of_length_le→Ak
open _root_.Nat renaming le_refl→Aw,le_trans→A8,reduceAdd→pL,reduceSub→pM
open Oper renaming semAt_some→pN
open Value renaming agg→pH,bool→pI,int→pE,pointer→pG,slice→pF,string→Dz
open World renaming size_alloc→Eo
section
open Go.RowKit Go.Shelf
attribute [local go_sem] pN Lr Ls Lp Lq
attribute [local go_sem ↓] wp_at_zero wp_at_succ
structure Lx(w:World)(E:Nat→Addr):Prop where
 v:Er w
 e:Fp w E
 t:Et w
theorem Lx.keeps{w w':World}{E:Nat->Addr}(h:Lx w E)(hk:Aa [] w w'):Lx w' E:=⟨h.v.keeps hk bA,h.e.keep hk,h.t.keeps hk bA⟩
def Lt(w:World)(R:CJ×lA):Ending->World->Prop:=fun e w'=>∃(v:B6) (gn un fn ln:Nat) (seq:Int),e = pJ (.tuple #[pH (R_ v gn un fn ln seq),pH #[pE pK R.2.err,pE pK R.2.seq,pE pK R.2.slot,pE pK R.2.gen,pE pK R.2.version,pE pK R.2.state]])/\
 seq=R.1.seq/\R.1.slots.gens.length=gn/\R.1.slots.used.length=un/\R.1.slots.free.length=fn/\R.1.l.length=ln/\CH w' v R.1/\CL (· < w.heap.size) v R.1/\Aa [] w w'
theorem YQ{D B:Int}(h:LJ D B=true):1<=B/\B<=10:=by
 unfold LJ B7 at h;simp only [List.any_cons,List.any_nil,Bool.or_eq_true,Af,beq_iff_eq,Bool.or_false] at h;omega
theorem SH(n:Int)(w:World)(hg:Et w):Calls prog 50 #[FY n] w fun e w'=>e = pJ (I_ n)/\Aa [] w w':=by
 by_cases h:n=0
 ·subst h
  exact ErG.told_nil w
 ·rw [FY,if_neg h]
  exact ErG.told_why n w hg
theorem Lm:∀(i:Nat) (u:List Bool) (g:List Int),(usedL i u g).length<=u.length
 | i,true::u,x::g=>by
  have:=Lm (i+1) u g;simp only [usedL,Av];omega
 | i,false::u,x::g=>by
  have:=Lm (i+1) u g;simp only [usedL,Av];omega
 | i,[],g=>by cases g<;>simp [usedL]
 | i,true::u,[]=>by simp [usedL]
 | i,false::u,[]=>by simp [usedL]
theorem Oa{seq:Int}: ∀ {A:List (Int×Int)} {X:List Ten} {met:List ByteArray},De seq met A X=true->∀t∈X,Gq seq t=true
 | [],[],_,_,t,ht=>by simp at ht
 | a::A,x::X,met,h,t,ht=>by
  simp only [De,Af] at h;rcases Ac.1 ht with rfl | ht
  ·exact h.1.2
  ·exact Oa h.2 t ht
 | [],_::_,_,h,_,_=>by simp [De] at h
 | _::_,[],_,h,_,_=>by simp [De] at h
theorem NH{r:CJ}(h:I1 r=true):r.l.length<=900/\(∀t∈r.l,t.rules.length<=900/\t.creds.length<=900/\0<=t.version/\t.version<=1000000000000):=by
 unfold I1 at h;simp only [Af,decide_eq_true_eq] at h;obtain⟨⟨⟨hs,h0⟩,h1⟩,G⟩:=h;have F:=Lj G;have D:(Dt r.slots).length<=64:=by
  unfold Dt;rw [if_pos hs];unfold Dv at hs;simp only [Af,decide_eq_true_eq] at hs;exact A8 (Lm _ _ _) bB
 refine⟨by omega,fun t B=>?_⟩;have:=Oa G t B;unfold Gq EM Hf at this;simp only [Af,decide_eq_true_eq] at this;have hr:=this.2.1.2;have E:=this.2.2;unfold Ew at hr;unfold DK at E;simp only [Af,decide_eq_true_eq] at hr E;omega
theorem Ng(v:B6)(r:CJ)(gn un fn ln:Nat)(hg:r.slots.gens.length=gn)(hu:r.slots.used.length=un)(hf:r.slots.free.length=fn)(hln:r.l.length=ln)(seq:Int)(hsq:r.seq=seq)(X:Int)(c:FW)(now:Int)
 (hat : -9223372036854775808<=c.at_/\c.at_<=9223372036854775807)(w:World)(E:Nat->Addr)(hE:Lx w E)(h:CH w v r):
  Calls prog 21 #[pH (R_ v gn un fn ln seq),I_ X,pH (K_ c),I_ now] w (Lt w (pY r X c now)):=by
 obtain⟨wz,hwz⟩:=eX ((((w.alloc (.cells (R_ v gn un fn ln seq) 29)).alloc (.cells (K_ c) 61)).alloc (.cells LU.k 29)).alloc (.cells fS.k 85));have hz:Aa [] w wz:=by rw [<- hwz];exact((((Aa.refl [] w).alloc _).alloc _).alloc _).alloc _
 have hsz:wz.heap.size=w.heap.size+4:=by rw [<- hwz];simp
 have HB0:Hi (Blk wz w 29 (R_ v gn un fn ln seq)):=lH nB;have HB1:Hi (Blk wz (w+1) 61 (K_ c)):=lH mZ;have HB2:Hi (Blk wz (w+1+1) 29 LU.k):=lH jU;have D:Hi (Blk wz (w+1+1+1) 85 fS.k):=lH aF;have ap:=HB0.o.rl;have aq:=HB1.o.rl;have ai:=HB2.o.rl;have aj:=D.o.rl;obtain⟨bo,aa⟩:=eX (I1 r);have ak:=lH (Kd v r gn un fn ln hg hu hf lP seq hsq bo aa wz (h.keeps hz));obtain⟨R,hR⟩:=eX (pY r X c now);rw [hR];unfold pY at hR;rw [aa,hsq] at hR;by_cases G:bo=false\/1000000000000<=seq\/now<0\/1000000000000<now
 ·rw [if_pos G] at hR
  have ad:Hi (∀w1 WF,Aa [] wz w1->Aa [w.heap.size+1+1,w.heap.size+1+1+1] w1 WF->Lt w R (pJ (.tuple #[.agg LU.k,pH #[pE pK 150,I_ 0,I_ 0,I_ 0,I_ 0,I_ 0]])) WF):=lH fun w1 WF h1 h2=>by
   rw [<- hR];refine⟨⟨⟨none,0,none,0,none,0⟩,none,0,[]⟩,0,0,0,0,0,rfl,rfl,rfl,rfl,rfl,rfl,⟨Dy.zero _,AR.none_,trivial,by decide,fun t ht=>by simp [WM] at ht⟩,⟨fun h=>by simp [WM,Ez] at h,fun h=>by simp [WM,Ez] at h,fun h=>by simp [WM,Ez] at h,fun h=>by simp at h,fun u hu=>by simp at hu⟩,(hz.trans h1).own h2 bF⟩
  clear hg hu hf hln hsq hz hsz h hE hR aa HB0 HB1 HB2 D;go_enter func21,ntmps21;go_wp2_with fail;clear hwz;refine ak.o.mono ?_;rintro e w1 ⟨rfl,hk1⟩;have r1:=hk1.rl;have HK1:=lH hk1;have G:bo=false\/(bo=true/\decide (seq≥1000000000000)=true)\/(bo=true/\decide (seq≥1000000000000)=false/\decide (now<0)=true)\/(bo=true/\decide (seq≥1000000000000)=false/\decide (now<0)=false/\decide (now>1000000000000)=true):=by
   cases bo
   ·exact .inl rfl
   ·simp only [Bool.true_eq_false,false_or] at G
    simp only [decide_eq_true_eq,decide_eq_false_iff_not,Bool.true_eq_false,false_or,true_and];omega
  clear hk1 ak;rcases G with rfl | ⟨rfl,f1⟩ | ⟨rfl,f1,f2⟩ | ⟨rfl,f1,f2,f3⟩
  all_goals
   go_wp2_with fail;exact bodyPost_ret (v:=.tuple #[.agg LU.k,pH #[pE pK 150,I_ 0,I_ 0,I_ 0,I_ 0,I_ 0]]) (by simp [results,results21,go_sem,ai,aj,r1]) rfl (ad.o w1 _ HK1.o bJ)
 ·rw [if_neg G] at hR
  obtain rfl:bo=true:=by cases bo<;>simp_all
  have bv:seq<1000000000000/\0<=now/\now<=1000000000000:=bB;have cr:0<=seq:=by unfold I1 at aa;simp only [Af,decide_eq_true_eq] at aa;omega
  have f1:decide (seq≥1000000000000)=false:=decide_eq_false bB;have f2:decide (now<0)=false:=decide_eq_false bB;have f3:decide (now>1000000000000)=false:=decide_eq_false bB;have hw:IntKind.i64.wrap (seq+1)=seq+1:=IntWalk.i64_in _ bB;have HBD:=lH bv;have HG:=lH hg;have HU:=lH hu;have HF:=lH hf;have HLN:=lH hln;have HSQ:=lH hsq;have HZ:=lH hz;have HSZ:=lH hsz;have HM:=lH h;have HE:=lH hE;have ca:=lH (NH aa);obtain⟨bm,az⟩:=eX (LJ X c.verb);rw [az] at hR;have br:=lH az;have HR:=lH hR;clear hg hu hf hln hsq hz hsz h hE hR aa G bv az cr;go_enter func21,ntmps21;go_wp2_with fail;clear hwz;refine ak.o.mono ?_;rintro e w1 ⟨rfl,hk1⟩;have r1:=hk1.rl;clear ak;go_wp2_with fail;refine(RI v r gn un fn ln HG.o HU.o HF.o HLN.o seq HSQ.o w1 (HM.o.keeps (HZ.o.trans hk1))).mono ?_;rintro e w2 ⟨J,rfl,bz,ag,hk2⟩;have T:=hk1.trans hk2;have hlt:w.heap.size+4<=w1.heap.size:=by have:=hk1.size;have:=HSZ.o;omega
  obtain⟨wa,a0⟩:=eX (((((w2.setCell (A_ w 0) (pF J.s.ga gn J.s.gc)).setCell (A_ w 1) (pF J.s.ua un J.s.uc)).setCell (A_ w 2) (pF J.s.fa fn J.s.fc)).setCell (A_ w 3) (pF J.la ln J.lc)).setCell (A_ w 4) (I_ seq));have bw:Aa [w.heap.size] w2 wa:=by rw [<- a0];exact G6 _ _ _ _ _ _ _
  obtain⟨wb,bd⟩:=eX (wa.setCell (A_ w 4) (I_ (seq+1)));have bx:Aa [w.heap.size] wa wb:=by rw [<- bd];exact Ae _ _ _ _
  have ay:Blk wa w 29 (R_ J gn un fn ln seq):=by rw [<- a0];exact(HB0.o.keeps T bA).put5 _ _ _ _ _
  have HBB:Hi (Blk wb w 29 (R_ J gn un fn ln (seq+1))):=lH (by rw [<- bd];exact ay.set_ 4 _);have N:Aa [w.heap.size] w2 wb:=bw.trans bx;have au:Hi (CH wb J ⟨r.slots,r.l,seq+1⟩):=lH { (bz.ge ag N mW) with };have F:Hi (IF w1 J):=lH ag;have ae:Hi (Aa [] w wb):=lH ((HZ.o.trans T).own N bF);have HLT:=lH hlt;have bu:Hi (w1.heap.size<=wb.heap.size):=lH (A8 hk2.size N.size);have U:Aa [w.heap.size] wz wb:=(T.mono bA).trans N;have cz:=lH U;have HB1:=lH (HB1.o.keeps U bI);have HB2:=lH (HB2.o.keeps U bI);have D:=lH (D.o.keeps U bI);have r2:=T.rl;have ba:=ay.rl;have bb:=HB1.o.rl;clear r1 hk1 hk2 T hlt bw bx ay N U bz ag;go_wp2_with fail;clear bd a0 ap aq ai aj r2 ba bb;have ap:=HBB.o.rl;have aq:=HB1.o.rl;have ai:=HB2.o.rl;have aj:=D.o.rl;refine(U1 X c.verb bm br.o wb (HE.o.keeps ae.o).v).mono ?_;rintro e w3 ⟨rfl,hk3⟩;have hR:=HR.o;cases bm with
  | false=>
   rw [if_pos rfl] at hR;have HSA:Hi (∀A,Aa [w.heap.size+1+1,w.heap.size+1+1+1] w3 A->Lt w R (pJ (.tuple #[pH (R_ J gn un fn ln (seq+1)),pH #[pE pK 151,I_ (seq+1),I_ 0,I_ 0,I_ 0,I_ 0]])) A):=lH fun A hk=>by
    rw [<- hR];have hl:=HLT.o;have hS:∀y∈[w.heap.size+1+1,w.heap.size+1+1+1],w.heap.size<=y/\y<w1.heap.size:=fun y hy=>by simp only [Ac,Ab,or_false] at hy;omega
    exact⟨J,gn,un,fn,ln,_,rfl,rfl,HG.o,HU.o,HF.o,HLN.o,(au.o.keeps hk3).ge F.o hk (fun y hy=>(hS y hy).2),F.o.no gD,(ae.o.trans hk3).own hk (fun y hy=>(hS y hy).1)⟩
   have z2:=(HB2.o.keeps hk3 bA).rl;have z3:=(D.o.keeps hk3 bA).rl;have z0:=(HBB.o.keeps hk3 bA).rl;clear ap aq ai aj hk3 hR;go_wp2_with fail;refine wp_region_held_drew (S:=(Aa [w.heap.size+1+1,w.heap.size+1+1+1] w3)) bC bX (fun hHeld=>?_);refine rK 0 ?_;refine rK 1 ?_;refine rK 2 ?_;refine rK 3 ?_;refine rC 4 fun K hK=>?_;go_simp
   (try clear rH);refine rP hK bX fun rH hHeld=>?_;clear hK K
   refine rC 5 fun K hK=>?_;go_simp
   (try clear rH);refine rP hK bX fun rH hHeld=>?_;clear hK K
   refine wpAnyH_done bC ?_ _
   (go_wp2_with fail;exact bodyPost_ret (v:=.tuple #[pH (R_ J gn un fn ln (seq+1)),pH #[pE pK 151,I_ (seq+1),I_ 0,I_ 0,I_ 0,I_ 0]]) (by simp [results,results21,go_sem,z2,z3]) rfl (HSA.o _ hHeld))
  | true=>
   rw [if_neg bE] at hR;have b9:=lH hR;have r3:=hk3.rl;have Y:=lH hk3;clear hk3 hR;go_wp2_with fail;refine(cM J ⟨r.slots,r.l,seq+1⟩ gn un fn ln HG.o HU.o HF.o HLN.o (seq+1) rfl c now (YQ br.o) HBD.o.2 hat ca.o w3 E (HE.o.keeps (ae.o.trans Y.o)).e (HE.o.keeps (ae.o.trans Y.o)).t (au.o.keeps Y.o)).mono ?_;rintro e w4 ⟨v9,n1,n2,n3,n4,sq,M,rfl,an,hk4⟩;obtain⟨⟨d1,d2,er⟩,hD⟩:∃d,Xv ⟨r.slots,r.l,seq+1⟩ c now=d:=⟨_,rfl⟩;have hR:=b9.o;rw [hD] at hR an ⊢;dsimp only at hR an ⊢;obtain⟨wc,ao⟩:=eX ((w4.alloc (.cells (R_ v9 n1 n2 n3 n4 sq) 29)).alloc (.cells (T_ M) 112));have am:Aa [] w4 wc:=by rw [<- ao];exact((Aa.refl [] w4).alloc _).alloc _
   have O:Aa [] wb wc:=(Y.o.trans hk4).trans am;have HKC:=lH (ae.o.trans O);have bs:=lH (hk4.trans am);have ab:Hi (Blk wc w4 29 (R_ v9 n1 n2 n3 n4 sq)):=lH (by rw [<- ao];exact(Blk.new w4 _ _).alloc _);have ar:Hi (Blk wc (w4+1) 112 (T_ M)):=lH (by rw [<- ao];exact Ar _ _ _ _ bA);have b8:Hi (er=0->sq=d1.seq/\d1.slots.gens.length=n1/\d1.slots.used.length=n2/\d1.slots.free.length=n3/\d1.l.length=n4/\CH wc v9 d1/\OB w3 J ⟨r.slots,r.l,seq+1⟩ v9 d1/\M.slot=d2.slot/\M.gen=d2.gen/\M.version=d2.version/\M.state=d2.state):=lH fun h0=>by
    obtain⟨a1,a2,a3,a4,a5,a6,a7⟩:=an h0;exact⟨a1,a2,a3,a4,a5,a6.keeps am,a7⟩
   have HB0:=lH (HBB.o.keeps O bA);have HB2:=lH (HB2.o.keeps O bA);have D:=lH (D.o.keeps O bA);have HR3:=lH hR;have aw:Hi (w1.heap.size<=w3.heap.size/\w.heap.size+4<=w4.heap.size):=lH ⟨by have:=bu.o;have:=Y.o.size;omega,by have:=bu.o;have:=Y.o.size;have:=hk4.size;have:=HLT.o;omega⟩;clear an hk4 hR hD am O;go_upto_region 8 with fail
   clear ao ap aq ai aj r3;have z0:=HB0.o.rl;have z5:=ar.o.rl;go_cut [13] (fun x wd=>∃g,x = p_ g 0/\Hi (Blk wd g 85 #[pE pK er,I_ (seq+1),I_ M.slot,I_ M.gen,I_ M.version,I_ M.state]/\Aa [] wc wd/\wc.heap.size<=g))
   case first=>
    refine wp_region_held_drew (S:=(Aa [] wc)) bC fW (fun hHeld=>?_);refine rK 0 ?_;refine rK 2 ?_;refine rK 3 ?_;refine rK 4 ?_;refine rK 5 ?_;refine rK 6 ?_;refine rK 7 ?_;refine rK 8 ?_;refine rK 9 ?_;refine wpAnyH_ready (rs:=[1,11]) bC bA ?_;refine AllReadyH.cons rfl (fun K hK=>?_) ?_
    ·go_simp
     (refine(SH er _ (HE.o.keeps (HKC.o.trans hHeld)).t).mono ?_;rintro e w5 ⟨rfl,hk5⟩;have hk5':Aa [] wc w5:=hHeld.trans hk5)
     (try clear rH);refine rP hK fW fun rH hHeld=>?_;clear hK K
     refine rK 10 ?_;refine rC 11 fun K hK=>?_;go_simp
     (try clear rH);refine rP hK fW fun rH hHeld=>?_;clear hK K
     refine rC 12 fun K hK=>?_;go_simp
     (try clear rH);refine rP hK fW fun rH hHeld=>?_;clear hK K
     refine wpAnyH_done bC ?_ _
     (go_wp2_with fail;go_meet;exact⟨_,rfl,lH ⟨by first | with_reducible exact Blk.new _ _ _ | exact(((((be.set_ 0 _).set_ 1 _).set_ 2 _).set_ 3 _).set_ 4 _).set_ 5 _,by(try with_reducible refine Aa.drew ?_);(repeat with_reducible refine Aa.setCell ?_ (.inr (Aw _)) _);(try with_reducible refine Aa.alloc ?_ _);with_reducible (first | exact hk5' | exact Aa.refl _ _),by first | exact hk5'.size | exact Aw _⟩⟩)
    refine AllReadyH.cons rfl (fun K hK=>?_) ?_
    ·go_simp
     (try clear rH);refine rP hK fW fun rH hHeld=>?_;clear hK K
     refine rC 1 fun K hK=>?_;go_simp
     (refine(SH er _ (HE.o.keeps (HKC.o.trans hHeld)).t).mono ?_;rintro e w5 ⟨rfl,hk5⟩;have hk5':Aa [] wc w5:=hHeld.trans hk5;have be:Blk w5 wc 85 fS.k:=(Blk.new wc 85 fS.k).drew.keeps hk5 bA;have c7:=be.rl)
     (try clear rH);refine rP hK fW fun rH hHeld=>?_;clear hK K
     refine rK 10 ?_;refine rC 12 fun K hK=>?_;go_simp
     (try clear rH);refine rP hK fW fun rH hHeld=>?_;clear hK K
     refine wpAnyH_done bC ?_ _
     (go_wp2_with fail;go_meet;exact⟨_,rfl,lH ⟨by first | with_reducible exact Blk.new _ _ _ | exact(((((be.set_ 0 _).set_ 1 _).set_ 2 _).set_ 3 _).set_ 4 _).set_ 5 _,by(try with_reducible refine Aa.drew ?_);(repeat with_reducible refine Aa.setCell ?_ (.inr (Aw _)) _);(try with_reducible refine Aa.alloc ?_ _);with_reducible (first | exact hk5' | exact Aa.refl _ _),by first | exact hk5'.size | exact Aw _⟩⟩)
    exact AllReadyH.nil
   case rest=>
    obtain⟨g,rfl,ac⟩:=hcut
    rename World=>wd
    clear z0 z5;have z0:=(HB0.o.keeps ac.o.2.1 bA).rl;have z1:=ac.o.1.rl;go_upto_region 9 with fail
    go_cut [14] (fun x we=>∃n0,x = p_ n0 0/\Hi (Blk we n0 85 #[pE pK er,I_ (seq+1),I_ 0,I_ 0,I_ 0,I_ 0]/\Aa [] wd we/\wd.heap.size<=n0))
    case first=>
     go_wp2_with fail;go_meet;exact⟨_,rfl,lH ⟨Blk.new wd _ _,(Aa.refl [] wd).alloc _,Aw _⟩⟩
    case rest=>
    obtain⟨n0,rfl,av⟩:=hcut
    rename World=>we
    have ah:=av.o.2.1;have B:Aa [] wc we:=ac.o.2.1.trans ah;have HNO:=lH av.o.1;have b7:=lH (ac.o.1.keeps ah bA);have ab:=lH (ab.o.keeps B bA);have HB2:=lH (HB2.o.keeps B bA);have D:=lH (D.o.keeps B bA);have bq:=lH (HB0.o.keeps B bA);have HKE:=lH (HKC.o.trans B);have b6:=lH B;have bt:=lH (bs.o.trans B);have HSS:Hi (∀y∈[w.heap.size+1+1,w.heap.size+1+1+1],w.heap.size<=y/\y<w1.heap.size/\y<w3.heap.size):=lH (fun y hy=>by have h1:=HLT.o;have h2:=aw.o;simp only [Ac,Ab,or_false] at hy;omega);have co:=ac.o.2.2;have cp:=aw.o.2;have cm:=ab.o.lt;have cl:w4.heap.size<wc.heap.size:=ar.o.lt |> fun h=>by omega
    have e1:¬g=w.heap.size+1+1:=bB;have e2:¬g=w.heap.size+1+1+1:=bB;have e3:¬w4.heap.size=w.heap.size+1+1:=bB;have e4:¬w4.heap.size=w.heap.size+1+1+1:=bB;have cn:wc.heap.size<=wd.heap.size:=ac.o.2.1.size;have cq:=av.o.2.2;have e5:¬n0=w.heap.size+1+1:=bB;have e6:¬n0=w.heap.size+1+1+1:=bB;clear ah B co cp cm cl cn cq;have hR:=HR3.o;by_cases he:er=0
    ·subst he
     rw [if_neg bA] at hR;have ad:Hi (∀WF,Aa [w.heap.size+1+1,w.heap.size+1+1+1] we WF->Lt w R (pJ (.tuple #[pH (R_ v9 n1 n2 n3 n4 sq),pH #[pE pK 0,I_ (seq+1),I_ M.slot,I_ M.gen,I_ M.version,I_ M.state]])) WF):=lH fun WF hk=>by
      obtain⟨a1,a2,a3,a4,a5,a6,a7,a8,a9,cd,cf⟩:=b8.o rfl;rw [<- hR];refine⟨v9,n1,n2,n3,n4,sq,by rw [a8,a9,cd,cf],a1,a2,a3,a4,a5,?_,?_,HKE.o.own hk (fun y hy=>(HSS.o y hy).1)⟩
      ·exact(a6.keeps b6.o).stay (a7 (·∈[w.heap.size+1+1,w.heap.size+1+1+1]) (fun y hy=>(HSS.o y hy).2.2) (F.o.no (fun y hy=>(HSS.o y hy).2.1))) hk (fun y hy=>hy)
      ·exact a7 (· < w.heap.size) (fun y hy=>by have:=aw.o;have:=HLT.o;omega) (F.o.no (fun y hy=>by have:=HLT.o;omega))
     clear hR;simp only [FY,if_true];go_wp2_with fail;clear z0 z1;have z2:=HB2.o.rl;have z3:=D.o.rl;have z4:=ab.o.rl;have z5:=b7.o.rl;refine wp_region_held_drew (S:=(Aa [w.heap.size+1+1,w.heap.size+1+1+1] we)) bC bX (fun hHeld=>?_);refine rK 0 ?_;refine rK 1 ?_;refine rC 2 fun K hK=>?_;go_simp
     (try clear rH);refine rP hK bX fun rH hHeld=>?_;clear hK K
     refine rC 3 fun K hK=>?_;go_simp
     (try clear rH);refine rP hK bX fun rH hHeld=>?_;clear hK K
     refine wpAnyH_done bC ?_ _
     (go_wp2_with fail;exact bodyPost_ret (v:=.tuple #[pH (R_ v9 n1 n2 n3 n4 sq),pH #[pE pK 0,I_ (seq+1),I_ M.slot,I_ M.gen,I_ M.version,I_ M.state]]) (by simp [results,results21,go_sem,z2,z3]) rfl (ad.o _ hHeld))
    ·rw [if_pos he] at hR
     have ad:Hi (∀WF,Aa [w.heap.size+1+1,w.heap.size+1+1+1] we WF->Lt w R (pJ (.tuple #[pH (R_ J gn un fn ln (seq+1)),pH #[pE pK er,I_ (seq+1),I_ 0,I_ 0,I_ 0,I_ 0]])) WF):=lH fun WF hk=>by
      rw [<- hR];exact⟨J,gn,un,fn,ln,_,rfl,rfl,HG.o,HU.o,HF.o,HLN.o,((au.o.keeps Y.o).keeps bt.o).ge F.o hk (fun y hy=>(HSS.o y hy).2.1),F.o.no (fun y hy=>by have:=HLT.o;omega),HKE.o.own hk (fun y hy=>(HSS.o y hy).1)⟩
     clear hR;simp only [FY,if_neg he];go_wp2_with fail;clear z0 z1;have z2:=HB2.o.rl;have z3:=D.o.rl;have z4:=bq.o.rl;have z5:=HNO.o.rl;refine wp_region_held_drew (S:=(Aa [w.heap.size+1+1,w.heap.size+1+1+1] we)) bC bX (fun hHeld=>?_);refine rK 0 ?_;refine rK 1 ?_;refine rC 2 fun K hK=>?_;go_simp
     (try clear rH);refine rP hK bX fun rH hHeld=>?_;clear hK K
     refine rC 3 fun K hK=>?_;go_simp
     (try clear rH);refine rP hK bX fun rH hHeld=>?_;clear hK K
     refine wpAnyH_done bC ?_ _
     (go_wp2_with fail;exact bodyPost_ret (v:=.tuple #[pH (R_ J gn un fn ln (seq+1)),pH #[pE pK er,I_ (seq+1),I_ 0,I_ 0,I_ 0,I_ 0]]) (by simp [results,results21,go_sem,z2,z3]) rfl (ad.o _ hHeld))
theorem Sy{r:CJ}(h:I1 r=true):r.l.length<=64/\0<=r.seq:=by
 unfold I1 at h;simp only [Af,decide_eq_true_eq] at h;obtain⟨⟨⟨hs,h0⟩,h1⟩,E⟩:=h;have D:=Lj E;have B:(Dt r.slots).length<=64:=by
  unfold Dt;rw [if_pos hs];unfold Dv at hs;simp only [Af,decide_eq_true_eq] at hs;exact A8 (Lm _ _ _) bB
 omega
def XA(w:World)(R:CJ):Ending->World->Prop:=fun e w'=>∃(v:B6) (gn un fn ln:Nat) (seq:Int),e = pJ (pH (R_ v gn un fn ln seq))/\seq=R.seq/\R.slots.gens.length=gn/\R.slots.used.length=un/\R.slots.free.length=fn/\R.l.length=ln/\CH w' v R/\CL (· < w.heap.size) v R/\Aa [] w w'
structure X9(w w4:World)(pb gn un fn ln:Nat)(now:Int)(v1:B6)(r:CJ)(seq:Int)(n:Nat)(vk:B6)(nk:Nat)(rk:CJ)(A:World):Prop where
 b0:Blk A w.heap.size 29 (R_ vk gn un fn nk rk.seq)
 b1:Blk A (w.heap.size+1) 3 #[pE pK now]
 b2:Blk A (w.heap.size+1+1) 29 LU.k
 pb:Blk A pb 29 (R_ v1 gn un fn ln seq)
 m:CH A vk rk
 slots:rk.slots=r.slots
 len:rk.l.length=nk
 sz:nk≤ln+n
 go_:∀Q:Nat→Prop,(∀y,Q y→y<w4.heap.size+2)→CL Q v1 r→CL Q vk rk
 sq:0≤rk.seq
 kw:Aa [w.heap.size] w4 A
theorem X9.keeps{w w4:World}{pb gn un fn ln:Nat}{now:Int}{B:B6}{r:CJ}{seq:Int}{n:Nat}{E:B6}{nk:Nat}{rk:CJ}{A D:World}{S:List Nat}(h:X9 w w4 pb gn un fn ln now B r seq n E nk rk A)(h1:CH w4 B r)(hp:w.heap.size+3<=pb/\pb<w4.heap.size)(hk:Aa S A D)(hS:∀y∈S,w4.heap.size<=y/\y<w4.heap.size+2):X9 w w4 pb gn un fn ln now B r seq n E nk rk D:=by
 have hn:∀y,y<w4.heap.size->y∉S:=fun y hy hm=>by have:=hS y hm;omega
 exact { h with b0:=h.b0.keeps hk (hn _ bB),b1:=h.b1.keeps hk (hn _ bB),b2:=h.b2.keeps hk (hn _ bB),pb:=h.pb.keeps hk (hn _ bB),m:=h.m.stay (h.go_ (·∈S) (fun y hy=>(hS y hy).2) (h1.later (fun y hy=>(hS y hy).1))) hk (fun y hy=>hy),kw:=h.kw.trans' hk (fun y hy=>.inr (hS y hy).1) }
theorem DW.and2{P Q R:Nat->Prop}{a:Option Addr}{n:Nat}(h1:DW P a n)(h2:DW Q a n)(h:∀y,R y->P y\/Q y):DW R a n:=fun h0 g o e hr=>(h g hr).elim (h1 h0 g o e) (h2 h0 g o e)
theorem CL.and2{P Q R:Nat->Prop}{v:B6}{r:CJ}(h1:CL P v r)(h2:CL Q v r)(h:∀y,R y->P y\/Q y):CL R v r:=
 ⟨h1.g.and2 h2.g h,h1.u.and2 h2.u h,h1.f.and2 h2.f h,h1.l.and2 h2.l h,fun u hu=>⟨(h1.t u hu).1.and2 (h2.t u hu).1 h,(h1.t u hu).2.and2 (h2.t u hu).2 h⟩⟩
theorem X9.next{w w4:World}{pb gn un fn ln:Nat}{now:Int}{O:B6}{r:CJ}{seq:Int}{n:Nat}{D:B6}{nk:Nat}{rk:CJ}{wf G:World}{u U:TV}{T:Ten}{F:Option Addr}{J B:Nat}(h:X9 w w4 pb gn un fn ln now O r seq n D nk rk wf)(aa:IF (w.heap.size+3) O)(hp:w.heap.size+3<=pb/\pb<w4.heap.size)(hu:u∈O.lv)(hU:Cj wf U T)(hs:EY B u U)(hB:w4.heap.size+2<=B)(hwf:w4.heap.size+2<=wf.heap.size)
 (hk6:Aa [] wf G)(ac:AR BE 8 G F J (DC D.lv U))(M:Dj wf F)(hl:nk<=900)(ad:T.rules.length<=1000/\T.creds.length<=1000):
  X9 w w4 pb gn un fn ln now O r seq (n+1) ⟨D.s,F,J,DC D.lv U⟩ (DC D.lv U).length ⟨rk.slots,GI rk.l T,rk.seq+1⟩ ((((((G.setCell (A_ w 0) (pF D.s.ga gn D.s.gc)).setCell (A_ w 1) (pF D.s.ua un D.s.uc)).setCell (A_ w 2) (pF D.s.fa fn D.s.fc)).setCell (A_ w 3) (pF F (DC D.lv U).length J)).setCell (A_ w 4) (I_ rk.seq)).setCell (A_ w 4) (I_ (rk.seq+1))):=by
 have E:Aa [w.heap.size] G ((((((G.setCell (A_ w 0) (pF D.s.ga gn D.s.gc)).setCell (A_ w 1) (pF D.s.ua un D.s.uc)).setCell (A_ w 2) (pF D.s.fa fn D.s.fc)).setCell (A_ w 3) (pF F (DC D.lv U).length J)).setCell (A_ w 4) (I_ rk.seq)).setCell (A_ w 4) (I_ (rk.seq+1))):=(G6 _ _ _ _ _ _ _).trans (Ae _ _ _ _);have hn:∀y,w.heap.size<y->y∉[w.heap.size]:=fun y hy=>by simp only [Ac,Ab,or_false];omega
 have hQ:∀y,(fun y=>y=w.heap.size) y->y<w4.heap.size+2:=fun y hy=>by dsimp only at hy;omega
 have N:CL (fun y=>y=w.heap.size) O r:=aa.no gD;have Y:Ky (fun y=>y=w.heap.size) U:=hs.no (N.t u hu) gD;have ab:CH ((((((G.setCell (A_ w 0) (pF D.s.ga gn D.s.gc)).setCell (A_ w 1) (pF D.s.ua un D.s.uc)).setCell (A_ w 2) (pF D.s.fa fn D.s.fc)).setCell (A_ w 3) (pF F (DC D.lv U).length J)).setCell (A_ w 4) (I_ rk.seq)).setCell (A_ w 4) (I_ (rk.seq+1))) D rk:=(h.m.keeps hk6).stay (h.go_ _ hQ N) E bA;have X:Cj ((((((G.setCell (A_ w 0) (pF D.s.ga gn D.s.gc)).setCell (A_ w 1) (pF D.s.ua un D.s.uc)).setCell (A_ w 2) (pF D.s.fa fn D.s.fc)).setCell (A_ w 3) (pF F (DC D.lv U).length J)).setCell (A_ w 4) (I_ rk.seq)).setCell (A_ w 4) (I_ (rk.seq+1))) U T:=(hU.keeps hk6).stay Y E bA;obtain⟨q1,q3⟩:=ab.put (Aa.refl [] _) (ac.keepsS E (M.out bF)) X (by rw [h.len];exact hl) ad (rk.seq+1);exact⟨((h.b0.keeps hk6 bA).put5 _ _ _ _ _).set_ 4 _,(h.b1.keeps hk6 bA).keeps E (hn _ bB),(h.b2.keeps hk6 bA).keeps E (hn _ bB),(h.pb.keeps hk6 bA).keeps E (hn _ bB),q1,h.slots,q3,by have:=Sv rk.l T;rw [q3,h.len] at this;have:=h.sz;omega,
  fun Q hQ hn=>(h.go_ Q hQ hn).put (M.no bN) (hs.no (hn.t u hu) bN),by have:=h.sq;dsimp only;omega,(h.kw.trans (hk6.mono bA)).trans E⟩
theorem X9.up{w w4:World}{pb gn un fn ln:Nat}{now:Int}{D:B6}{r:CJ}{seq:Int}{n B:Nat}{E:B6}{nk:Nat}{rk:CJ}{A:World}(h:X9 w w4 pb gn un fn ln now D r seq n E nk rk A)(hn:n<=B):X9 w w4 pb gn un fn ln now D r seq B E nk rk A:={ h with sz:=by have:=h.sz;omega }
theorem Wh(v:B6)(r:CJ)(gn un fn ln:Nat)(hg:r.slots.gens.length=gn)(hu:r.slots.used.length=un)(hf:r.slots.free.length=fn)(hln:r.l.length=ln)(seq:Int)(hsq:r.seq=seq)(now:Int)(w:World)(h:CH w v r):
  Calls prog 23 #[pH (R_ v gn un fn ln seq),pE pK now] w (XA w (Hx r now)):=by
 obtain⟨wz,hwz⟩:=eX (((w.alloc (.cells (R_ v gn un fn ln seq) 29)).alloc (.cells #[pE pK now] 3)).alloc (.cells LU.k 29));have hz:Aa [] w wz:=by rw [<- hwz];exact(((Aa.refl [] w).alloc _).alloc _).alloc _
 have hsz:wz.heap.size=w.heap.size+3:=by rw [<- hwz];simp
 have HB0:Hi (Blk wz w 29 (R_ v gn un fn ln seq)):=lH (by rw [<- hwz];exact((Blk.new w _ _).alloc _).alloc _);have HB1:Hi (Blk wz (w+1) 3 #[pE pK now]):=lH jU;have HB2:Hi (Blk wz (w+1+1) 29 LU.k):=lH aF;have b6:=HB0.o.rl;have HG:=lH hg;have HU:=lH hu;have HF:=lH hf;have HLN:=lH hln;have HSQ:=lH hsq;have HZ:=lH hz;have HSZ:=lH hsz;have HM:=lH h;obtain⟨R,hR⟩:=eX (Hx r now);rw [hR];have HR:=lH hR;clear hg hu hf hln hsq hz hsz h hR;have aj:=lH (fun B=>fun W=>FU B r gn un fn ln W);rw [HSQ.o] at aj;refine(callsIn_wide (n:=9)).1 ?_;refine callsIn_of_wp_marks func23 rfl trivial ?_ rfl;simp only [ntmps23,Cz,Av,D4,pL,pM,Bt,Bu,Cd,BD,BH,AL];gi_wp2_with (fail);clear hwz;refine⟨trivial,(callsIn_wide.2 (RI v r gn un fn ln HG.o HU.o HF.o HLN.o seq HSQ.o wz (HM.o.keeps HZ.o))).mono ?_⟩;rintro e w1 ⟨B,rfl,bb,ad,hk1⟩;obtain⟨wa,av⟩:=eX (((((w1.setCell (A_ w 0) (pF B.s.ga gn B.s.gc)).setCell (A_ w 1) (pF B.s.ua un B.s.uc)).setCell (A_ w 2) (pF B.s.fa fn B.s.fc)).setCell (A_ w 3) (pF B.la ln B.lc)).setCell (A_ w 4) (pE pK seq));have aq:Aa [w.heap.size] w1 wa:=by rw [<- av];exact G6 _ _ _ _ _ _ _
 have aw:Hi (Blk wa w 29 (R_ B gn un fn ln seq)):=lH (by rw [<- av];exact(HB0.o.keeps hk1 bA).put5 _ _ _ _ _);have ab:Hi (CH wa B r):=lH (bb.ge ad aq (by intro y hy;have:=HSZ.o;simp only [Ac,Ab,or_false] at hy;omega));have E:Hi (IF wz B):=lH ad;have Y:Aa [w.heap.size] wz wa:=(hk1.mono bA).trans aq;have ay:Hi (Aa [] w wa):=lH (HZ.o.own Y bF);have HB1:=lH (HB1.o.keeps Y bI);have HB2:=lH (HB2.o.keeps Y bI);have r1:=hk1.rl;have ra:=aw.o.rl;obtain⟨bo,a9⟩:=eX (I1 r);have aa:=lH a9;clear bb ad aq Y hk1 a9;gi_wp2_with (fail);clear av r1 b6;refine⟨trivial,(callsIn_wide.2 (Kd B r gn un fn ln HG.o HU.o HF.o (by rw [AX.len ab.o.t,HLN.o]) seq HSQ.o bo aa.o wa ab.o)).mono ?_⟩;rintro e w3 ⟨rfl,hk3⟩;have r3:=hk3.rl;have O:=lH hk3;have bs:=lH (aj.o B);have hR:=HR.o;unfold Hx at hR;rw [aa.o] at hR;cases bo with
 | false=>
  rw [if_neg bE] at hR;have z2:=(HB2.o.keeps hk3 bA).rl;have bj:Hi (∀WF,Aa [w.heap.size+1+1] w3 WF->XA w R (pJ (pH (R_ B gn un fn ln seq))) WF):=lH fun WF hk=>by
   have hs:=HSZ.o;rw [<- hR];exact⟨B,gn,un,fn,ln,seq,rfl,HSQ.o.symm,HG.o,HU.o,HF.o,HLN.o,(ab.o.keeps O.o).ge E.o hk bF,E.o.no gD,(ay.o.trans O.o).own hk bF⟩
  clear hk3;gi_wp2_with (fail);exact⟨pH (R_ B gn un fn ln seq),by simp [results,results23,go_sem,z2],bj.o _ bJ⟩
 | true=>
  rw [if_pos rfl] at hR;have bm:=lH hR;clear hR;gi_wp2_with (fail);refine⟨trivial,(callsIn_wide.2 (bs.o w3)).mono ?_⟩;rintro e w4 ⟨rfl,hw4⟩;gi_wp2_with (fail);have bf:w4.heap.size=w3.heap.size+1:=by rw [<- hw4];simp
  have hk4:Aa [] w3 w4:=by rw [<- hw4];exact(Aa.refl [] w3).alloc _
  have F:=O.o.trans hk4;have HM4:Hi (CH w4 B r):=lH (ab.o.keeps F);have a7:X9 w w4 w3 gn un fn ln now B r seq 0 B ln r w4:=⟨by rw [HSQ.o];exact aw.o.keeps F bA,HB1.o.keeps F bA,HB2.o.keeps F bA,by rw [<- hw4];exact Blk.new w3 _ _,HM4.o,rfl,HLN.o,by omega,fun _ _ h=>h,(Sy aa.o).2,Aa.refl _ _⟩;have bl:=lH a7;have HPB:Hi (w.heap.size+3<=w3.heap.size/\w3.heap.size<w4.heap.size):=lH ⟨by have h1:=O.o.size;have h2:=HB2.o.lt;omega,by omega⟩;have ai:=lH (NH aa.o);have az:=lH (ay.o.trans F);clear a7 hw4 hk4 F hk3 ra r3;refine Cc rfl bB (gf:=72) (lb:=#[pG (some (A_ w3 0))]) rfl trivial (enters_of func72 bC rfl) (FV 8 w3 B.la B.lc ln B.lv (by rw [AX.len ab.o.t,HLN.o]) (by have:=ai.o.1;have:=HLN.o;omega) seq) (fun _=>rfl)
   (fun X A=>∃D nk,X9 w w4 w3 gn un fn ln now B r seq X.length D nk ((r.l.take X.length).foldl (GS now) r) A) (fun _ _=>False)
   (fun X A A' h hk=>by obtain⟨D,nk,h⟩:=h;exact⟨D,nk,h.keeps HM4.o HPB.o hk bF⟩)
   (fun X A A' h hk=>h)
   (fun X A h=>by obtain⟨_,_,h⟩:=h;exact⟨h.pb.cell 3,h.pb.cell 4,(HM4.o.l.keepsS h.kw (fun g o e=>by have h1:=E.o.l g o e;have h2:=HSZ.o;simp only [Ac,Ab,or_false];omega))⟩) ⟨_,_,bl.o⟩
   (fun k W=>(fun u:TV=>(({ tmps:=#[pH (R_ v gn un fn ln seq),pE pK now,pG (some (A_ w 0)),pG (some (A1 w 0)),pG (some (A2 w 0)),UD,pG (some (A_ W 0)),UD,UD,pH (R_ v gn un fn ln seq),pH (R_ B gn un fn ln seq),pH (R_ B gn un fn ln seq),pI true,pI false,UD,pH (R_ B gn un fn ln seq),
      .func (.func 72) #[] #[pG (some (A_ w3 0))],pE pK (k:Int),pH (U_ u seq),UD,UD,UD,UD,UD,UD,UD,UD,UD,UD,UD,UD,UD,UD,UD,UD,UD,UD,UD,UD,UD,UD,UD,UD,UD,UD,UD,UD,UD,UD,UD,UD,UD,UD,UD,UD,UD,UD,UD,UD,UD,UD,UD,UD,UD,UD,UD,UD,UD,UD],defers:=[] } : Act),W.alloc (.cells (U_ u seq) 114))) (B.lv.getD k tv0))
   (fun k W=>(Aa.refl [] W).alloc _) ?assign ?body ?done ?stop
  case assign=>
   intro l k W K hK;simp only [Mg];dsimp only at hK;generalize B.lv.getD k tv0=u at hK ⊢;gi_wp2;exact hK
  case body=>
   rintro l X k W W2 ⟨D,nk,hI⟩ al M hk2;obtain⟨rfl,hkn⟩:=E8 al;obtain⟨u,hu⟩:∃u,B.lv[k]? = some u:=⟨_,Aq (by rw [AX.len HM4.o.t,HLN.o];exact hkn)⟩;have hgd:B.lv.getD k tv0=u:=by rw [AO,hu];rfl
   obtain⟨t,ht,bh⟩:=HM4.o.t.get? hu;dsimp only at hk2 ⊢;rw [hgd] at hk2 ⊢;rw [AP] at hI;have ac:=(hI.keeps HM4.o HPB.o ((Aa.refl [] W).alloc (.cells (U_ u seq) 114)) bA).keeps HM4.o HPB.o hk2 bF;have bg:W.heap.size+1<=W2.heap.size:=by have:=hk2.size;rw [Eo] at this;exact this
   have hb:=(Blk.new W 114 (U_ u seq)).keeps hk2 bI;obtain⟨rk,U⟩:=eX ((r.l.take k).foldl (GS now) r);rw [U] at ac;have a1:Hi ((r.l.take (AC k++[k]).length).foldl (GS now) r=GS now rk t):=lH (by rw [Al,AP,Bp,A0 ht,List.foldl_append,U];rfl);have HJ:=lH ac;have J:=lH bh;have ch:=lH hb;have a4:=lH (ai.o.2 t (CD ht));have T:Hi (w4.heap.size+2<=W.heap.size/\W.heap.size<W2.heap.size):=lH ⟨M,by omega⟩;have a5:=lH (CD hu);have rb:=hb.rl;have r0:=ac.b0.rl;have r1:=ac.b1.rl;clear hI ac bg hb U hgd hu ht bh hk2 M;by_cases hst:u.state≠3\/now<u.deadline\/1000000000000<=rk.seq
   ·have an:Hi (GS now rk t=rk):=lH (by unfold GS;rw [if_pos (by rw [<- J.o.state,<- J.o.deadline];exact hst)])
    have hc:(u.state != 3)=true\/((u.state != 3)=false/\decide (u.deadline>now)=true)\/((u.state != 3)=false/\decide (u.deadline>now)=false/\decide (rk.seq≥1000000000000)=true):=by
     by_cases h1:u.state=3
     ·have f1:(u.state != 3)=false:=by simpa using h1
      by_cases h2:now<u.deadline
      ·exact .inr (.inl ⟨f1,decide_eq_true h2⟩)
      ·exact .inr (.inr ⟨f1,decide_eq_false bB,decide_eq_true bB⟩)
     ·exact .inl bR
    clear hst;rcases hc with f1 | ⟨f1,f2⟩ | ⟨f1,f2,f3⟩
    all_goals
     gi_wp2_with (fail);refine⟨(fun _ h=>by cases h),?_⟩;gi_wp2_with (fail);refine FJ (S:=[]) ((Aa.refl [] W2).alloc _) (Aa.refl [] _) (by have:=T.o;omega) bA bA ⟨D,nk,?_⟩;rw [a1.o,an.o];exact(HJ.o.keeps HM4.o HPB.o ((Aa.refl [] W2).alloc _) bA).up bA
   ·have ar:u.state=3:=by omega
    have bf:¬now<u.deadline:=by omega
    have hs5:¬1000000000000<=rk.seq:=by omega
    have an:Hi (GS now rk t=⟨rk.slots,GI rk.l { t with state:=2,deadline:=0,version:=t.version+1 },rk.seq+1⟩):=lH (by unfold GS;rw [if_neg (by rw [<- J.o.state,<- J.o.deadline];exact hst)]);have f1:(u.state != 3)=false:=by simpa using ar
    have f2:decide (u.deadline>now)=false:=decide_eq_false bB;have f3:decide (rk.seq≥1000000000000)=false:=decide_eq_false bB;have HST:Hi (t.state=3):=lH (by rw [<- J.o.state];exact ar);have a2:Hi (rk.seq<1000000000000):=lH bB;clear hst ar bf hs5;obtain⟨W3,ao⟩:=eX (W2.alloc (.cells #[pE pK u.slot,pE pK u.gen,Dz u.name,pE pK u.state,pE pK u.version,pF u.ra u.rl u.rc,pF u.ca u.cl u.cc,pE pK u.deadline,pE pK seq,pE pK 0,Dz ⟨#[]⟩,pE pK 0,pE pK 0,pI false,pE pK 0,pE pK 0,pE pK 0,pE pK 0,Dz ⟨#[]⟩,pE pK 0,pE pK 0,pE pK now] 143));have hk3:Aa [] W2 W3:=by rw [<- ao];exact(Aa.refl [] W2).alloc _
    have ax:Hi (Blk W3 W2 143 (K7 u seq Yb now)):=lH (by rw [<- ao];exact Blk.new W2 _ _);have r3:=hk3.rl;have O:=lH hk3;have bq:Hi (Cj W3 u t):=lH (J.o.ge (E.o.t u a5.o) (HJ.o.kw.trans (hk3.mono bA)) (by intro y hy;have:=HSZ.o;simp only [Ac,Ab,or_false] at hy;omega));have ag:=Mq W2 u t seq Yb now W3 ax.o bq.o (FX.of J.o (by have:=T.o;omega));rw [if_pos (by rw [HST.o];decide)] at ag;have a3:=lH ag;clear ag;clear hk3;gi_wp2_with (fail);clear ao;refine⟨trivial,CallsIn.inRound l (callsIn_wide.2 (a3.o.mono ?_))⟩;rintro e w5 ⟨rfl,be,hk5⟩;obtain⟨N,ap,au,hs5⟩:=be rfl;have am:N.version=t.version:=au.version;have hw1:IntKind.i64.wrap (N.version+1)=N.version+1:=IntWalk.i64_in _ (by have:=a4.o;omega);obtain⟨wf,hwf⟩:=eX (w5.setCell (A_ W2 4) (pE pK (N.version+1)));have hkf:Aa [W2.heap.size] w5 wf:=by rw [<- hwf];exact Ae _ _ _ _
    have ak:Aa [W2.heap.size] W3 wf:=hk5.trans hkf;have ae:Aa [] W2 wf:=O.o.own ak bA;have HBF:Hi (Blk wf W2 143 (K7 { N with version:=N.version+1 } seq Yb now)):=lH (by rw [<- hwf];exact ap.set_ 4 _);have br:Hi (Cj wf { N with version:=N.version+1 } { t with state:=2,deadline:=0,version:=t.version+1 }):=lH (by
     have h:=J.o.src au hs5 hkf (by intro y hy;have h1:=T.o;have h2:=ax.o.lt;simp only [Ac,Ab,or_false] at hy;omega);exact { h with version:=by dsimp only;rw [am] })
    have HSF:Hi (EY W3 u { N with version:=N.version+1 }):=lH hs5;have G:=lH (HJ.o.keeps HM4.o HPB.o ae bA);have ah:=lH ae;have x5:=ap.rl;simp only [K7] at x5;clear be hk5 ap au hs5 am hkf ak ae rb r0 r1 r3;simp only [FY,if_true];gi_wp2_with (fail);clear hwf x5;have b3:D.lv.length=nk:=by rw [AX.len G.o.m.t,G.o.len]
    have bd:nk<=ln+k/\ln<=64/\k<64:=by have h1:=G.o.sz;have h2:=(Sy aa.o).1;have h3:=HLN.o;omega
    have co:IntKind.i64.wrap (rk.seq+1)=rk.seq+1:=IntWalk.i64_in _ (by have h1:=a2.o;have h2:=G.o.sq;omega);have e1:¬W2.heap.size=w.heap.size:=by have h1:=T.o;have h2:=HPB.o;omega
    have z0:=G.o.b0.rl;have zc:=HBF.o.rl;simp only [K7] at zc;have a0:=lH bd;clear bd;refine BA (S:=(Aa [w.heap.size] wf)) bC bC (fun _ _ h=>h) fA (fun hHeld=>?_);refine rK 1 ?_;refine rK 2 ?_;refine rK 3 ?_;refine rK 4 ?_;refine rK 5 ?_;refine rC 0 fun K hK=>?_;go_simp
    (try clear rH);refine rP hK fA fun rH hHeld=>?_;clear hK K
    refine rC 6 fun K hK=>?_;go_simp
    (refine(Q6 D gn un fn nk b3 (by have:=a0.o;omega) rk.seq { N with version:=N.version+1 } _ (G.o.m.l.keeps ((Aa.refl [] wf).drew))).mono ?_;rintro e w6 ⟨a6,c6,rfl,bx,bv,hk6⟩;have hkw6:Aa [w.heap.size] wf w6:=hHeld.trans (hk6.mono bA);have af:Aa [] wf w6:=((Aa.refl [] wf).drew).trans hk6;clear z0;have z0:=(G.o.b0.keeps af bA).rl)
    (try clear rH);refine rP hK fA fun rH hHeld=>?_;clear hK K
    refine rC 7 fun K hK=>?_;go_simp
    (try clear rH);refine rP hK fA fun rH hHeld=>?_;clear hK K
    refine wpAnyH_done bC ?_ _
    (gi_wp2_with (fail);refine FJ (S:=[w.heap.size]) (ah.o.trans af) bJ (by have:=T.o;omega) lJ lJ ⟨⟨D.s,a6,c6,DC D.lv { N with version:=N.version+1 }⟩,(DC D.lv { N with version:=N.version+1 }).length,?_⟩;rw [a1.o,an.o];exact(G.o.next (E.o.mono bP) HPB.o a5.o br.o HSF.o (by have h1:=T.o;have h2:=O.o.size;omega) (by have h1:=T.o;have h2:=ah.o.size;omega) af bx bv (by have:=a0.o;omega) (by have:=a4.o;dsimp only;omega)).up bA)
  case done=>
   rintro W ⟨D,nk,hI⟩ M hK;rw [AP,Ak lM] at hI;obtain⟨rk,U⟩:=eX (r.l.foldl (GS now) r);rw [U] at hI;have bp:Hi (rk=R):=lH (by rw [<- bm.o,U]);have z0:=hI.b0.rl;have z2:=hI.b2.rl;have HJ:=lH hI;have HK:=lH hK;have HWS:Hi (w4.heap.size+2<=W.heap.size):=lH M;clear hI U hK;gi_wp2_with (fail);have ba:=G6 W (w+1+1) (pF D.s.ga gn D.s.gc) (pF D.s.ua un D.s.uc) (pF D.s.fa fn D.s.fc) (pF D.la nk D.lc) (pE pK rk.seq);have bu:=(HJ.o.b2.put5 (pF D.s.ga gn D.s.gc) (pF D.s.ua un D.s.uc) (pF D.s.fa fn D.s.fc) (pF D.la nk D.lc) (pE pK rk.seq)).keeps (AG (S:=[w4.heap.size]) (l:=w4.heap.size) _ (.deferred none) bA) lJ;have zF:=bu.cell;refine⟨by simp,.inl ⟨_,_,rfl,run_takeDeferred ((ba.block _ aY lJ).trans HK.o),?_⟩⟩;refine⟨pH (R_ D gn un fn nk rk.seq),by simp [results,results23,go_sem,zF],?_⟩;rw [<- bp.o];have hkT:=(ba.mono (S':=[w.heap.size+1+1,w4.heap.size]) bA).trans (AG (S:=[w.heap.size+1+1,w4.heap.size]) (l:=w4.heap.size) _ (.deferred none) bA);have hS:∀y∈[w.heap.size+1+1,w4.heap.size],w.heap.size<=y/\y<w4.heap.size+2:=fun y hy=>by have:=HPB.o;simp only [Ac,Ab,or_false] at hy;omega
   have bw:CL (·∈[w.heap.size+1+1,w4.heap.size]) B r:=(HM4.o.later (Q:=(w4.heap.size<=·)) (fun _ h=>h)).and2 (E.o.no (Q:=(· < wz.heap.size)) (fun _ h=>h)) (fun y hy=>by have:=HSZ.o;simp only [Ac,Ab,or_false] at hy;omega);exact⟨D,gn,un,fn,nk,_,rfl,rfl,by rw [HJ.o.slots];exact HG.o,by rw [HJ.o.slots];exact HU.o,by rw [HJ.o.slots];exact HF.o,HJ.o.len,HJ.o.m.stay (HJ.o.go_ _ (fun y hy=>(hS y hy).2) bw) hkT (fun y hy=>hy),HJ.o.go_ _ (fun y hy=>by have:=HPB.o;omega) (E.o.no (fun y hy=>by have:=HSZ.o;omega)),(az.o.own HJ.o.kw bF).own hkT (fun y hy=>(hS y hy).1)⟩
  case stop=>
   rintro X W al hX M hK;exact hX.elim
theorem Wl(j:Bq)(b:Bool)(hb:Gn j=b)(w:World):Calls prog 28 #[pH #[pE pK j.conn,I_ j.phase,Dz j.line,Dz j.req.who,I_ j.req.id,I_ j.req.com.verb,Dz j.req.com.name,I_ j.req.com.want,I_ j.req.com.at_,pI j.req.com.rule.allow,I_ j.req.com.rule.addr,I_ j.req.com.rule.bits,I_ j.req.com.rule.from_,I_ j.req.com.rule.to_,Dz j.req.com.key,I_ j.req.com.n,I_ j.req.com.m,I_ j.req.count,I_ j.req.cursor,I_ j.req.from_,I_ j.role,Dz j.reply,I_ j.slot,I_ j.gen]] w fun e w'=>e = pJ (pI b)/\Aa [] w w':=by
 obtain⟨B,h1⟩:=eX (decide (j.conn≥0));obtain⟨D,h2⟩:=eX (decide (j.conn<4));obtain⟨E,h3⟩:=eX (decide (j.phase≥1));obtain⟨F,h4⟩:=eX (decide (j.phase<=5));obtain⟨G,M⟩:=eX (decide (j.req.id≥0));obtain⟨J,N⟩:=eX (decide (j.req.id<=1000000));have HB:Hi ((B&&D&&E&&F&&G&&J)=b):=lH (by rw [<- hb,<- h1,<- h2,<- h3,<- h4,<- M,<- N];rfl);have HK:Hi (∀o,Aa [] w (w.alloc o)):=lH fun o=>(Aa.refl [] w).alloc o;clear hb;have hb:=HB.o;go_enter func28,ntmps28;cases B<;>cases D<;>cases E<;>cases F<;>cases G<;>(simp only [DJ,Ep,Bool.and_true,Bool.and_false] at hb;subst hb;go_wp2;go_ret;exact⟨rfl,HK.o _⟩)
theorem Ur(k:Int)(b:Bool)(hb:Lh k=b)(w:World):Calls prog 124 #[pE pK k] w fun e w'=>e = pJ (pI b)/\w=w':=by
 obtain⟨B,h1⟩:=eX ((k==2));obtain⟨D,h2⟩:=eX ((k==5));obtain⟨E,h3⟩:=eX ((k==8));have hb:(B||D||E)=b:=by rw [<- hb,<- h1,<- h2,<- h3];rfl
 go_enter func124,ntmps124;cases B<;>cases D<;>(simp only [Bool.true_or,Bool.false_or] at hb;subst hb;go_wp2;go_ret;exact⟨rfl,rfl⟩)
def Kj(j:Bq)(x0 x1 x2 x3 x4 x5 x6 x7 x8 x9:Value)(now left:Int)(e:GJ):Array Value:=#[pE pK j.conn,pE pK j.phase,Dz j.line,Dz j.req.who,pE pK j.req.id,pE pK j.req.com.verb,Dz j.req.com.name,pE pK j.req.com.want,pE pK j.req.com.at_,pI j.req.com.rule.allow,pE pK j.req.com.rule.addr,pE pK j.req.com.rule.bits,pE pK j.req.com.rule.from_,pE pK j.req.com.rule.to_,Dz j.req.com.key,pE pK j.req.com.n,pE pK j.req.com.m,pE pK j.req.count,pE pK j.req.cursor,pE pK j.req.from_,pE pK j.role,Dz j.reply,pE pK j.slot,pE pK j.gen,x0,x1,x2,x3,x4,x5,x6,x7,x8,x9,pE pK now,pE pK left,pE pK e.kind,pE pK e.slot,pE pK e.gen,Dz e.text]
theorem GL(sb:Nat)(j:Bq)(B D E F G J M N O T:Value)(now left:Int)(e:GJ)(t:ByteArray)(w:World)(h:Blk w sb 132 (Kj j B D E F G J M N O T now left e)):
  Calls prog 121 #[pG (some (A_ sb 0)),Dz t] w fun r w'=>r = pJ (.tuple #[])/\Blk w' sb 132 (Kj (j.answers t) B D E F G J M N O T now left e)/\Aa [sb] w w':=by
 have q:=h.rl;simp only [Kj] at q;have HB:Hi (Blk ((w.setCell (A_ sb 21) (Dz t)).setCell (A_ sb 1) (I_ 5)) sb 132 (Kj (j.answers t) B D E F G J M N O T now left e)):=lH ((h.set_ 21 _).set_ 1 _);have HK:=lH ((Ae w sb 21 (Dz t)).trans (Ae _ sb 1 (I_ 5)));clear h;go_enter func121,ntmps121;go_wp2
 go_end0
 exact⟨rfl,HB.o,HK.o⟩
structure sZ where
 kind:Int
 a:Int
 b:Int
 s:ByteArray
end
end Go.Proofs.YtncebikgoleolaaGreatDoor
