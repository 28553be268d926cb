/- Steps. -/
import Derived.Test.YtncebikgoleolaaGreatDoorKae
import Derived.Laws.OwnMore
import Derived.Laws.AppendOwn
import Derived.Deep.RegionHeld3
import Derived.Lib.SliceRun
import Derived.Deep.AppendSrc
import Derived.Deep.RegionLaw
set_option maxRecDepth 100000
set_option maxHeartbeats 8000000
set_option linter.all false
namespace Go.Proofs.YtncebikgoleolaaGreatDoor
open Tryz
open _root_.Go renaming undef→UD
open _root_.Array renaming getElem?_eq_some_iff→Ai,replicate_succ→Bt,replicate_zero→Bu
open _root_.Bool renaming and_assoc→EJ,and_eq_true→Af
open Builtin renaming append_→BI,zeroCells→AN
open Ending renaming returned→pJ
open Instr renaming findNow→B0,lookup→Ed,slice→AV
open IntKind renaming i64→pK
open Lib renaming run_eql_slice_nil→AK
open _root_.List renaming all_eq_true→Bm,append_toArray→BD,cons_append→AL,eq_nil_of_length_eq_zero→Ds,filter_append→E5,flatMap_append→BY,getElem?_append_right→Ee,getElem?_cons_succ→Ao,getElem?_cons_zero→Aj,getElem?_eq_getElem→Aq,getElem?_eq_some_iff→Ad,getElem?_map→qH,getElem?_take→Dh,getElem?_toArray→An,getElem_mem→pS,length_append→Al,length_cons→Av,length_drop→B1,length_nil→D4,length_take→Ax,map_append→pO,map_cons→CR,mem_append→AQ,mem_cons→Ac,mem_flatMap→E6,mem_map→BO,mem_singleton→Ag,nil_append→BH,not_mem_nil→Ab,push_toArray→Cd,setIfInBounds_toArray→Ap,set_cons_succ→AB,set_cons_zero→AA,size_toArray→Cz,take_append_drop→Dn,take_of_length_le→Ak,take_succ_eq_append_getElem→BJ
open _root_.Nat renaming add_assoc→EA,add_zero→AT,le_refl→Aw,le_trans→A8,lt_or_ge→pP,min_eq_left→DE,reduceAdd→pL,reduceSub→pM,zero_add→AW,zero_le→Ba
open Oper renaming semAt_some→pN
open _root_.Option renaming isSome_iff_exists→C6
open Result renaming andThen→Bg
open Value renaming agg→pH,bool→pI,int→pE,ownBlock→EZ,pointer→pG,slice→pF,string→Dz
open World renaming alloc_heap_new→pV,block_lt_of_cell?→Be,cell?_alloc_lt→Cs,cell?_of_block→BL,putObj_heap_other→AM,putObj_heap_same→pU,size_alloc→Eo
section
open Go.RowKit Go.Shelf
attribute [local go_sem] pN
attribute [local go_sem ↓] wp_at_zero wp_at_succ
theorem DZ{W:World}{D rb:Nat}{t:TypeId}{v:Value}(h:Blk W rb t #[v])(hne:rb≠D):(W.putObj D (.deferred none)).cell? (A_ rb 0)=some v:=
 Blk.cell (show Blk (W.putObj D (.deferred none)) rb t #[v] from(AM hne).trans h) 0
theorem SM(L:List Sn)(k:Nat)(h:k<L.length):Fx (L.take (k+1))=(Fx (L.take k)&&Dd L[k].items):=by
 unfold Fx;rw [BJ h,List.all_append];simp
theorem Uy(L:List Sn)(k:Nat)(h:k<L.length)(hb:Dd L[k].items=false):Fx L=false:=by
 apply Bool.eq_false_iff.2;intro B;unfold Fx at B;rw [Bm] at B;have:=B L[k] (pS _);rw [hb] at this;cases this
theorem Ki:∀(A B:List Sn) (last:Int),BV last (A++B)=(BV last A&&BV ((A.getLast?.map (·.used)).getD last) B)
 | [],B,last=>by simp [BV]
 | s::A,B,last=>by
  rw [AL,BV,BV,Ki A B s.used,EJ]
  congr 2
  rw [List.getLast?_cons];cases A.getLast?<;>rfl
theorem Lc(L:List Sn)(k:Nat)(h:k<L.length):BV 0 (L.take (k+1))=(BV 0 (L.take k)&&Hy (EQ (L.take k)) L[k]):=by
 rw [BJ h,Ki]
 congr 1
 simp [BV,EQ]
theorem S9(L:List Sn)(k:Nat)(h:k<L.length)(hb:Hy (EQ (L.take k)) L[k]=false):BV 0 L=false:=by
 have e:L=L.take (k+1)++L.drop (k+1):=(Dn _ _).symm;rw [e,Ki,Lc L k h,hb];simp
def L7(l:List Sn):List Int:=l.map (·.cur)
theorem JV(next:Int):∀(A B:List Sn) (met:List Int),CS next met (A++B)=(CS next met A&&CS next (met++L7 A) B)
 | [],B,met=>by simp [CS,L7]
 | s::A,B,met=>by
  rw [AL,CS,CS,JV next A B,EJ];simp [L7]
theorem LW(next:Int)(L:List Sn)(k:Nat)(h:k<L.length):CS next [] (L.take (k+1))=(CS next [] (L.take k)&&JZ next (L7 (L.take k)) L[k]):=by
 rw [BJ h,JV];simp [CS]
theorem SY(next:Int)(L:List Sn)(k:Nat)(h:k<L.length)(hb:JZ next (L7 (L.take k)) L[k]=false):CS next [] L=false:=by
 have e:L=L.take (k+1)++L.drop (k+1):=(Dn _ _).symm;rw [e,JV,LW next L k h,hb];simp
theorem Uz{L:List Sn}{k:Nat}{s:Sn}(h:L[k]? = some s):Fx (L.take (k+1))=(Fx (L.take k)&&Dd s.items):=by
 obtain⟨hk,rfl⟩:=Ad.1 h;exact SM L k hk
theorem Xq{L:List Sn}{k:Nat}{s:Sn}(h:L[k]? = some s)(hb:Dd s.items=false):Fx L=false:=by
 obtain⟨hk,rfl⟩:=Ad.1 h;exact Uy L k hk hb
theorem SA{L:List Sn}{k:Nat}{s:Sn}(h:L[k]? = some s):BV 0 (L.take (k+1))=(BV 0 (L.take k)&&Hy (EQ (L.take k)) s):=by
 obtain⟨hk,rfl⟩:=Ad.1 h;exact Lc L k hk
theorem NS{L:List Sn}{k:Nat}{s:Sn}(h:L[k]? = some s)(hb:Hy (EQ (L.take k)) s=false):BV 0 L=false:=by
 obtain⟨hk,rfl⟩:=Ad.1 h;exact S9 L k hk hb
theorem SZ(next:Int){L:List Sn}{k:Nat}{s:Sn}(h:L[k]? = some s):CS next [] (L.take (k+1))=(CS next [] (L.take k)&&JZ next (L7 (L.take k)) s):=by
 obtain⟨hk,rfl⟩:=Ad.1 h;exact LW next L k hk
theorem Vx(next:Int){L:List Sn}{k:Nat}{s:Sn}(h:L[k]? = some s)(hb:JZ next (L7 (L.take k)) s=false):CS next [] L=false:=by
 obtain⟨hk,rfl⟩:=Ad.1 h;exact SY next L k hk hb
theorem Rg(a:Option Addr)(c:Nat)(p:Po)(n:Nat)(hn:p.l.length=n)(hl:n<=1000000)(b:Bool)(hb:Hk p=b)(w:World):
  Calls prog 68 #[pH #[pF a n c,I_ p.next]] w fun r w'=>r = pJ (pI b)/\Aa [] w w':=by
 unfold Hk at hb;rw [hn] at hb;obtain⟨x,hx⟩:=eX p.next;rw [hx] at hb ⊢;clear hx hn;have HB:=lH hb;clear hb;by_cases h1:1<=x
 ·by_cases h2:x<=1000000000000
  ·by_cases h3:n<=3
   ·obtain rfl:b=true:=by rw [<- HB.o];simp [h1,h2,h3]
    have B:(n:Int)<=3:=bB;go_enter func68,ntmps68;go_wp2;go_ret;exact⟨rfl,(Aa.refl [] w).alloc _⟩
   ·obtain rfl:b=false:=by rw [<- HB.o];simp;omega
    have B:¬(n:Int)<=3:=bB;go_enter func68,ntmps68;go_wp2;go_ret;exact⟨rfl,(Aa.refl [] w).alloc _⟩
  ·obtain rfl:b=false:=by rw [<- HB.o];simp;omega
   go_enter func68,ntmps68;go_wp2;go_ret;exact⟨rfl,(Aa.refl [] w).alloc _⟩
 ·obtain rfl:b=false:=by rw [<- HB.o];simp;omega
  go_enter func68,ntmps68;go_wp2;go_ret;exact⟨rfl,(Aa.refl [] w).alloc _⟩
theorem PO(a:Option Addr)(c:Nat)(next:Int)(V:List SV)(L:List Sn)(hV:V.length<=1000000)(w:World)(hR:F3 w a V)(hM:Mt w V L)(B:Bool)(G:Fx L=B):
  Calls prog 71 #[pH #[pF a V.length c,I_ next]] w fun r w'=>r = pJ (pI B)/\Aa [] w w':=by
 refine(callsIn_wide (n:=9)).1 ?_;have HBB:=lH G;have HR:=lH hR;have HM:=lH hM;obtain⟨N,hN⟩:=eX V.length;have HN:=lH hN;rw [hN] at hV ⊢;clear G hR hM hN;refine callsIn_of_wp_marks func71 rfl trivial ?_ rfl;simp only [ntmps71,Cz,Av,D4,pL,pM,Bt,Bu,Cd,BD,BH,AL];gi_wp2_with fail;refine⟨trivial,(callsIn_wide.2 (Hv _ _ _ _ _)).mono ?_⟩;rintro e w1 ⟨rfl,rfl⟩;gi_wp2_with fail;obtain⟨W0,F⟩:=eX ((((w.alloc (.cells #[pF a N c,I_ next] 161)).alloc (.cells #[pI false] 4)).alloc (.cells #[pF a N c,I_ next] 161)));have ab:W0.heap.size=w.heap.size+3:=by rw [<- F];simp
 have O:Below w w W0:=by
  rw [<- F];exact((((Below.refl _ w).alloc (Aw _) _).alloc aW _).alloc aW _)
 have b1:Blk W0 (w+1) 4 #[pI false]:=by
  rw [<- F];exact((Ar _ _ _ _ bA).alloc _)
 have bp:W0.cell? (A2 w 0)=some (pF a V.length c):=by
  rw [<- F,HN.o];exact(Ar _ 161 _ _ bA).cell 0
 rw [F];clear F;try clear hmm
 refine Fn rfl bB (gf:=146) (lb:=#[pG (some (A2 w 0))]) rfl trivial (enters_of func146 bC rfl) (Hw 8 (w+1+1) a c V lR W0 bp) (Below.refl _ _) (fun _=>rfl)
  (fun E A=>Below w w A/\Blk A (w+1) 4 #[pI false]/\Fx (L.take E.length)=true) (fun E A=>Below w w A/\Blk A (w+1) 4 #[pI false]/\Fx L=false)
  (fun s A A' h hb=>⟨h.1.trans (hb.mono bB),Df h.2.1 bB hb,h.2.2⟩) (fun s A A' h hb=>⟨h.1.trans (hb.mono bB),Df h.2.1 bB hb,h.2.2⟩)
  (fun s A h=>HR.o.keeps (Aa.of_below h.1 [])) ⟨O,b1,rfl⟩
  (fun x b=>{ tmps:=#[pH #[pF a N c,I_ next],p_ w 0,p1 w 0,UD,p_ b 0,pH #[pF a N c,I_ next],.func (.func 146) #[] #[pG (some (A2 w 0))],I_ (x.2:Int),pH (N_ x.1),UD,UD,UD,UD],defers:=[] })
  (fun x=>.cells (N_ x.1) 43) ?assign ?body ?done ?stop
 case assign=>
  intro l x W K hK;unfold Mf;gi_wp2;exact hK
 case body=>
  rintro l E x b W ⟨G,hI⟩ M hb ad;obtain⟨hk,am,rfl⟩:=MB M;obtain⟨k,hkk⟩:=eX E.length;have hkL:k<L.length:=by rw [<- HM.o.len,<- hkk];exact hk
  have U:=HM.o.get E.length hk lU;obtain⟨y,hy⟩:=eX (V[E.length]);obtain⟨s,hs⟩:=eX (L[k]);have hm:Oh w y s:=by
   simp only [hkk] at U hy;rw [hy,hs] at U;exact U
  clear U;have hb2:Blk W b 43 (N_ y):=by
   have:=ad;simp only [hy] at this;exact this
  simp only [hy];have J:(E++[(y,E.length)]).length=k+1:=by rw [Al,hkk];rfl
  rw [hy] at M;clear ad;have HS:Hi (L[k]? = some s):=lH kF;have ak:=lH J;have aj:=lH hkk;have hs1:w.heap.size+3<=W0.heap.size:=bB;clear hs J am hk M hkL hy hkk ab O bp;have Y:=lH (hm.2.2.2.keeps (Aa.of_below G []));have ae:=hm.2.2.1;have d1:=hb2.cell 1;obtain⟨c1,X⟩:=hI;have HI:=lH X;have HB:=lH G;have HC:=lH c1;have ai:=lH ae;clear hm G c1 X hb2 ae;have ap:=Y.o.small;rw [ai.o] at d1;cases hq:Dd s.items with
  | true=>
   have HQ:=lH hq;clear hq;gi_wp2_with fail;refine⟨trivial,(callsIn_wide.2 (Gk _ _ s.items true HQ.o _ Y.o.at_ Y.o.small Y.o.size)).mono ?_⟩;rintro e w2 ⟨rfl,hk⟩;gi_wp2;refine⟨CA.of_keeps hk bA,HB.o.trans (hk.below HB.o.size bA),HC.o.keeps hk bA,?_⟩;rw [ak.o,Uz HS.o,HQ.o,<- aj.o,HI.o];rfl
  | false=>
   have HQ:=lH hq;clear hq;gi_wp2_with fail;refine⟨trivial,(callsIn_wide.2 (Gk _ _ s.items false HQ.o _ Y.o.at_ Y.o.small Y.o.size)).mono ?_⟩;rintro e w2 ⟨rfl,hk⟩;have T:=HC.o.keeps hk bA;have e1:w2.cell? (A1 w 0)=some (pI false):=T.cell 0;have f1:=T.frozen 0;have ah:=lH T;have HK2:=lH hk;clear hk T;gi_wp2;exact⟨(CA.of_keeps HK2.o bA).trans (CA.setCell (p:=A1 w 0) bH _ _),(HB.o.trans (HK2.o.below HB.o.size bA)).setCell (p:=A1 w 0) bH _,ah.o.set_ 0 _,Xq HS.o HQ.o⟩
 case done=>
  rintro D W hD ⟨G,hI⟩ hK;have al:w.heap.size+3<=D:=bB;have af:V.zipIdx.length=L.length:=by rw [List.length_zipIdx];exact HM.o.len
  obtain rfl:B=true:=by rw [<- HBB.o];have:=hI.2;rwa [af,Ak (Aw _)] at this
  have c1:=hI.1;have e1:W.cell? (A1 w 0)=some (pI false):=c1.cell 0;have f1:=c1.frozen 0;have HC:=lH (c1.set_ 0 (pI true));have HB:=lH (G.setCell (p:=A1 w 0) bH (pI true));have ac:(W.setCell (A1 w 0) (pI true)).heap[D]? = some (.deferred (some [])):=by
   rw [Below.heap_setCell _ _ _ _ bH];exact hK
  clear hI c1 G hK ab O af;gi_wp2;refine⟨by simp,.inl ⟨_,_,rfl,run_takeDeferred ac,?_⟩⟩;have q1:=DZ HC.o (D:=D) bB;have q1:_=some (pI true):=q1;refine⟨pI true,by simp [results,results71,go_sem,q1],rfl,Aa.of_below (HB.o.trans (belowK_b (n₀:=w.heap.size) (w:=w) (Aw _) _ D _ _ bB ac rfl rfl)) []⟩
 case stop=>
  rintro D E W hD _ ⟨G,c2,hx⟩ hK;have al:w.heap.size+3<=D:=bB;obtain rfl:B=false:=by rw [<- HBB.o];exact hx
  have HB:=lH G;clear G ab O;gi_wp2;refine⟨by simp,.inl ⟨_,_,rfl,run_takeDeferred hK,?_⟩⟩;have q1:=DZ c2 (D:=D) bB;refine⟨pI false,by simp [results,results71,go_sem,q1],rfl,Aa.of_below (HB.o.trans (belowK_b (n₀:=w.heap.size) (w:=w) (Aw _) _ D _ _ bB hK rfl rfl)) []⟩
def GK(A:World)(b:Nat)(met:List Int):Prop:=∃es c,A.heap[b]? = some (.map es c)/\es.toList.map (fun e=>(e.key,e.val))=met.map fun m=>(pE .i64 m,pI true)
theorem NQ(k:Int):∀(es:List MapEntry) (met:List Int) (i:Nat),es.map (fun e=>(e.key,e.val))=met.map (fun m=>(pE .i64 m,pI true))->
  (met.contains k=true/\∃j,B0 (.int .i64) (I_ k) es i=some (some (j,pI true)))\/(met.contains k=false/\B0 (.int .i64) (I_ k) es i=some none)
 | [],[],_,_=>.inr ⟨rfl,rfl⟩
 | e::es,m::met,i,h=>by
  rw [CR,CR] at h;injection h with h1 h2
  injection h1 with hk hv
  by_cases hkm:k=m
  ·subst hkm
   exact .inl ⟨by simp,i,by simp [B0,hk,hv,Instr.sameNow]⟩
  ·have hn:(k==m)=false:=by simp [hkm]
   rcases NQ k es met (i+1) h2 with⟨h3,j,h4⟩ | ⟨h3,h4⟩
   ·exact .inl ⟨by rw [List.contains_cons,h3];simp,j,by simp [B0,hk,Instr.sameNow,hn,h4]⟩
   ·exact .inr ⟨by rw [List.contains_cons,h3];simp [hkm],by simp [B0,hk,Instr.sameNow,hn,h4]⟩
 | [],_::_,_,h=>by cases h
 | _::_,[],_,h=>by cases h
theorem GK.look{A:World}{b:Nat}{B:List Int}(h:GK A b B)(k:Int):(Ed 98 (.map (some b)) (I_ k) false).run prog A = .ok (pI (B.contains k)) A:=by
 obtain⟨D,c,hb,he⟩:=h;have hz:(zeroValue 4).run prog A = .ok (pI false) A:=bC;rcases NQ k D.toList B 0 he with⟨h1,j,h2⟩ | ⟨h1,h2⟩
 ·rw [(DD underlying98 underlying3 hb bS h2).2,h1]
 ·rw [(EW underlying98 underlying3 hb bS h2 hz).2,h1]
theorem GK.update{A:World}{b:Nat}{B:List Int}(h:GK A b B)(k:Int)(hk:B.contains k=false):∃o,(Instr.mapUpdate 98 (.map (some b)) (I_ k) (pI true)).run prog A = .ok () (A.putObj b o)/\GK (A.putObj b o) b (B++[k]):=by
 obtain⟨D,c,hb,he⟩:=h;rcases NQ k D.toList B 0 he with⟨h1,_⟩ | ⟨_,h2⟩
 ·rw [hk] at h1;cases h1
 ·refine⟨_,DA underlying98 underlying3 hb bS h2,_,_,pU (Ai.1 hb).1,?_⟩
  simp [he]
theorem GK.low{B:Nat}{A E:World}{b:Nat}{D:List Int}(h:GK A b D)(hg:b<B)(hb:Below B A E):GK E b D:=by
 obtain⟨F,c,h1,h2⟩:=h;exact⟨F,c,(hb.block _ hg).trans h1,h2⟩
theorem GK.keeps{A D:World}{b:Nat}{B:List Int}(h:GK A b B)(hk:Aa [] A D):GK D b B:=by
 obtain⟨E,c,h1,h2⟩:=h;exact⟨E,c,(hk.block _ (Ai.1 h1).1 bA).trans h1,h2⟩
theorem TM{L:List Sn}{k:Nat}{s:Sn}(h:L[k]? = some s):EQ (L.take (k+1))=s.used:=by
 obtain⟨hk,rfl⟩:=Ad.1 h;rw [BJ hk,TL]
theorem Yf{L:List Sn}{k:Nat}{s:Sn}(h:L[k]? = some s):L7 (L.take (k+1))=L7 (L.take k)++[s.cur]:=by
 obtain⟨hk,rfl⟩:=Ad.1 h;unfold L7;rw [BJ hk,pO];rfl
theorem Om(a:Option Addr)(c:Nat)(next:Int)(V:List SV)(L:List Sn)(hV:V.length<=1000000)(w:World)(hR:F3 w a V)(hM:Mt w V L)(B:Bool)(M:BV 0 L=B):
  Calls prog 70 #[pH #[pF a V.length c,I_ next]] w fun r w'=>r = pJ (pI B)/\Aa [] w w':=by
 refine(callsIn_wide (n:=9)).1 ?_;have HBB:=lH M;have HR:=lH hR;have HM:=lH hM;obtain⟨N,hN⟩:=eX V.length;have HN:=lH hN;rw [hN] at hV ⊢;clear M hR hM hN;refine callsIn_of_wp_marks func70 rfl trivial ?_ rfl;simp only [ntmps70,Cz,Av,D4,pL,pM,Bt,Bu,Cd,BD,BH,AL];gi_wp2_with fail;refine⟨trivial,(callsIn_wide.2 (Hv _ _ _ _ _)).mono ?_⟩;rintro e w1 ⟨rfl,rfl⟩;gi_wp2_with fail;obtain⟨W0,G⟩:=eX (((((w.alloc (.cells #[pF a N c,I_ next] 161)).alloc (.cells #[pI false] 4)).alloc (.cells #[pE pK 0] 3)).alloc (.cells #[pF a N c,I_ next] 161)));have af:W0.heap.size=w.heap.size+4:=by rw [<- G];simp
 have Y:Below w w W0:=by
  rw [<- G];exact(((((Below.refl _ w).alloc (Aw _) _).alloc aW _).alloc aW _).alloc aW _)
 have b1:Blk W0 (w+1) 4 #[pI false]:=by
  rw [<- G];exact(((Ar _ _ _ _ bA).alloc _).alloc _)
 have b3:Blk W0 (w+1+1) 3 #[pE pK 0]:=by
  rw [<- G];exact((Ar _ _ _ _ bA).alloc _)
 have bp:W0.cell? (A3 w 0)=some (pF a V.length c):=by
  rw [<- G,HN.o];exact(Ar _ 161 _ _ bA).cell 0
 rw [G];clear G;try clear hmm
 refine Fn rfl bB (gf:=146) (lb:=#[pG (some (A3 w 0))]) rfl trivial (enters_of func146 bC rfl) (Hw 8 (w+1+1+1) a c V lR W0 bp) (Below.refl _ _) (fun _=>rfl)
  (fun E A=>Below w w A/\Blk A (w+1) 4 #[pI false]/\Blk A (w+1+1) 3 #[pE pK (EQ (L.take E.length))]/\BV 0 (L.take E.length)=true) (fun E A=>Below w w A/\Blk A (w+1) 4 #[pI false]/\BV 0 L=false)
  (fun s A A' h hb=>⟨h.1.trans (hb.mono bB),Df h.2.1 bB hb,Df h.2.2.1 bB hb,h.2.2.2⟩) (fun s A A' h hb=>⟨h.1.trans (hb.mono bB),Df h.2.1 bB hb,h.2.2⟩)
  (fun s A h=>HR.o.keeps (Aa.of_below h.1 [])) ⟨Y,b1,b3,rfl⟩
  (fun x b=>{ tmps:=#[pH #[pF a N c,I_ next],p_ w 0,p1 w 0,p2 w 0,UD,p_ b 0,pH #[pF a N c,I_ next],.func (.func 146) #[] #[pG (some (A3 w 0))],I_ (x.2:Int),pH (N_ x.1),UD,UD,UD,UD,UD,UD,UD,UD,UD,UD,UD],defers:=[] })
  (fun x=>.cells (N_ x.1) 43) ?assign ?body ?done ?stop
 case assign=>
  intro l x W K hK;unfold Mf;gi_wp2;exact hK
 case body=>
  rintro l E x b W ⟨M,hI⟩ T hb aj;obtain⟨hk,ar,rfl⟩:=MB T;obtain⟨k,hkk⟩:=eX E.length;have hkL:k<L.length:=by rw [<- HM.o.len,<- hkk];exact hk
  have aa:=HM.o.get E.length hk lU;obtain⟨y,hy⟩:=eX (V[E.length]);obtain⟨s,hs⟩:=eX (L[k]);have hm:Oh w y s:=by
   simp only [hkk] at aa hy;rw [hy,hs] at aa;exact aa
  clear aa;have hb2:Blk W b 43 (N_ y):=by
   have:=aj;simp only [hy] at this;exact this
  simp only [hy];have O:(E++[(y,E.length)]).length=k+1:=by rw [Al,hkk];rfl
  rw [hy] at T;clear aj;have HS:Hi (L[k]? = some s):=lH kF;have ag:=lH O;have ac:=lH hkk;have hs1:w.heap.size+4<=W0.heap.size:=bB;clear hs O ar hk T hkL hy hkk af Y bp;have al:=hm.2.1;obtain⟨X,c3,ab⟩:=hI;obtain⟨u,hu⟩:=eX y.used;obtain⟨la,ae⟩:=eX (EQ (L.take E.length));rw [ae] at c3;have d2:W.cell? (A_ b 2)=some (I_ u):=by rw [<- hu];exact hb2.cell 2
  have e1:W.cell? (A1 w 0)=some (pI false):=X.cell 0;have f1:=X.frozen 0;have e3:W.cell? (A2 w 0)=some (I_ la):=c3.cell 0;have f3:=c3.frozen 0;have HI:=lH ab;have HB:=lH M;have HC:=lH X;have ao:=lH c3;have ad:=lH ae;have U:Hi (u=s.used):=lH (by rw [<- hu];exact al);have HU:=lH hu;clear hm M X c3 ab hb2 al ae hu;by_cases hq1:u<la
  ·have F:Hy la s=false:=by unfold Hy;rw [<- U.o];simp;omega
   have J:=lH F;clear F;gi_wp2;exact⟨CA.setCell (p:=A1 w 0) bH _ _,HB.o.setCell (p:=A1 w 0) bH _,HC.o.set_ 0 _,NS HS.o (by rw [<- ac.o,ad.o];exact J.o)⟩
  ·by_cases hq2:1000000000000<u
   ·have F:Hy la s=false:=by unfold Hy;rw [<- U.o];simp;omega
    have J:=lH F;clear F;gi_wp2;exact⟨CA.setCell (p:=A1 w 0) bH _ _,HB.o.setCell (p:=A1 w 0) bH _,HC.o.set_ 0 _,NS HS.o (by rw [<- ac.o,ad.o];exact J.o)⟩
   ·have ak:Hy la s=true:=by unfold Hy;rw [<- U.o];simp;omega
    have ap:=lH ak;clear ak;gi_wp2;refine⟨CA.setCell (p:=A2 w 0) bH _ _,HB.o.setCell (p:=A2 w 0) bH _,HC.o.far (p:=A2 w 0) bH _,?_,?_⟩
    ·rw [ag.o,TM HS.o,<- U.o];exact ao.o.set_ 0 _
    ·rw [ag.o,SA HS.o,<- ac.o,ad.o,ap.o,HI.o];rfl
 case done=>
  rintro D W hD ⟨M,hI⟩ hK;have aq:w.heap.size+4<=D:=bB;have am:V.zipIdx.length=L.length:=by rw [List.length_zipIdx];exact HM.o.len
  obtain rfl:B=true:=by rw [<- HBB.o];have:=hI.2.2;rwa [am,Ak (Aw _)] at this
  have X:=hI.1;have e1:W.cell? (A1 w 0)=some (pI false):=X.cell 0;have f1:=X.frozen 0;have HC:=lH (X.set_ 0 (pI true));have HB:=lH (M.setCell (p:=A1 w 0) bH (pI true));have ai:(W.setCell (A1 w 0) (pI true)).heap[D]? = some (.deferred (some [])):=by
   rw [Below.heap_setCell _ _ _ _ bH];exact hK
  clear hI X M hK af Y am;gi_wp2;refine⟨by simp,.inl ⟨_,_,rfl,run_takeDeferred ai,?_⟩⟩;have q1:=DZ HC.o (D:=D) bB;have q1:_=some (pI true):=q1;refine⟨pI true,by simp [results,results70,go_sem,q1],rfl,Aa.of_below (HB.o.trans (belowK_b (n₀:=w.heap.size) (w:=w) (Aw _) _ D _ _ bB ai rfl rfl)) []⟩
 case stop=>
  rintro D E W hD _ ⟨M,c2,hx⟩ hK;have aq:w.heap.size+4<=D:=bB;obtain rfl:B=false:=by rw [<- HBB.o];exact hx
  have HB:=lH M;clear M af Y;gi_wp2;refine⟨by simp,.inl ⟨_,_,rfl,run_takeDeferred hK,?_⟩⟩;have q1:=DZ c2 (D:=D) bB;refine⟨pI false,by simp [results,results70,go_sem,q1],rfl,Aa.of_below (HB.o.trans (belowK_b (n₀:=w.heap.size) (w:=w) (Aw _) _ D _ _ bB hK rfl rfl)) []⟩
theorem PM(a:Option Addr)(c:Nat)(next:Int)(V:List SV)(L:List Sn)(hV:V.length<=1000000)(w:World)(hR:F3 w a V)(hM:Mt w V L)(B:Bool)(O:CS next [] L=B):
  Calls prog 69 #[pH #[pF a V.length c,I_ next]] w fun r w'=>r = pJ (pI B)/\Aa [] w w':=by
 refine(callsIn_wide (n:=9)).1 ?_;have HBB:=lH O;have HR:=lH hR;have HM:=lH hM;obtain⟨N,hN⟩:=eX V.length;have HN:=lH hN;rw [hN] at hV ⊢;clear O hR hM hN;have az:=fun W=>run_makeMap (P:=prog) 98 W;refine callsIn_of_wp_marks func69 rfl trivial ?_ rfl;simp only [ntmps69,Cz,Av,D4,pL,pM,Bt,Bu,Cd,BD,BH,AL];gi_wp2_with fail;refine⟨trivial,(callsIn_wide.2 (Hv _ _ _ _ _)).mono ?_⟩;rintro e w1 ⟨rfl,rfl⟩;gi_wp2_with fail;obtain⟨W0,F⟩:=eX ((((((w.alloc (.cells #[pF a N c,I_ next] 161)).alloc (.cells #[pI false] 4)).alloc (.map #[] 0)).alloc (.cells #[.map (some (w+1+1))] 98)).alloc (.cells #[pF a N c,I_ next] 161)));have ai:W0.heap.size=w.heap.size+5:=by rw [<- F];simp
 have aa:Below w w W0:=by
  rw [<- F];exact((((((Below.refl _ w).alloc (Aw _) _).alloc aW _).alloc aW _).alloc aW _).alloc aW _)
 have b0:Blk W0 (w.heap.size) 161 #[pF a N c,I_ next]:=by
  rw [<- F];exact((((Ar _ _ _ _ rfl).alloc _).alloc _).alloc _).alloc _
 have b1:Blk W0 (w+1) 4 #[pI false]:=by
  rw [<- F];exact((((Ar _ _ _ _ bA).alloc _).alloc _).alloc _)
 have bs:GK W0 (w+1+1) []:=by
  rw [<- F];refine⟨#[],0,?_,rfl⟩;rw [Below.heap_alloc _ _ _ bA,Below.heap_alloc _ _ _ bA];have:=pV ((w.alloc (.cells #[pF a N c,I_ next] 161)).alloc (.cells #[pI false] 4)) (.map #[] 0);simpa only [Eo] using this
 have b3:Blk W0 (w+1+1+1) 98 #[.map (some (w+1+1))]:=by
  rw [<- F];exact((Ar _ _ _ _ bA).alloc _)
 have bp:W0.cell? (A4 w 0)=some (pF a V.length c):=by
  rw [<- F,HN.o];exact(Ar _ 161 _ _ bA).cell 0
 rw [F];clear F;try clear az
 refine Fn rfl bB (gf:=146) (lb:=#[pG (some (A4 w 0))]) rfl trivial (enters_of func146 bC rfl) (Hw 8 (w+1+1+1+1) a c V lR W0 bp) (Below.refl _ _) (fun _=>rfl)
  (fun E A=>Below w w A/\Blk A (w+1) 4 #[pI false]/\Blk A (w+1+1+1) 98 #[.map (some (w+1+1))]/\Blk A w 161 #[pF a N c,I_ next]/\GK A (w+1+1) (L7 (L.take E.length))/\CS next [] (L.take E.length)=true) (fun E A=>Below w w A/\Blk A (w+1) 4 #[pI false]/\CS next [] L=false)
  (fun s A A' h hb=>⟨h.1.trans (hb.mono bB),Df h.2.1 bB hb,Df h.2.2.1 bB hb,Df h.2.2.2.1 bB hb,h.2.2.2.2.1.low bB hb,h.2.2.2.2.2⟩) (fun s A A' h hb=>⟨h.1.trans (hb.mono bB),Df h.2.1 bB hb,h.2.2⟩)
  (fun s A h=>HR.o.keeps (Aa.of_below h.1 [])) ⟨aa,b1,b3,b0,bs,rfl⟩
  (fun x b=>{ tmps:=#[pH #[pF a N c,I_ next],p_ w 0,p1 w 0,p3 w 0,UD,p_ b 0,.map (some (w+1+1)),pH #[pF a N c,I_ next],.func (.func 146) #[] #[pG (some (A4 w 0))],I_ (x.2:Int),pH (N_ x.1),UD,UD,UD,UD,UD,UD,UD,UD,UD,UD,UD,UD,UD,UD,UD,UD,UD,UD,UD,UD],defers:=[] })
  (fun x=>.cells (N_ x.1) 43) ?assign ?body ?done ?stop
 case assign=>
  intro l x W K hK;unfold Mf;gi_wp2;exact hK
 case body=>
  rintro l E x b W ⟨O,hI⟩ U hb an;obtain⟨hk,a0,rfl⟩:=MB U;obtain⟨k,hkk⟩:=eX E.length;have hkL:k<L.length:=by rw [<- HM.o.len,<- hkk];exact hk
  have ab:=HM.o.get E.length hk lU;obtain⟨y,hy⟩:=eX (V[E.length]);obtain⟨s,hs⟩:=eX (L[k]);have hm:Oh w y s:=by
   simp only [hkk] at ab hy;rw [hy,hs] at ab;exact ab
  clear ab;have hb2:Blk W b 43 (N_ y):=by
   have:=an;simp only [hy] at this;exact this
  simp only [hy];have T:(E++[(y,E.length)]).length=k+1:=by rw [Al,hkk];rfl
  rw [hy] at U;clear an;have HS:Hi (L[k]? = some s):=lH kF;have aj:=lH T;have af:=lH hkk;have hs1:w.heap.size+5<=W0.heap.size:=bB;clear hs T a0 hk U hkL hy hkk ai aa bp;have ao:=hm.1;obtain⟨Y,c3,c0,J,ae⟩:=hI;obtain⟨u,hu⟩:=eX y.cur;obtain⟨la,ah⟩:=eX (L7 (L.take E.length));rw [ah] at J;have d0:W.cell? (A_ b 0)=some (I_ u):=by rw [<- hu];exact hb2.cell 0
  have e1:W.cell? (A1 w 0)=some (pI false):=Y.cell 0;have f1:=Y.frozen 0;have e3:W.cell? (A3 w 0)=some (.map (some (w+1+1))):=c3.cell 0;have e0:W.cell? (A_ w 1)=some (I_ next):=c0.cell 1;have hlk:=J.look u;have HI:=lH ae;have HB:=lH O;have HC:=lH Y;have ar:=lH c3;have HC0:=lH c0;have ac:=lH J;have ag:=lH ah;have M:Hi (u=s.cur):=lH (by rw [<- hu];exact ao);clear hm O Y c3 c0 ae hb2 ao ah hu J;have ak:JZ next la s=false->ZA W0 (fun E A=>Below w w A/\Blk A (w+1) 4 #[pI false]/\Blk A (w+1+1+1) 98 #[.map (some (w+1+1))]/\Blk A w 161 #[pF a N c,I_ next]/\GK A (w+1+1) (L7 (L.take E.length))/\CS next [] (L.take E.length)=true) (fun E A=>Below w w A/\Blk A (w+1) 4 #[pI false]/\CS next [] L=false) (E++[(y,E.length)]) W .ret { tmps:=#[],defers:=[] } (W.setCell (A1 w 0) (pI false)):=fun am=>
   ⟨CA.setCell (p:=A1 w 0) bH _ _,HB.o.setCell (p:=A1 w 0) bH _,HC.o.set_ 0 _,Vx next HS.o (by rw [<- af.o,ag.o];exact am)⟩
  have HFIN:=lH ak;clear ak;cases hq0:la.contains u with
  | true=>
   rw [hq0] at hlk;have G:Hi (JZ next la s=false):=lH (by unfold JZ;rw [<- M.o,hq0];rfl);clear hq0;gi_wp2;exact HFIN.o G.o
  | false=>
   rw [hq0] at hlk;by_cases hq1:u<1
   ·have G:Hi (JZ next la s=false):=lH (by unfold JZ;rw [<- M.o];simp;omega)
    clear hq0;gi_wp2;exact HFIN.o G.o
   ·by_cases hq2:next<=u
    ·have G:Hi (JZ next la s=false):=lH (by unfold JZ;rw [<- M.o];simp;omega)
     clear hq0;gi_wp2;exact HFIN.o G.o
    ·have au:Hi (JZ next la s=true):=lH (by unfold JZ;rw [<- M.o,hq0];simp;omega)
     obtain⟨o,bb,X⟩:=ac.o.update u hq0;have av:=lH X;have ad:w.heap.size+1+1<W.heap.size:=by obtain⟨es,cc,hx,_⟩:=ac.o;exact(Ai.1 hx).1
     have a3:=lH ad;clear hq0 X ad;gi_wp2;refine⟨CA.putObj bB _ _,HB.o.trans ((Below.refl _ W).grown (grownBy_putObj' W _ _) HB.o.size (fun j e=>by cases e;omega)),?_,?_,?_,?_,?_⟩
     ·exact(AM bB).trans HC.o
     ·exact(AM bB).trans ar.o
     ·exact(AM bB).trans HC0.o
     ·rw [aj.o,Yf HS.o,<- af.o,ag.o,<- M.o];exact av.o
     ·rw [aj.o,SZ next HS.o,<- af.o,ag.o,au.o,HI.o];rfl
 case done=>
  rintro D W hD ⟨O,hI⟩ hK;have ay:w.heap.size+5<=D:=bB;have ap:V.zipIdx.length=L.length:=by rw [List.length_zipIdx];exact HM.o.len
  obtain rfl:B=true:=by rw [<- HBB.o];have:=hI.2.2.2.2;rwa [ap,Ak (Aw _)] at this
  have Y:=hI.1;have e1:W.cell? (A1 w 0)=some (pI false):=Y.cell 0;have f1:=Y.frozen 0;have HC:=lH (Y.set_ 0 (pI true));have HB:=lH (O.setCell (p:=A1 w 0) bH (pI true));have al:(W.setCell (A1 w 0) (pI true)).heap[D]? = some (.deferred (some [])):=by
   rw [Below.heap_setCell _ _ _ _ bH];exact hK
  clear hI Y O hK ai aa ap;gi_wp2;refine⟨by simp,.inl ⟨_,_,rfl,run_takeDeferred al,?_⟩⟩;have q1:=DZ HC.o (D:=D) bB;have q1:_=some (pI true):=q1;refine⟨pI true,by simp [results,results69,go_sem,q1],rfl,Aa.of_below (HB.o.trans (belowK_b (n₀:=w.heap.size) (w:=w) (Aw _) _ D _ _ bB al rfl rfl)) []⟩
 case stop=>
  rintro D E W hD _ ⟨O,c2,hx⟩ hK;have ay:w.heap.size+5<=D:=bB;obtain rfl:B=false:=by rw [<- HBB.o];exact hx
  have HB:=lH O;clear O ai aa;gi_wp2;refine⟨by simp,.inl ⟨_,_,rfl,run_takeDeferred hK,?_⟩⟩;have q1:=DZ c2 (D:=D) bB;refine⟨pI false,by simp [results,results69,go_sem,q1],rfl,Aa.of_below (HB.o.trans (belowK_b (n₀:=w.heap.size) (w:=w) (Aw _) _ D _ _ bB hK rfl rfl)) []⟩
end
section
open Go.RowKit Go.Shelf
attribute [local go_sem ↓] wp_at_zero wp_at_succ
def Jd:Array Value:=#[.func (.func 68) #[] #[],.func (.func 69) #[] #[],.func (.func 70) #[] #[],.func (.func 71) #[] #[]]
theorem Wk(a:Option Addr)(c:Nat)(V:List SV)(p:Po)(n:Nat)(hn:V.length=n)(fb:Nat)(ty:TypeId)(w:World)(hP:BP w a c V p)(hf:Blk w fb ty Jd)(R:Bool)(hR:Ej p=R):
  Calls prog 67 #[pH #[pF a n c,I_ p.next],pF (some (A_ fb 0)) 4 4] w fun r w'=>r = pJ (pI R)/\Aa [] w w':=by
 obtain⟨x,hx⟩:=eX p.next;have T:=lH hx;have HN:=lH hn;have HP:=lH hP;have HR:=lH hR;rw [hx];have D:=lH (hf.alloc (.cells #[pF a n c,I_ x] 161));have HB:=lH (Blk.new w 161 #[pF a n c,I_ x]);have HK:=lH ((Aa.refl [] w).alloc (.cells #[pF a n c,I_ x] 161));obtain⟨y1,h1⟩:=eX (Hk p);have O:=lH h1;obtain⟨y2,h2⟩:=eX (CS x [] p.l);have U:=lH h2;obtain⟨y3,h3⟩:=eX (BV 0 p.l);have X:=lH h3;obtain⟨y4,h4⟩:=eX (Fx p.l);have Y:=lH h4;clear hP hf hR h1 h2 h3 h4 hx hn;go_enter func67,ntmps67;go_wp2;refine wp_loop_rounds 5 ?_;rw [rounds_succ];have E:=D.o.cell 0;have F:=D.o.cell 1;have G:=D.o.cell 2;have J:=D.o.cell 3;simp only [Jd,An,Aj,Ao] at E F G J;have M:=HB.o.ce 0;have N:=HB.o.ce 1;go_wp2_with fail;have B:=fun W=>Rg a c p n (by rw [<- HP.o.mt.len,HN.o]) (by rw [<- HN.o];exact HP.o.small) y1 O.o W;rw [T.o] at B;refine(B _).mono ?_;clear B;rintro r w1 ⟨rfl,hk⟩;clear E F G J M N;have D:=lH (D.o.keeps hk bA);have HB:=lH (HB.o.keeps hk bA);have HK:=lH (HK.o.trans hk);clear hk;cases y1 with
 | false=>
  obtain rfl:R=false:=by rw [<- HR.o];unfold Ej;rw [T.o,O.o];simp
  go_wp2;go_ret;exact⟨rfl,HK.o⟩
 | true=>
  go_wp2_with fail;rw [rounds_succ];have E:=D.o.cell 0;have F:=D.o.cell 1;have G:=D.o.cell 2;have J:=D.o.cell 3;simp only [Jd,An,Aj,Ao] at E F G J;have M:=HB.o.ce 0;have N:=HB.o.ce 1;go_wp2_with fail;have B:=fun W (hk:Aa [] w W)=>PM a c x V p.l HP.o.small W (HP.o.row.keeps hk) (HP.o.mt.keeps hk) y2 U.o;rw [HN.o] at B;refine(B _ HK.o).mono ?_;clear B;rintro r w2 ⟨rfl,hk⟩;clear E F G J M N;have D:=lH (D.o.keeps hk bA);have HB:=lH (HB.o.keeps hk bA);have HK:=lH (HK.o.trans hk);clear hk;cases y2 with
  | false=>
   obtain rfl:R=false:=by rw [<- HR.o];unfold Ej;rw [T.o,O.o,U.o];simp
   go_wp2;go_ret;exact⟨rfl,HK.o⟩
  | true=>
   go_wp2_with fail;rw [rounds_succ];have E:=D.o.cell 0;have F:=D.o.cell 1;have G:=D.o.cell 2;have J:=D.o.cell 3;simp only [Jd,An,Aj,Ao] at E F G J;have M:=HB.o.ce 0;have N:=HB.o.ce 1;go_wp2_with fail;have B:=fun W (hk:Aa [] w W)=>Om a c x V p.l HP.o.small W (HP.o.row.keeps hk) (HP.o.mt.keeps hk) y3 X.o;rw [HN.o] at B;refine(B _ HK.o).mono ?_;clear B;rintro r w3 ⟨rfl,hk⟩;clear E F G J M N;have D:=lH (D.o.keeps hk bA);have HB:=lH (HB.o.keeps hk bA);have HK:=lH (HK.o.trans hk);clear hk;cases y3 with
   | false=>
    obtain rfl:R=false:=by rw [<- HR.o];unfold Ej;rw [T.o,O.o,U.o,X.o];simp
    go_wp2;go_ret;exact⟨rfl,HK.o⟩
   | true=>
    go_wp2_with fail;rw [rounds_succ];have E:=D.o.cell 0;have F:=D.o.cell 1;have G:=D.o.cell 2;have J:=D.o.cell 3;simp only [Jd,An,Aj,Ao] at E F G J;have M:=HB.o.ce 0;have N:=HB.o.ce 1;go_wp2_with fail;have B:=fun W (hk:Aa [] w W)=>PO a c x V p.l HP.o.small W (HP.o.row.keeps hk) (HP.o.mt.keeps hk) y4 Y.o;rw [HN.o] at B;refine(B _ HK.o).mono ?_;clear B;rintro r w4 ⟨rfl,hk⟩;clear E F G J M N;have D:=lH (D.o.keeps hk bA);have HB:=lH (HB.o.keeps hk bA);have HK:=lH (HK.o.trans hk);clear hk;cases y4 with
    | false=>
     obtain rfl:R=false:=by rw [<- HR.o];unfold Ej;rw [T.o,O.o,U.o,X.o,Y.o];simp
     go_wp2;go_ret;exact⟨rfl,HK.o⟩
    | true=>
     obtain rfl:R=true:=by rw [<- HR.o];unfold Ej;rw [T.o,O.o,U.o,X.o,Y.o];rfl
     go_wp2_with fail;rw [rounds_succ];go_wp2;go_ret;exact⟨rfl,HK.o⟩
theorem Nx(a:Option Addr)(c:Nat)(V:List SV)(p:Po)(n:Nat)(hn:V.length=n)(w:World)(hP:BP w a c V p)(R:Bool)(hR:Ej p=R):
  Calls prog 31 #[pH #[pF a n c,I_ p.next]] w fun r w'=>r = pJ (pI R)/\Aa [] w w':=by
 obtain⟨x,hx⟩:=eX p.next;have hk:=((Aa.refl [] w).alloc (.cells #[pF a n c,I_ x] 32)).alloc (.cells Jd 163);have B:=fun W E (hf:Blk W E 163 Jd) (hkk:Aa [] w W)=>Wk a c V p n hn E 163 W (hP.keeps hkk) hf R hR;rw [hx] at B ⊢;have D:=lH B;have HK:=lH hk;have F:=lH (Ar (w.alloc (.cells #[pF a n c,I_ x] 32)) 163 Jd (w+1) bA);clear B hk hx hP hR hn;go_enter func31,ntmps31;go_wp2_with fail;refine(D.o _ _ F.o HK.o).mono ?_;rintro r w1 ⟨rfl,hk⟩;have HK:=lH (HK.o.trans hk);clear hk;go_wp2;go_ret;exact⟨rfl,HK.o⟩
def M1(w:World)(e:Nat->Addr):Prop:=∃E,Ge w 438 [2,3,4] E/\e 0=E 2/\e 1=E 3/\e 2=E 4
theorem M1.keep{w w':World}{e:Nat->Addr}(h:M1 w e)(hk:Aa [] w w'):M1 w' e:=by
 obtain⟨E,h1,h2⟩:=h;exact⟨E,h1.keep hk,h2⟩
theorem M1.c0{w:World}{e:Nat->Addr}(h:M1 w e):w.cell? (A_ 2 0)=some (.iface 438 (pG (some (e 0)))):=by
 obtain⟨E,h1,h2,_⟩:=h;rw [h2];exact h1.cell 2 bA
theorem M1.c1{w:World}{e:Nat->Addr}(h:M1 w e):w.cell? (A_ 3 0)=some (.iface 438 (pG (some (e 1)))):=by
 obtain⟨E,h1,_,h2,_⟩:=h;rw [h2];exact h1.cell 3 bA
theorem M1.c2{w:World}{e:Nat->Addr}(h:M1 w e):w.cell? (A_ 4 0)=some (.iface 438 (pG (some (e 2)))):=by
 obtain⟨E,h1,_,_,h2⟩:=h;rw [h2];exact h1.cell 4 bA
def ZQ:Option Nat->Int
 | none=>0
 | some 0=>160
 | some 1=>2
 | some _=>161
theorem JD(x:Option Nat)(e:Nat->Addr)(hx:∀y,x=some y->y<3)(w:World)(h:M1 w e)(q:Int)(hq:ZQ x=q):
  Calls prog 193 #[Jj e x] w fun r w'=>r = pJ (I_ q)/\w=w':=by
 have N:=h.c0;have O:=h.c1;have T:=h.c2;have hg:∀g,g<3->∀b,(x==some g)=b->Calls prog 217 #[Jj e x,.iface 438 (pG (some (e g)))] w fun r w'=>r = pJ (pI b)/\w=w':=fun g hg b hb=>by
  obtain⟨E,h1,G,e1,J⟩:=h;have F:x=none\/x=some 0\/x=some 1\/x=some 2:=by
   cases x with
   | none=>exact .inl rfl
   | some y=>
    have:=hx y rfl;have B:y=0\/y=1\/y=2:=bB;rcases B with rfl | rfl | rfl<;>simp
  have D:g=0\/g=1\/g=2:=bB;rcases F with rfl | rfl | rfl | rfl<;>rcases D with rfl | rfl | rfl<;>subst hb<;>simp only [Jj,G,e1,J]
  ·exact DM h1 none 2 bA bA _ rfl
  ·exact DM h1 none 3 bA bA _ rfl
  ·exact DM h1 none 4 bA bA _ rfl
  ·exact DM h1 (some 2) 2 bA bA _ bE
  ·exact DM h1 (some 2) 3 bA bA _ bE
  ·exact DM h1 (some 2) 4 bA bA _ bE
  ·exact DM h1 (some 3) 2 bA bA _ bE
  ·exact DM h1 (some 3) 3 bA bA _ bE
  ·exact DM h1 (some 3) 4 bA bA _ bE
  ·exact DM h1 (some 4) 2 bA bA _ bE
  ·exact DM h1 (some 4) 3 bA bA _ bE
  ·exact DM h1 (some 4) 4 bA bA _ bE
 have HG:=lH hg;have M:x=none\/x=some 0\/x=some 1\/x=some 2:=by
  cases x with
  | none=>exact .inl rfl
  | some y=>
   have:=hx y rfl;have B:y=0\/y=1\/y=2:=bB;rcases B with rfl | rfl | rfl<;>simp
 clear hg h hx;go_enter func193,ntmps193;go_wp2_with fail;rcases M with rfl | rfl | rfl | rfl
 all_goals subst hq
 ·refine(HG.o 1 bB false rfl).mono ?_
  rintro r w' ⟨rfl,rfl⟩;go_wp2_with fail;refine(HG.o 0 bB false rfl).mono ?_;rintro r w' ⟨rfl,rfl⟩;go_wp2_with fail;refine(HG.o 2 bB false rfl).mono ?_;rintro r w' ⟨rfl,rfl⟩;go_wp2_with fail;go_ret;exact⟨rfl,rfl⟩
 ·refine(HG.o 1 bB false rfl).mono ?_
  rintro r w' ⟨rfl,rfl⟩;go_wp2_with fail;refine(HG.o 0 bB true rfl).mono ?_;rintro r w' ⟨rfl,rfl⟩;go_wp2_with fail;go_ret;exact⟨rfl,rfl⟩
 ·refine(HG.o 1 bB true rfl).mono ?_
  rintro r w' ⟨rfl,rfl⟩;go_wp2_with fail;go_ret;exact⟨rfl,rfl⟩
 ·refine(HG.o 1 bB false rfl).mono ?_
  rintro r w' ⟨rfl,rfl⟩;go_wp2_with fail;refine(HG.o 0 bB false rfl).mono ?_;rintro r w' ⟨rfl,rfl⟩;go_wp2_with fail;refine(HG.o 2 bB true rfl).mono ?_;rintro r w' ⟨rfl,rfl⟩;go_wp2_with fail;go_ret;exact⟨rfl,rfl⟩
theorem L6(a:Option Addr)(c:Nat)(V:List SV)(p:Po)(n:Nat)(hn:V.length=n)(now:Int)(w:World)(hP:BP w a c V p)(e:Nat->Addr)(he:M1 w e)(R:Bool)(hR:Db p now=R):
  Calls prog 192 #[pH #[pF a n c,I_ p.next],I_ now] w fun r w'=>r = pJ (Jj e (if R then none else some 0))/\Aa [] w w':=by
 obtain⟨x,hx⟩:=eX p.next;have hk:=(Aa.refl [] w).alloc (.cells #[pF a n c,I_ x] 32);have hb:=Blk.new w 32 #[pF a n c,I_ x];obtain⟨y,hy⟩:=eX (Ej p);obtain⟨u,hu⟩:=eX (EQ p.l);have B:=fun W (hkk:Aa [] w W)=>Nx a c V p n hn W (hP.keeps hkk) y hy;have D:=fun W (hkk:Aa [] w W)=>YO a c x V hP.small W (hP.row.keeps hkk) u ((Wr hP.mt).trans hu);rw [hx] at B ⊢;rw [hn] at D;have F:=lH B;have G:=lH D;have HE:=lH he;have HK:=lH hk;have HB:=lH hb;have E:=lH hy;have HU:=lH hu;have HR:=lH hR;have J:=hb.cell 0;have M:=hb.cell 1;clear B D he hk hb hy hu hR hP hx hn;go_enter func192,ntmps192;go_wp2_with fail;refine(F.o _ HK.o).mono ?_;rintro r w1 ⟨rfl,hk⟩;have HK:=lH (HK.o.trans hk);clear hk J M;cases y with
 | false=>
  obtain rfl:R=false:=by rw [<- HR.o];unfold Db;rw [E.o];rfl
  have N:=(HE.o.keep HK.o).c0;go_wp2;go_ret;exact⟨rfl,HK.o⟩
 | true=>
  go_wp2_with fail;refine(G.o _ HK.o).mono ?_;rintro r w2 ⟨rfl,hk⟩;have HK:=lH (HK.o.trans hk);clear hk;have N:=(HE.o.keep HK.o).c0;by_cases h1:now<u
  ·obtain rfl:R=false:=by rw [<- HR.o];unfold Db;rw [E.o,HU.o];simp;omega
   go_wp2;go_ret;exact⟨rfl,HK.o⟩
  ·by_cases h2:1000000000000<now
   ·obtain rfl:R=false:=by rw [<- HR.o];unfold Db;rw [E.o,HU.o];simp;omega
    go_wp2;go_ret;exact⟨rfl,HK.o⟩
   ·obtain rfl:R=true:=by rw [<- HR.o];unfold Db;rw [E.o,HU.o];simp;omega
    go_wp2;go_ret;exact⟨rfl,HK.o⟩
theorem ZL:(prog.info? 9).map (fun i=>(i.zero,i.size,i.bytes))=some (some (Dz ⟨#[]⟩),1,16):=bC
theorem P3:(prog.info? 43).map (fun i=>(i.zero,i.size,i.bytes))=some (some (pH #[pE pK 0,pF none 0 0,I_ 0]),3,40):=bC
theorem wpList_append_run{P:Program}(w:World){ops:Array Oper}{rest:List Oper}{o:Oper}{a:Act}{Q:Exit->Act->World->Prop}(hgd:o.guard=none)(s x:Operand)(t:TypeId)
 (ho:o.op = .call { callee:=.builtin .append,args:=#[s,x],argTypes:=#[t,t] }){v u v':Value}{w':World}(hs:a.eval s=v)(hx:a.eval x=u)
 (hr:(BI #[t,t] o.type #[v,u]).run P w = .ok v' w')(h:wpList P ops Q rest (a.put o.dst v') w'):wpList P ops Q (o::rest) a w:=by
 refine wpList_plain hgd fun K hK=>?_;unfold Oper.wp execOp;simp only [ho,resolve,invoke,builtin,Sem.run_bind,Sem.run_pure,Result.andThen_ok,List.map_toArray,CR,List.map_nil,hs,hx,hr];exact hK _ _ h
theorem J0{w:World}{B:Nat}{v:Value}{xs:List ByteArray}(h:w.ownsRow B 9 1 v xs.length (xs.map Dz))(E:xs.length<=1000000)(hsz:∀x∈xs,x.size<=maxLen):
  ∃a c,v = pF a xs.length c/\Cy w a c xs:=by
 rcases h.2 with⟨rfl,h0⟩ | ⟨g,c,cur,rfl,hb,hg,hn,G,hs,F⟩
 ·obtain rfl:=Ds h0
  exact⟨none,0,rfl,Aw _,fun hn=>absurd rfl hn,by simp,by simp,fun _=>rfl⟩
 ·refine⟨_,c,rfl,hn,fun _=>⟨g,0,cur,(0,0),rfl,hg,fun i hi=>?_⟩,E,hsz,fun e=>by cases e⟩
  have D:Blk w g 9 cur:=hg;rw [D.cell,AW];have h1:(xs.map Dz)[i]? = some (Dz xs[i]):=by rw [qH,Aq hi];rfl
  rw [<- F,Dh,if_pos bB] at h1;simpa using h1
def Fr(B:Nat)(a:Option Addr)(n:Nat):Prop:=∀g off,a=some ⟨g,off,none⟩->0<n->B<=g
theorem Fr.none(B n:Nat):Fr B none n:=fun _ _ h=>by cases h
theorem Fr.down{B B':Nat}{a:Option Addr}{n:Nat}(h:Fr B a n)(hb:B'<=B):Fr B' a n:=fun g off e h0=>A8 hb (h g off e h0)
theorem Wg{w:World}{B:Nat}{a:Option Addr}{n c:Nat}{xs:List Value}(h:w.ownsRow B 9 1 (pF a n c) n xs):Fr B a n:=fun g off e h0=>by
 rcases h.2 with⟨h1,rfl⟩ | ⟨g',c',cur,h1,hb,_⟩
 ·omega
 ·injection h1 with h1 _ _
  rw [e] at h1;injection h1 with h1
  injection h1 with h1 _ _
  rw [h1];exact hb
theorem FL(g off j:Nat):((A_ g off):Addr).add j=(A_ g (off+j)):=by
 unfold Addr.add;split<;>simp_all
theorem QP{W:World}{B:Nat}{v:Value}{ys:List ByteArray}(hv:W.ownsRow B 9 1 v ys.length (ys.map Dz))(O:B<=W.heap.size){a:Option Addr}{c:Nat}{xs:List ByteArray}(h:Cy W a c xs)(hy:ys.length<=1000000)(J:TypeId):
  ∃v' W',(BI #[41,41] J #[v,pF a xs.length c]).run prog W = .ok v' W'/\W'.ownsRow B 9 1 v' (ys++xs).length ((ys++xs).map Dz)/\W.grownBy W' v.ownBlock:=by
 obtain⟨M,hi,E,F,G⟩:=info_parts ZL;have U:=h.small;rw [Al,pO];cases a with
 | none=>
  have hn:xs = []:=by
   apply Classical.byContradiction;intro hn;obtain⟨g,off,cs,N,e,_⟩:=h.at_ hn;cases e
  subst hn;rw [h.nil rfl];have:=run_append_owned_none (P:=prog) (w:=W) B 41 J 9 M 1 underlying41 hi v ys.length _ hv;exact⟨v,W,this,by simpa using hv,⟨rfl,rfl,rfl,Aw _,fun _ _ _=>rfl⟩⟩
 | some p=>
  have T:∀j u,(xs.map Dz)[j]? = some u->W.cell? (p.add j)=some u:=fun j u hj=>by
   have D:j<xs.length:=by have:=(Ad.1 hj).1;simpa using this
   obtain⟨g,off,cs,N,e,_,hat⟩:=h.at_ (by rintro rfl;simp at D);injection e with e
   subst e;rw [FL,hat j D];rw [qH,Aq D] at hj;exact hj
  obtain⟨v',W',h1,h2,h3,_⟩:=run_append_own (P:=prog) W B 41 J 9 M _ 1 16 underlying41 hi E F G rfl bE v ys.length _ hv p xs.length c (xs.map Dz) bA T (by intro u hu;obtain⟨_,_,rfl⟩:=BO.1 hu;rfl) bZ bB O;exact⟨v',W',h1,h2,h3⟩
theorem Gy(a:Option Addr)(c:Nat)(xs:List ByteArray)(n:Nat)(hn:xs.length=n)(w:World)(h:Cy w a c xs):
  Calls prog 78 #[pF a n c] w fun r w'=>∃a' c',r = pJ (.slice a' n c')/\Cy w' a' c' xs/\Aa [] w w'/\Fr w a' n:=by
 cases a with
 | none=>
  have hx:xs = []:=by
   apply Classical.byContradiction;intro hn;obtain⟨g,off,cs,E,e,_⟩:=h.at_ hn;cases e
  subst hx;subst hn;obtain rfl:=h.nil rfl;have H:=lH h;clear h;have h0:Calls prog 78 #[pF none 0 0] w fun r w'=>r = pJ (pF none 0 0)/\w=w':=by
   clear H;have hq:=fun W=>AK (P:=prog) W _ _ none 0 0 0 0 underlying41;go_enter func78,ntmps78;go_wp2;go_ret;exact⟨rfl,rfl⟩
  refine h0.mono ?_;rintro r w' ⟨rfl,rfl⟩;exact⟨none,0,rfl,H.o,Aa.refl [] w,Fr.none _ _⟩
 | some p=>
  have hrow:(w.alloc (.cells #[] 9)).ownsRow w 9 1 (pF (some (A_ w 0)) 0 0) 0 []:=by
   have:=World.ownsRow_lit (base:=w.heap.size) (e:=9) (size:=1) w #[] 0 (Aw _) bZ rfl;simpa using this
  have hk0:=(Aa.refl [] w).alloc (.cells #[] 9);obtain⟨v',W',hr,B,hg⟩:=QP (ys:=[]) hrow bA (h.keeps hk0) bA 41;rw [BH] at B;obtain⟨a',c',rfl,hs⟩:=J0 B h.small h.size;have hk:Aa [] w W':=hk0.grown hg (fun k hk=>by
   simp [EZ] at hk;exact .inr bB)
  have hfr:=Wg B;rw [hn] at hr hfr;have D:=lH hfr;have HS:=lH hs;have HK:=lH hk;clear hs hk B hg hrow hk0 h hfr;have h0:Calls prog 78 #[pF (some p) n c] w fun r w'=>r = pJ (.slice a' n c')/\W'=w':=by
   clear HS HK D;have hq:=fun W=>AK (P:=prog) W _ _ (some p) n c 0 0 underlying41;go_enter func78,ntmps78;go_wp2_with (at_builtin;refine wpList_append_run _ rfl _ _ 41 rfl rfl rfl hr ?_);go_ret;exact⟨rfl,rfl⟩
  refine h0.mono ?_;rintro r w' ⟨rfl,rfl⟩;exact⟨a',c',rfl,HS.o,HK.o,D.o⟩
structure D7(B:Nat)(W W':World):Prop where
 low:Below B W W'
 strs:∀(k:Nat) (cs:Array Value) (fz:Nat×Nat),W.heap[k]? = some (Obj.cells cs 9 fz)→W'.heap[k]? = some (Obj.cells cs 9 fz)
theorem D7.refl(B:Nat)(W:World):D7 B W W:=⟨Below.refl B W,fun _ _ _ h=>h⟩
theorem D7.trans{B:Nat}{X Y Z:World}(h:D7 B X Y)(k:D7 B Y Z):D7 B X Z:=⟨h.low.trans k.low,fun i cs fz hi=>k.strs i cs fz (h.strs i cs fz hi)⟩
theorem D7.of_keeps{B:Nat}{W W':World}(h:Aa [] W W')(hB:B<=W.heap.size):D7 B W W':=
 ⟨h.below hB bA,fun k _ _ hk=>(h.block k (Ai.1 hk).1 bA).trans hk⟩
theorem D7.of_one{B g:Nat}{W W':World}(h:Aa [g] W W')(hB:B<=W.heap.size)(hg:B<=g)(hn:∃cs,W.heap[g]? = some (.cells cs 43 (0,0))):D7 B W W':=
 ⟨h.below hB (by simp;exact hg),fun k cs fz hk=>(h.block k (Ai.1 hk).1 (by
  simp;rintro rfl;obtain⟨c2,h2⟩:=hn;rw [h2] at hk;injection hk with hk
  injection hk with _ h3 _
  exact absurd h3 bE)).trans hk⟩
theorem D7.mono{B B':Nat}{W W':World}(h:D7 B W W')(hb:B'<=B):D7 B' W W':=⟨h.low.mono hb,h.strs⟩
theorem EF.strK{B:Nat}{w w':World}{a:Option Addr}{L:List ByteArray}(h:EF w a L)(hk:D7 B w w'):EF w' a L:=fun hn=>by
 obtain⟨g,off,cs,fz,ha,hg,hat⟩:=h hn;have hg':=hk.strs g cs fz hg;exact⟨g,off,cs,fz,ha,hg',fun i hi=>(BL (a:=A_ g (off+i)) (hg'.trans hg.symm)).trans (hat i hi)⟩
theorem Cy.strK{B:Nat}{w w':World}{a:Option Addr}{c:Nat}{xs:List ByteArray}(h:Cy w a c xs)(hk:D7 B w w'):Cy w' a c xs:=⟨h.le,h.at_.strK hk,h.small,h.size,h.nil⟩
theorem Oh.strK{B:Nat}{w w':World}{v:SV}{s:Sn}(h:Oh w v s)(hk:D7 B w w'):Oh w' v s:=⟨h.1,h.2.1,h.2.2.1,h.2.2.2.strK hk⟩
theorem Mt.strK{B:Nat}{w w':World}(hk:D7 B w w'):∀ {V:List SV} {L:List Sn},Mt w V L->Mt w' V L
 | [],[],_=>trivial
 | _::_,_::_,h=>⟨h.1.strK hk,Mt.strK hk h.2⟩
 | [],_::_,h=>h.elim
 | _::_,[],h=>h.elim
structure U5(W:World)(g off n:Nat):Prop where
 blk:∃cs,W.heap[g]? = some (.cells cs 43 (0,0))
 cells:∀j,j<n→(W.cell? ⟨g,off+j,none⟩).isSome=true
def Cx(W:World)(g off:Nat)(vs:List Value):Prop:=∀j (h:j<vs.length),W.cell? ⟨g,off+j,none⟩=some vs[j]
theorem U5.lt{W:World}{g off n:Nat}(h:U5 W g off n):g<W.heap.size:=by obtain⟨cs,h⟩:=h.blk;exact(Ai.1 h).1
theorem U5.frozen{W:World}{g off n:Nat}(h:U5 W g off n)(j:Nat):W.frozen? (A_ g j)=false:=by
 obtain⟨cs,h⟩:=h.blk;exact Blk.frozen (show Blk W g 43 cs from h) j
theorem U5.same{W W':World}{g off n:Nat}(h:U5 W g off n)(hb:W'.heap[g]? = W.heap[g]?):U5 W' g off n:=by
 obtain⟨⟨cs,h1⟩,h2⟩:=h;exact⟨⟨cs,hb.trans h1⟩,fun j hj=>by rw [BL (a:=A_ g (off+j)) hb];exact h2 j hj⟩
theorem Cx.same{W W':World}{g off:Nat}{vs:List Value}(h:Cx W g off vs)(hb:W'.heap[g]? = W.heap[g]?):Cx W' g off vs:=fun j hj=>by
 rw [BL (a:=A_ g (off+j)) hb];exact h j hj
theorem KZ{t:TypeId}{z:Nat×Nat}(b:Nat):∀(vs:List Value) (o:Nat) (W:World) (g:Nat),(∃cs,W.heap[g]? = some (.cells cs t z))->∃cs,(W.setCells b o vs).heap[g]? = some (.cells cs t z)
 | [],_,_,_,h=>h
 | v::vs,o,W,g,⟨cs,h⟩=>by
  refine KZ b vs (o+1) _ g ?_;by_cases e:g=b
  ·subst e
   exact⟨cs.setIfInBounds o v,by simp [World.setCell,Array.getElem?_modify,h]⟩
  ·exact⟨cs,(Below.heap_setCell W (A_ b o) v g e).trans h⟩
theorem II(b:Nat):∀(vs:List Value) (o:Nat) (W:World) (x:Addr),(W.cell? x).isSome=true->((W.setCells b o vs).cell? x).isSome=true
 | [],_,_,_,h=>h
 | v::vs,o,W,x,h=>by
  refine II b vs (o+1) _ x ?_;by_cases e:x=(A_ b o)
  ·subst e
   obtain⟨u,hu⟩:=C6.1 h;rw [World.cell?_setCell_same _ _ _ hu];rfl
  ·rw [World.cell?_setCell_other _ _ _ _ (by simpa using Ne.symm e)];exact h
theorem U5.setCells{W:World}{g off n:Nat}(h:U5 W g off n)(o:Nat)(vs:List Value):U5 (W.setCells g o vs) g off n:=
 ⟨KZ g vs o W g h.blk,fun j hj=>II g vs o W _ (h.cells j hj)⟩
theorem Bb(g o:Nat)(vs:List Value)(W:World):Aa [g] W (W.setCells g o vs):=Aa.setCells (.inl bA) vs o (Aa.refl [g] W)
def Da(W:World)(B:Nat)(v:Value)(V:List SV):Prop:=(v = pF none 0 0/\V = [])\/
 ∃g off cap,v = pF (some ⟨g,off,none⟩) V.length cap/\B<=g/\U5 W g off (cap*3)/\V.length<=cap/\cap<=maxLen/\Cx W g off (V.flatMap SV.cells)
theorem Da.keeps{W W':World}{B:Nat}{v:Value}{V:List SV}(h:Da W B v V)(hk:Aa [] W W'):Da W' B v V:=by
 rcases h with h | ⟨g,off,cap,h1,h2,h3,h4,D,E⟩
 ·exact .inl h
 ·have hb:=hk.block g h3.lt bA
  exact .inr ⟨g,off,cap,h1,h2,h3.same hb,h4,D,E.same hb⟩
theorem Da.down{W:World}{B B':Nat}{v:Value}{V:List SV}(h:Da W B v V)(hb:B'<=B):Da W B' v V:=by
 rcases h with h | ⟨g,off,cap,h1,h2,h3⟩
 ·exact .inl h
 ·exact .inr ⟨g,off,cap,h1,by omega,h3⟩
theorem Ea:∀(V:List SV),(V.flatMap SV.cells).length=V.length*3
 | []=>rfl
 | s::V=>by rw [List.flatMap_cons,Al,Ea V,Av];simp [SV.cells];omega
theorem UK:∀(V:List SV) (i:Nat) (h:i<V.length),(V.flatMap SV.cells)[i*3]? = some (I_ V[i].cur)/\(V.flatMap SV.cells)[i*3+1]? = some (.slice V[i].ia V[i].il V[i].ic)/\(V.flatMap SV.cells)[i*3+2]? = some (I_ V[i].used)
 | x::L,0,_=>⟨rfl,rfl,rfl⟩
 | x::L,i+1,h=>by
  obtain⟨h0,h1,h2⟩:=UK L i bK;rw [List.flatMap_cons];have hl:x.cells.length=3:=rfl;refine⟨?_,?_,?_⟩
  ·rw [Ee bB,hl,show(i+1)*3 - 3=i*3 by omega,h0];rfl
  ·rw [Ee bB,hl,show(i+1)*3+1 - 3=i*3+1 by omega,h1];rfl
  ·rw [Ee bB,hl,show(i+1)*3+2 - 3=i*3+2 by omega,h2];rfl
theorem Cx.get{W:World}{g off:Nat}{B:List Value}(h:Cx W g off B){j:Nat}{u:Value}(hj:B[j]? = some u):W.cell? (A_ g (off+j))=some u:=by
 obtain⟨hl,rfl⟩:=Ad.1 hj;exact h j hl
theorem Da.row{W:World}{B:Nat}{v:Value}{V:List SV}(h:Da W B v V):∃a c,v = pF a V.length c/\V.length<=c/\F3 W a V:=by
 rcases h with⟨rfl,rfl⟩ | ⟨g,off,cap,rfl,h2,h3,h4,J,D⟩
 ·exact⟨none,0,rfl,Aw _,fun h=>absurd rfl h⟩
 ·obtain⟨cs,E⟩:=h3.blk
  refine⟨_,cap,rfl,h4,fun _=>⟨g,off,cs,(0,0),rfl,E,fun i hi=>?_⟩⟩;obtain⟨F,f1,G⟩:=UK V i hi;exact⟨D.get F,by rw [EA];exact D.get f1,by rw [EA];exact D.get G⟩
theorem Pp(V:List SV):∀u∈V.flatMap SV.cells,u.oneCell'=true:=by
 intro u hu;obtain⟨f,_,h⟩:=E6.1 hu;simp only [SV.cells,Ac,Ab,or_false] at h;rcases h with rfl | rfl | rfl<;>rfl
def QB:Value->List Nat
 | pF (some a) _ _=>[a.block]
 | _=>[]
theorem Da.pushK{W:World}{B:Nat}{v:Value}{V:List SV}(h:Da W B v V)(hl:V.length<=1000)(hB:B<=W.heap.size)(b:Nat)(x:SV)(hg:Blk W b 43 x.arr)(ty:TypeId):
  ∃v' W',(BI #[30,30] ty #[v,pF (some (A_ b 0)) 1 1]).run prog W = .ok v' W'/\Da W' B v' (V++[x])/\D7 B W W'/\Aa (QB v) W W':=by
 obtain⟨X,hi,aj,F,ak⟩:=info_parts P3;have T:Src prog X.size 30 (pF (some (A_ b 0)) 1 1) 1 x.cells W:=
  Src.ofSlice W underlying30 _ 1 1 _ (by rw [F];rfl) (fun j u hj=>by
   rw [FL,hg.cell,AW];have:x.arr[j]? = x.cells[j]?:=by simp [SV.arr,SV.cells]
   rw [this];exact hj) (fun u hu=>Pp [x] u (by simpa using hu))
 have J:(V++[x]).flatMap SV.cells=V.flatMap SV.cells++x.cells:=bA;have U:(V.flatMap SV.cells).length=V.length*3:=Ea V;have N:∀(a:Option Addr) (E D:Nat) (G:List Value),E=V.length->G=V.flatMap SV.cells->D<E+1->D<=1000->(Builtin.firstCells X.size E (pF a E D)).run prog W.drew = .ok G.toArray W.drew->
   ∃v' W',(BI #[30,30] ty #[pF a E D,pF (some (A_ b 0)) 1 1]).run prog W = .ok v' W'/\Da W' B v' (V++[x])/\D7 B W W'/\∀S,Aa S W W':=by
  rintro a E D G rfl rfl Y ao ac;have O:=run_append_grow_src (P:=prog) W 30 30 ty 43 X _ underlying30 hi aj a V.length D _ ac _ 1 _ T Y bB (by
   rw [ak];exact growslice_fits bB bB)
  obtain⟨c,hc⟩:=eX (grownCap W (V.length+1) D 43);have ab:V.length+1<=c:=by rw [<- hc];exact grownCap_ge _ _ _ _
  have ai:c<=maxLen:=by rw [<- hc];exact grownCap_le_maxLen _ _ _ _ bZ
  rw [hc] at O;refine⟨_,_,O,?_,?_⟩
  ·obtain⟨A,hA⟩:=eX (((V.flatMap SV.cells++x.cells).toArray++AN (pH #[pE pK 0,pF none 0 0,I_ 0]).cells (c - (V.length+1))))
   have an:A.size=c*3:=by
    rw [<- hA];simp only [Array.size_append,Cz,Al,U];have:x.cells.length=3:=rfl;rw [this,size_zeroCells];have:(pH #[pE pK 0,pF none 0 0,I_ 0]).cells.size=3:=rfl;rw [this];omega
   rw [hA];have hb:=Blk.new W.drew 43 A;refine .inr ⟨W,0,c,by simp,hB,⟨⟨A,hb⟩,fun j hj=>?_⟩,by simpa using ab,ai,fun j hj=>?_⟩
   ·have:=hb.cell (0+j)
    rw [show W.drew.heap.size=W.heap.size from rfl] at this;rw [this,Array.getElem?_eq_getElem bB];rfl
   ·have:=hb.cell (0+j)
    rw [show W.drew.heap.size=W.heap.size from rfl] at this;rw [this,<- hA,AW];have M:j<(V.flatMap SV.cells++x.cells).length:=by rw [<- J];exact hj
    rw [Array.getElem?_append_left (by simpa using M)];simp only [An];rw [Aq M]
    congr 1
    simp only [J]
  ·exact⟨⟨(Below.refl B W).drew.alloc hB _,fun k cs fz hk=>(Below.heap_alloc W.drew _ k (Ai.1 hk).1).trans hk⟩,fun S=>(Aa.refl S W).drew.alloc _⟩
 rcases h with⟨rfl,rfl⟩ | ⟨g,off,cap,rfl,h2,h3,h4,h5,h6⟩
 ·obtain⟨v',W',h1,h2,h3,h4⟩:=N none 0 0 [] rfl rfl bB bB (run_firstCells_none W.drew X.size 0 0 0)
  exact⟨v',W',h1,h2,h3,h4 _⟩
 ·by_cases hroom:V.length+1<=cap
  ·have ah:∀j,j<x.cells.length->V.length*3+j<cap*3:=fun j hj=>by have:x.cells.length=3:=rfl;omega
   have aa:∀j,j<x.cells.length->(W.cell? (A_ g (off+V.length*3+j))).isSome=true:=fun j hj=>by
    have:=h3.cells (V.length*3+j) (ah j hj)
    rwa [<- EA] at this
   refine⟨_,_,run_append_room_src (P:=prog) W 30 30 ty 43 X underlying30 hi g off V.length cap _ 1 _ T hroom (fun j hj=>by rw [F];exact aa j hj) (fun j hj=>h3.frozen _),?_,?_⟩
   ·rw [F]
    refine .inr ⟨g,off,cap,by simp,h2,h3.setCells _ _,by simpa using hroom,h5,fun j hj=>?_⟩;have M:j<(V.flatMap SV.cells++x.cells).length:=by rw [<- J];exact hj
    have he:((V++[x]).flatMap SV.cells)[j]=(V.flatMap SV.cells++x.cells)[j]:=by simp only [J]
    rw [he];rcases pP j (V.length*3) with hlt | ab
    ·rw [World.cell?_setCells_out _ _ _ _ _ (fun _ _=>.inl bH),List.getElem_append_left bB]
     exact h6 j bB
    ·obtain⟨r,rfl⟩:∃r,j=V.length*3+r:=⟨j - V.length*3,by omega⟩
     rw [<- EA,World.cell?_setCells_in g x.cells (off+V.length*3) W aa r (by simp only [Al,U] at M;omega),List.getElem_append_right bB]
     congr 2
     omega
   ·rw [F]
    exact⟨D7.of_one (Bb g _ _ W) hB h2 h3.blk,Bb g _ _ W⟩
  ·have ag:cap=V.length:=bB;subst ag;obtain⟨v',W',q1,q2,q3,q4⟩:=N (some (A_ g off)) V.length V.length (V.flatMap SV.cells) rfl rfl bB bB (run_firstCells_some W.drew X.size V.length _ _ _ _ (by rw [F,U]) (fun j u hj=>by
    rw [FL];exact h6.get hj))
   exact⟨v',W',q1,q2,q3,q4 _⟩
theorem Da.push{W:World}{B:Nat}{v:Value}{V:List SV}(h:Da W B v V)(hl:V.length<=1000)(E:B<=W.heap.size)(b:Nat)(x:SV)(hg:Blk W b 43 x.arr)(D:TypeId):
  ∃v' W',(BI #[30,30] D #[v,pF (some (A_ b 0)) 1 1]).run prog W = .ok v' W'/\Da W' B v' (V++[x])/\D7 B W W':=by
 obtain⟨v',W',h1,h2,h3,_⟩:=h.pushK hl E b x hg D;exact⟨v',W',h1,h2,h3⟩
theorem Mt.take{w:World}: ∀ {V:List SV} {L:List Sn} (k:Nat),Mt w V L->Mt w (V.take k) (L.take k)
 | _,_,0,_=>trivial
 | [],[],_+1,_=>trivial
 | _::_,_::_,k+1,h=>⟨h.1,Mt.take k h.2⟩
 | [],_::_,_+1,h=>h.elim
 | _::_,[],_+1,h=>h.elim
theorem DS{α:Type}{L:List α}{k:Nat}{s:α}(h:L[k]? = some s):L.take (k+1)=L.take k++[s]:=by
 obtain⟨hk,rfl⟩:=Ad.1 h;rw [BJ hk]
def SO(B:Nat)(v:SV):Prop:=Fr B v.ia v.il
theorem YZ(a:Option Addr)(c:Nat)(V:List SV)(L:List Sn)(n:Nat)(hn:V.length=n)(hs:n<=1000)(w:World)(hR:F3 w a V)(hM:Mt w V L):
  Calls prog 196 #[pF a n c] w fun r w'=>∃v V',r = pJ v/\Da w' w v V'/\Mt w' V' L/\Below w w w'/\∀x∈V',SO w x:=by
 have HR:=lH hR;have HM:=lH hM;have HN:=lH hn;clear hR hM hn;go_enter func196,ntmps196;go_wp2;go_loopw [3,8] (fun u i wr=>∃(k:Nat) (V':List SV),k<=n/\i = I_ k/\V'.length=k/\Hi (Da wr w u V')/\Hi (Mt wr V' (L.take k))/\Hi (Below w w wr)/\Hi (∀x∈V',SO w x)) (fun _ i _=>n - (intOf i).toNat)
 case atStart=>exact⟨0,[],Ba _,rfl,rfl,lH (.inl ⟨rfl,rfl⟩),lH trivial,lH (Below.refl _ w),lH (fun x hx=>by cases hx)⟩
 case round=>
  obtain⟨k,V',hk,rfl,ac,HS,HT,HB,HF⟩:=hrel;have HVK:=lH ac;clear ac;by_cases hlt:k<n
  ·have hk1:k<V.length:=by rw [HN.o];exact hlt
   have hkL:k<L.length:=by rw [<- HM.o.len];exact hk1
   have hm:=HM.o.get k hk1 hkL;obtain⟨g,off,ar,av,rfl,X,hat⟩:=HR.o gC;have hg:=(Ai.1 X).1;clear X;obtain⟨y,hy⟩:=eX (V[k]);obtain⟨s,M⟩:=eX (L[k]);have q1:=hat k hk1;rw [hy] at q1 hm;rw [M] at hm;obtain⟨p0,p1,p2⟩:=q1;have hkw:=Aa.of_below HB.o [];rw [<- hkw.cell (by exact hg) bA] at p0 p1 p2;have i1:(0:Int)<=(k:Int):=bB;have i2:(k:Int)<(n:Int):=bB;have hb:=Blk.new wr 43 (N_ y);have d1:=hb.cell 1;have hk0:=(Aa.refl [] wr).alloc (.cells (N_ y) 43);have HST:=lH (hm.2.2.2.keeps (hkw.trans hk0));have N:=lH hm.2.2.1;have O:=lH hm;have aj:Hi (L[k]? = some s):=lH (by rw [Aq hkL,M]);have ae:=lH hb;have HK0:=lH hk0;clear hat hy M hm hkw hb hk0 hk1 hkL;go_wp2_with fail;refine(Gy y.ia y.ic s.items y.il N.o.symm _ HST.o).mono ?_;rintro r w2 ⟨E,F,rfl,hst,J,hfr⟩;have ag:=lH (hfr.down (B':=w.heap.size) (by have:=HB.o.size;simp;omega));clear hfr;have T:=lH hst;have hb2:=ae.o.keeps J bA;have e0:=hb2.cell 0;have e1:=hb2.cell 1;have e2:=hb2.cell 2;have f1:=hb2.frozen 1;have HB2:=lH (hb2.set_ 1 (.slice E y.il F));have HK2:=lH ((HK0.o.trans J).setCell (p:=A_ wr 1) (.inr (Aw _)) (.slice E y.il F));have ah:=lH (Aa.setCell (S:=[wr.heap.size]) (Aa.refl _ w2) (p:=A_ wr 1) (.inl bA) (.slice E y.il F));have ak:Hi (ID w2 [wr.heap.size]):=lH (fun k hk cs fz h=>by
    simp at hk;subst hk;have h':w2.heap[wr.heap.size]? = some (.cells (N_ y) 43 (0,0)):=hb2;rw [h'] at h;injection h with h;injection h with _ h3 _
    exact absurd h3 bE)
   clear hst J hb2 d1 p0 p1 p2;obtain⟨x,hx⟩:∃x:SV,x=⟨y.cur,E,y.il,F,y.used⟩:=⟨_,rfl⟩;have hx1:Oh (w2.setCell (A_ wr 1) (.slice E y.il F)) x s:=by
    rw [hx];exact⟨O.o.1,O.o.2.1,N.o,T.o.keepsS ah.o ak.o⟩
   have hk4:=(Aa.refl [] (w2.setCell (A_ wr 1) (.slice E y.il F))).alloc (.cells x.arr 43);have hsz:w.heap.size<=wr.heap.size:=HB.o.size;have ab:=(HS.o.keeps HK2.o).keeps hk4;obtain⟨v9,w9,B,aa,hk9⟩:=ab.push mB (by have:=HK2.o.size;simp [World.setCell] at this ⊢;omega) _ x (Blk.new (w2.setCell (A_ wr 1) (.slice E y.il F)) 43 x.arr) 30;have Y:Mt w9 (V'++[x]) (L.take (k+1)):=by
    rw [DS aj.o];exact((HT.o.keeps HK2.o).keeps hk4 |>.strK hk9).app ⟨(hx1.keeps hk4).strK hk9,trivial⟩
   have U:Below w w w9:=(HB.o.trans ((HK2.o.trans hk4).below hsz bA)).trans hk9.low;rw [hx] at B;simp only [SV.arr] at B;rw [show(w2.setCell (A_ wr 1) (.slice E y.il F)).heap.size=w2.heap.size by simp [World.setCell]] at B;have al:=lH aa;have G:=lH Y;have ad:=lH U;have g0:=HB2.o.cell 0;have g1:=HB2.o.cell 1;have g2:=HB2.o.cell 2;simp only [Ap,AB,AA,An,Aj,Ao] at g0 g1 g2;have D:(V'++[x]).length=k+1:=by rw [Al,HVK.o];rfl
   have ai:=lH D;have af:Hi (∀z∈V'++[x],SO w z):=lH (fun z hz=>by
    rcases AQ.1 hz with hz | hz
    ·exact HF.o z hz
    ·obtain rfl:=Ag.1 hz
     rw [hx];exact ag.o)
   clear hx1 hk4 ab aa hk9 Y U D hx;go_wp2_with (at_builtin;refine wpList_append_run _ rfl _ _ 30 rfl rfl rfl B ?_);go_roundw;case rel=>exact⟨k+1,V'++[x],by omega,by go_num,ai.o,al,G,ad,af⟩
   case measure=>simp [intOf];omega
  ·obtain rfl:k=n:=bB;have ht:L.take k=L:=Ak (by rw [<- HM.o.len,HN.o];exact Aw _);have hm:=HT.o;rw [ht] at hm;have G:=lH hm;clear ht hm;go_wp2;go_ret;exact⟨_,V',rfl,HS.o,G.o,HB.o,HF.o⟩
def Ei(now:Int)(x:SV):Bool:=decide (now - x.used<1000)
def Ha(t:Int):Prop:=-1000000000000<=t/\t<=1000000000000
theorem JH(x:SV)(hu:Ha x.used)(now:Int)(hn:Ha now)(pb:Nat)(b:Bool)(hb:Ei now x=b)(w:World)(hp:w.cell? (A_ pb 0)=some (I_ now)):
  Calls prog 194 #[pH (N_ x),p_ pb 0] w fun r w'=>r = pJ (pI (!b))/\Aa [] w w':=by
 obtain⟨u,D⟩:=eX x.used;unfold Ei at hb;rw [D] at hb hu ⊢;obtain⟨u1,M⟩:=hu;obtain⟨G,J⟩:=hn;have E:(w.alloc (.cells #[pE pK x.cur,pF x.ia x.il x.ic,I_ u] 43)).cell? (A_ pb 0)=some (I_ now):=by
  rw [Cs w _ _ (Be w _ hp)];exact hp
 have B:=Blk.new w 43 #[pE pK x.cur,pF x.ia x.il x.ic,I_ u];have F:=B.cell 2;clear B hp;have hw:IntKind.i64.wrap (now - u)=now - u:=IntWalk.i64_in _ bB;clear D;by_cases h:now - u<1000
 ·obtain rfl:b=true:=by rw [<- hb];exact decide_eq_true h
  have h1:¬(1000:Int)<=now - u:=bB;clear hb h;go_enter func194,ntmps194;go_wp2;go_ret;exact⟨rfl,(Aa.refl [] w).alloc _⟩
 ·obtain rfl:b=false:=by rw [<- hb];exact decide_eq_false h
  have h1:(1000:Int)<=now - u:=bB;clear hb h;go_enter func194,ntmps194;go_wp2;go_ret;exact⟨rfl,(Aa.refl [] w).alloc _⟩
def jB(now:Int)(V:List SV)(i:Int):Prop:=(i = -1/\V.all (Ei now)=true)\/∃(k:Nat) (x:SV),i=k/\V[k]? = some x/\(V.take k).all (Ei now)=true/\Ei now x=false
theorem Ni(a:Option Addr)(c:Nat)(V:List SV)(n:Nat)(hn:V.length=n)(hs:n<=1000)(now:Int)(D:Ha now)(hu:∀x∈V,Ha x.used)(pb:Nat)(w:World)(hp:w.cell? (A_ pb 0)=some (I_ now))(hR:F3 w a V):
  Calls prog 218 #[pF a n c,.func (.func 194) #[] #[pG (some (A_ pb 0))]] w fun r w'=>∃i:Int,r = pJ (I_ i)/\jB now V i/\Aa [] w w':=by
 have HR:=lH hR;have HN:=lH hn;have X:=lH D;have HU:=lH hu;have J:=Be w _ hp;have HP:=lH hp;have T:=lH J;clear hR hn D hu hp J;go_enter func218,ntmps218;go_wp2;go_loopw [5,8] (fun _ i wr=>∃k:Nat,k<=n/\i = I_ k/\Hi ((V.take k).all (Ei now)=true)/\Hi (Aa [] w wr)) (fun _ i _=>n - (intOf i).toNat)
 case atStart=>exact⟨0,Ba _,rfl,lH rfl,lH (Aa.refl [] w)⟩
 case round=>
  obtain⟨k,hk,rfl,N,HK⟩:=hrel;by_cases hlt:k<n
  ·have hk1:k<V.length:=by rw [HN.o];exact hlt
   obtain⟨g,off,ab,ac,rfl,G,hat⟩:=HR.o gC;have hg:=(Ai.1 G).1;clear G;obtain⟨x,hx⟩:=eX (V[k]);have q1:=hat k hk1;rw [hx] at q1;obtain⟨U,p1,p2⟩:=q1;rw [<- HK.o.cell (by exact hg) bA] at U p1 p2;have i1:(0:Int)<=(k:Int):=bB;have i2:(k:Int)<(n:Int):=bB;have Y:Hi (V[k]? = some x):=lH (by rw [Aq hk1,hx]);have F:Hi (Ha x.used):=lH (HU.o x kG);have E:Hi (wr.cell? (A_ pb 0)=some (I_ now)):=lH ((HK.o.cell T.o bA).trans HP.o);clear hat hx hk1;cases hr:Ei now x with
   | true=>
    have O:Hi ((V.take (k+1)).all (Ei now)=true):=lH (by rw [DS Y.o,List.all_append,N.o];simp [hr]);have M:=lH hr;clear hr;go_wp2_with fail;refine(JH x F.o now X.o pb true M.o _ E.o).mono ?_;rintro r w2 ⟨rfl,hk2⟩;have HK2:=lH (HK.o.trans hk2);clear hk2 U p1 p2;go_wp2;go_roundw;case rel=>exact⟨k+1,by omega,by go_num,O,HK2⟩
    case measure=>simp [intOf];omega
   | false=>
    have M:=lH hr;clear hr;go_wp2_with fail;refine(JH x F.o now X.o pb false M.o _ E.o).mono ?_;rintro r w2 ⟨rfl,hk2⟩;have HK2:=lH (HK.o.trans hk2);clear hk2 U p1 p2;go_wp2;go_ret;exact⟨_,rfl,.inr ⟨k,x,rfl,Y.o,N.o,M.o⟩,HK2.o⟩
  ·obtain rfl:k=n:=bB;have B:=N.o;rw [Ak bL] at B;have HA:=lH B;clear B;go_wp2;go_ret;exact⟨_,rfl,.inl ⟨rfl,HA.o⟩,HK.o⟩
def J4:List Value:=[pE pK 0,pF none 0 0,pE pK 0]
def E0:Nat->List Value
 | 0=>[]
 | n+1=>J4++E0 n
theorem I9:∀n,(E0 n).length=n*3
 | 0=>rfl
 | n+1=>by unfold E0;rw [Al,I9 n];simp [J4];omega
theorem Og:∀n,∀u∈E0 n,u.oneCell'=true
 | 0,_,h=>by cases h
 | n+1,u,h=>by
  unfold E0 at h;rcases AQ.1 h with h | h
  ·simp only [J4,Ac,Ab,or_false] at h
   rcases h with rfl | rfl | rfl<;>rfl
  ·exact Og n u h
theorem Xs(W:World):(zeroValue 43).run prog W = .ok (pH #[pE pK 0,pF none 0 0,I_ 0]) W:=bC
theorem Xt(n:Nat):(AN (pH #[pE pK 0,pF none 0 0,I_ 0]).cells n).toList=E0 n:=by
 have B:(pH #[pE pK 0,pF none 0 0,I_ 0]).cells=#[pE pK 0,pF none 0 0,I_ 0]:=rfl;have hz:∀n j,j<n*3->(E0 n)[j]? = some (#[pE .i64 0,pF none 0 0,I_ 0][j % 3]!):=by
  intro n;induction n with
  | zero=>intro j hj;omega
  | succ n ih=>
   intro j hj;unfold E0;rcases pP j 3 with h | h
   ·have:j=0\/j=1\/j=2:=bB;rcases this with rfl | rfl | rfl<;>rfl
   ·rw [Ee (by simp [J4];omega)]
    have:J4.length=3:=rfl;rw [this,ih (j - 3) bB,show(j - 3) % 3=j % 3 by omega]
 rw [B];apply List.ext_getElem?;intro j;rcases pP j (n*3) with h | h
 ·rw [hz n j h]
  simp [AN,h]
 ·rw [List.getElem?_eq_none (l:=E0 n) (by rw [I9];exact h),List.getElem?_eq_none (by simp [AN];omega)]
theorem IM(W:World)(E:TypeId)(g o n c:Nat)(hn:0<n)(D:∀j,j<n*3->(W.cell? (A_ g (o+j))).isSome=true)(hf:∀j,j<n*3->W.frozen? (A_ g (o+j))=false):
  (Builtin.clear_ #[30] E #[pF (some (A_ g o)) n c]).run prog W = .ok (.tuple #[]) (W.setCells g o (E0 n)):=by
 have hst:=run_storeCells_cells (P:=prog) g o (E0 n) 0 W (by simpa [I9] using D) (by simpa [I9] using hf) (Og n);simp only [AT] at hst;have B:=Xt n;obtain⟨m,rfl⟩:∃m,n=m+1:=⟨n - 1,by omega⟩;simp only [Builtin.clear_,An,Aj,Sem.run_bind,run_underlying underlying30,Result.andThen_ok,Xs,B,hst,Sem.run_pure]
theorem FF(W:World):(sizeOf (prog.elem 30)).run prog W = .ok 3 W:=bC
theorem FE:prog.underlying 30=some (.slice (prog.elem 30)):=bC
theorem Fw(W:World)(g off n cap l:Nat)(h1:l<=n)(h2:l<cap):
  (AV 30 (pF (some (A_ g off)) n cap) (some (I_ (l:Int))) none none).run prog W = .ok (pF (some (A_ g (off+l*3))) (n - l) (cap - l)) W:=by
 have h:=run_slice_l (P:=prog) W 30 (some (A_ g off)) n cap FE .i64 l bB bB;rw [h,FF];simp [sliced,show ¬cap=l by omega,FL,Bg]
theorem Lb(W:World)(g off n cap l:Nat)(h2:l<=cap):
  (AV 30 (pF (some (A_ g off)) n cap) none (some (I_ (l:Int))) none).run prog W = .ok (pF (some (A_ g off)) l cap) W:=by
 have h:=run_slice_h (P:=prog) W 30 (some (A_ g off)) n cap FE .i64 l bB bB;rw [h,FF];simp [sliced,FL,Bg]
theorem Nb{α:Type}{p:α->Bool}{l:List α}(h:l.all p=true):l.filter p=l:=List.filter_eq_self.2 (by simpa [Bm] using h)
theorem Cx.app{W:World}{g off:Nat}{a b:List Value}(h1:Cx W g off a)(h2:Cx W g (off+a.length) b):Cx W g off (a++b):=fun j hj=>by
 rcases pP j a.length with h | h
 ·rw [List.getElem_append_left h];exact h1 j h
 ·rw [List.getElem_append_right h]
  have:=h2 (j - a.length) (by rw [Al] at hj;omega)
  rwa [show off+a.length+(j - a.length)=off+j by omega] at this
theorem Cx.left{W:World}{g off:Nat}{a b:List Value}(h:Cx W g off (a++b)):Cx W g off a:=fun j hj=>by
 have:=h j (by rw [Al];omega)
 rwa [List.getElem_append_left hj] at this
theorem Cx.right{W:World}{g off:Nat}{a b:List Value}(h:Cx W g off (a++b)):Cx W g (off+a.length) b:=fun j hj=>by
 have:=h (a.length+j) (by rw [Al];omega);rw [List.getElem_append_right bB] at this;rw [EA,this]
 congr 2
 omega
theorem Cx.out{W:World}{g off o:Nat}{vs ws:List Value}(h:Cx W g off vs)(ho:off+vs.length<=o\/o+ws.length<=off):Cx (W.setCells g o ws) g off vs:=fun j hj=>by
 rw [World.cell?_setCells_out _ _ _ _ _ (fun _ _=>by dsimp only;omega)];exact h j hj
theorem Cx.into{W:World}{g o:Nat}{vs:List Value}(h:∀j,j<vs.length->(W.cell? (A_ g (o+j))).isSome=true):Cx (W.setCells g o vs) g o vs:=fun j hj=>World.cell?_setCells_in g vs o W h j hj
theorem PW(v:Value)(V:List SV)(B:Nat)(hs:V.length<=1000)(now:Int)(X:Ha now)(hu:∀x∈V,Ha x.used)(pb:Nat)(w:World)(hB:B<=w.heap.size)(a5:pb<B)(hp:w.cell? (A_ pb 0)=some (I_ now))(hR:Da w B v V):
  Calls prog 195 #[v,.func (.func 194) #[] #[pG (some (A_ pb 0))]] w fun r w'=>∃v',r = pJ v'/\Da w' B v' (V.filter (Ei now))/\D7 B w w':=by
 obtain⟨a0,c0,rfl,a2,hrow⟩:=hR.row;obtain⟨n,hn⟩:=eX V.length;rw [hn] at hs hR ⊢;have HI:=lH (Ni a0 c0 V n hn hs now X hu pb w hp hrow);have HR:=lH hR;have HN:=lH hn;have HT:=lH X;have HU:=lH hu;have HP:=lH hp;clear hR hn X hu hp hrow a2;go_enter func195,ntmps195;go_wp2_with fail;refine HI.o.mono ?_;rintro r w1 ⟨i,rfl,aw,hk1⟩;clear HI;have HK1:=lH hk1;rcases aw with⟨rfl,ab⟩ | ⟨k0,x0,rfl,ak,ax,av⟩
 ·have HF:=lH (Nb ab)
  clear ab hk1;go_wp2;go_ret;exact⟨_,rfl,by rw [HF.o];exact HR.o.keeps HK1.o,D7.of_keeps HK1.o hB⟩
 ·have hne:((k0:Int) == -1)=false:=bA;have bj:k0<n:=by rw [<- HN.o];exact(Ad.1 ak).1
  have au:(V.take (k0+1)).filter (Ei now)=V.take k0:=by
   rw [DS ak,E5,Nb ax];simp [av]
  rcases(HR.o.keeps hk1) with⟨_,hnil⟩ | ⟨g,off,cap,hv,hg,hseg,hlc,hcm,his⟩
  ·exact absurd HN.o (by rw [hnil];simp;omega)
  ·injection hv with e1 e2 e3
   subst e1;subst e3;clear e2;rw [HN.o] at hlc;have ac:Cx w1 g off ((V.take k0).flatMap SV.cells):=by
    have:=his;rw [<- Dn k0 V,BY] at this;exact this.left
   have ad:Cx w1 g (off+(k0+1)*3) ((V.drop (k0+1)).flatMap SV.cells):=by
    have:=his;rw [<- Dn (k0+1) V,BY] at this;have h2:=this.right
    rwa [Ea,Ax,DE (by rw [HN.o];omega)] at h2
   have az:=lH au;have HS0:=lH ac;have HSD:=lH ad;have HSG:=lH hseg;have HST:=lH (D7.of_keeps hk1 hB);have ae:(V.take k0).length=k0:=by rw [Ax,HN.o];omega
   have HK0:=lH ae;clear ak ax av au his ac ad hseg hk1 ae;go_wp2;go_loopw [5,6] (fun i j wr=>∃(E D:Nat) (K:List SV),i = I_ E/\j = I_ D/\E<D/\D<=n/\Hi (K.length=E)/\Hi ((V.take D).filter (Ei now)=K)/\Hi (Cx wr g off (K.flatMap SV.cells))/\Hi (Cx wr g (off+D*3) ((V.drop D).flatMap SV.cells))/\Hi (U5 wr g off (c0*3))/\Hi (D7 B w wr)) (fun _ j _=>n - (intOf j).toNat)
   case atStart=>exact⟨k0,k0+1,V.take k0,rfl,by go_num,by omega,by omega,HK0,az,HS0,HSD,HSG,HST⟩
   case round=>
    obtain⟨E,D,K,rfl,rfl,bh,bi,O,HKF,ah,a1,F,G⟩:=hrel;by_cases hlt:D<n
    ·have hk2:D<V.length:=by rw [HN.o];exact hlt
     obtain⟨x,hx⟩:=eX (V[D]);have ar:V.drop D=x::V.drop (D+1):=by rw [List.drop_eq_getElem_cons hk2,hx]
     have T:=a1.o;rw [ar,List.flatMap_cons] at T;have p0:wr.cell? (A_ g (off+D*3))=some (I_ x.cur):=T 0 nD;have p1:wr.cell? (A_ g (off+D*3+1))=some (pF x.ia x.il x.ic):=T 1 nD;have p2:wr.cell? (A_ g (off+D*3+2))=some (I_ x.used):=T 2 nD;have af:Cx wr g (off+(D+1)*3) ((V.drop (D+1)).flatMap SV.cells):=by
      have:=T.right
      rwa [show off+D*3+x.cells.length=off+(D+1)*3 by simp [SV.cells];omega] at this
     have Y:=lH af;have HX:Hi (V[D]? = some x):=lH (by rw [Aq hk2,hx]);have aq:Hi (Ha x.used):=lH (HU.o x kG);have i1:(0:Int)<=(D:Int):=bB;have i2:(D:Int)<(n:Int):=bB;have i3:(0:Int)<=(E:Int):=bB;have i4:(E:Int)<(n:Int):=bB;have hb:=Blk.new wr 43 (N_ x);have hk3:=(Aa.refl [] wr).alloc (.cells (N_ x) 43);have bo:w.heap.size<=wr.heap.size:=G.o.low.size;have am:Hi ((wr.alloc (.cells (N_ x) 43)).cell? (A_ pb 0)=some (I_ now)):=lH (by
      rw [Cs _ _ _ bH];exact(BL (a:=A_ pb 0) (G.o.low.block pb a5)).trans HP.o)
     have ay:=lH hb;have ag:=lH hk3;have d0:=hb.cell 0;have d1:=hb.cell 1;have d2:=hb.cell 2;clear T af ar hx hk2 hb hk3;cases hr:Ei now x with
     | false=>
      have HF:=lH hr;have J:Hi ((V.take (D+1)).filter (Ei now)=K):=lH (by rw [DS HX.o,E5,HKF.o];simp [hr]);clear hr;go_wp2_with fail;refine(JH x aq.o now HT.o pb false HF.o _ am.o).mono ?_;rintro r w2 ⟨rfl,N⟩;have HKC:=lH (ag.o.trans N);clear N p0 p1 p2 d0 d1 d2;go_wp2;go_roundw;case rel=>
       have hbk:=HKC.o.block g F.o.lt bA;exact⟨E,D+1,K,rfl,by go_num,by omega,by omega,O,J,lH (ah.o.same hbk),lH (Y.o.same hbk),lH (F.o.same hbk),lH (G.o.trans (D7.of_keeps HKC.o bB))⟩
      case measure=>simp [intOf];omega
     | true=>
      have HF:=lH hr;have J:Hi ((V.take (D+1)).filter (Ei now)=K++[x]):=lH (by rw [DS HX.o,E5,HKF.o];simp [hr]);clear hr;go_wp2_with fail;refine(JH x aq.o now HT.o pb true HF.o _ am.o).mono ?_;rintro r w2 ⟨rfl,N⟩;have hbk:=(ag.o.trans N).block g F.o.lt bA;have M:=F.o.same hbk;have U:=lH M;have an:=lH (ah.o.same hbk);have ao:=lH (Y.o.same hbk);have HKC:=lH (ag.o.trans N);have hb2:=ay.o.keeps N bA;have d0:=hb2.cell 0;have d1:=hb2.cell 1;have d2:=hb2.cell 2;obtain⟨u0,q0⟩:=C6.1 (M.cells (E*3) bB);obtain⟨u1,q1⟩:=C6.1 (M.cells (E*3+1) bB);obtain⟨u2,q2⟩:=C6.1 (M.cells (E*3+2) bB);rw [<- EA] at q1 q2;have f0:=M.frozen (off+E*3);have f1:=M.frozen (off+E*3+1);have f2:=M.frozen (off+E*3+2);clear N hbk M hb2 p0 p1 p2;go_wp2;go_roundw;case rel=>
       refine⟨E+1,D+1,K++[x],by go_num,by go_num,by omega,by omega,lH (by rw [Al,O.o];rfl),J,?_⟩;show Hi (Cx (w2.setCells g (off+E*3) x.cells) g off ((K++[x]).flatMap SV.cells))/\Hi (Cx (w2.setCells g (off+E*3) x.cells) g (off+(D+1)*3) _)/\Hi (U5 (w2.setCells g (off+E*3) x.cells) g off (c0*3))/\Hi (D7 B w (w2.setCells g (off+E*3) x.cells));have bp:x.cells.length=3:=rfl;have a4:(K.flatMap SV.cells).length=E*3:=by rw [Ea,O.o]
       refine⟨lH ?_,lH (ao.o.out (.inr bB)),lH (U.o.setCells _ _),lH ((G.o.trans (D7.of_keeps HKC.o bB)).trans (D7.of_one (Bb g _ _ w2) (by have:=HKC.o.size;omega) hg U.o.blk))⟩;rw [BY];refine Cx.app (an.o.out (.inl bB)) ?_;rw [a4];have e : [x].flatMap SV.cells=x.cells:=bA;rw [e];exact Cx.into (fun j hj=>by have:=U.o.cells (E*3+j) bB;rwa [<- EA] at this)
      case measure=>simp [intOf];omega
    ·obtain rfl:D=n:=bB;have bm:=Fw wr g off D c0 E bB bB;have a3:=fun ty=>IM wr ty g (off+E*3) (D - E) (c0 - E) bB (fun j hj=>by
      have:=F.o.cells (E*3+j) bB
      rwa [<- EA] at this) (fun j _=>F.o.frozen _)
     obtain⟨W9,aj⟩:=eX (wr.setCells g (off+E*3) (E0 (D - E)));rw [aj] at a3;have bl:=Lb W9 g off D c0 E bB;have ai:=HKF.o;rw [Ak bL] at ai;have J:=lH ai;have ap:=lH aj;have i2:¬((D:Int)<(D:Int)):=bB;clear ai aj;go_wp2;go_ret;refine⟨pF (some (A_ g off)) E c0,rfl,?_,?_⟩
     ·rw [J.o,<- ap.o]
      refine .inr ⟨g,off,c0,by rw [O.o],hg,F.o.setCells _ _,by rw [O.o];omega,hcm,ah.o.out (.inl (by rw [Ea,O.o];omega))⟩
     ·rw [<- ap.o]
      exact G.o.trans (D7.of_one (Bb g _ _ wr) (by have:=G.o.low.size;omega) hg F.o.blk)
theorem NR(W:World)(g off n cap l h m:Nat)(h0:l<=h)(h1:h<=m)(h2:m<=cap):
  (AV 30 (pF (some (A_ g off)) n cap) (some (I_ (l:Int))) (some (I_ (h:Int))) (some (I_ (m:Int)))).run prog W = .ok (sliced (some (A_ g off)) l h m 3) W:=by
 have B:=run_slice_lhm (P:=prog) W 30 (some (A_ g off)) n cap FE .i64 .i64 .i64 l h m bB bB bB bB;rw [B,FF];rfl
theorem O5(W:World)(g off n cap l h:Nat)(h0:l<=h)(h1:h<=cap)(h2:l<cap):
  (AV 30 (pF (some (A_ g off)) n cap) (some (I_ (l:Int))) (some (I_ (h:Int))) none).run prog W = .ok (pF (some (A_ g (off+l*3))) (h - l) (cap - l)) W:=by
 have B:=run_slice_lh (P:=prog) W 30 (some (A_ g off)) n cap FE .i64 .i64 l h bB bB bB;rw [B,FF];simp [sliced,show ¬cap=l by omega,FL,Bg]
theorem IN(W:World)(g off n cap l:Nat)(h1:l<=n)(h2:n<=cap):
  ∃A:Addr,(AV 30 (pF (some (A_ g off)) n cap) (some (I_ (l:Int))) none none).run prog W = .ok (pF (some A) (n - l) (cap - l)) W/\(l<n->A=(A_ g (off+l*3))):=by
 by_cases h:l<cap
 ·exact⟨_,Fw W g off n cap l h1 h,fun _=>rfl⟩
 ·have B:=run_slice_l (P:=prog) W 30 (some (A_ g off)) n cap FE .i64 l bB bB
  rw [FF] at B;refine⟨(A_ g off),?_,fun hl=>by omega⟩;rw [B];simp [sliced,show cap=l by omega,Bg]
theorem Cf{P:Program}{w:World}{o:Oper}{a:Act}{K:Act->World->Prop}{Q:Exit->Act->World->Prop}(s x:Operand)(t:TypeId)
 (ho:o.op = .call { callee:=.builtin .append,args:=#[s,x],argTypes:=#[t,t] }){d:Nat}(B:o.dst=some d){v u v':Value}{w':World}(hs:a.eval s=v)(hx:a.eval x=u)
 (hr:(BI #[t,t] o.type #[v,u]).run P w = .ok v' w')(h:K (a.put (some d) v') w'):o.wp P a w K Q:=by
 rw [<- B] at h;unfold Oper.wp execOp;simp only [ho,resolve,invoke,builtin,Sem.run_bind,Sem.run_pure,Result.andThen_ok,List.map_toArray,CR,List.map_nil,hs,hx,hr];exact h
theorem Yh(v:Value)(V:List SV)(B:Nat)(hs:V.length<=1000)(i:Nat)(hi:i<V.length)(w:World)(hB:B<=w.heap.size)(hR:Da w B v V):
  Calls prog 198 #[v,I_ (i:Int),I_ ((i:Int)+1)] w fun r w'=>∃v',r = pJ v'/\Da w' B v' (V.eraseIdx i)/\D7 B w w'/\Aa (QB v) w w'/\QB v'=QB v:=by
 rcases hR with⟨_,rfl⟩ | ⟨g,off,cap,rfl,hg,G,Y,ap,U⟩
 ·simp at hi
 obtain⟨n,hn⟩:=eX V.length;rw [hn] at hs hi Y ⊢;obtain⟨i0,ah,aq,aa,ar⟩:=info_parts P3;obtain⟨news,D⟩:=eX ((V.drop (i+1)).flatMap SV.cells);have hnl:news.length=(n - (i+1))*3:=by rw [<- D,Ea,B1,hn]
 have F:V.flatMap SV.cells=(V.take (i+1)).flatMap SV.cells++news:=by rw [<- D,<- BY,Dn]
 have ai:Cx w g (off+(i+1)*3) news:=by
  rw [F] at U;have:=U.right
  rwa [Ea,Ax,DE bB] at this
 obtain⟨A,hA,ab⟩:=IN w g off n cap (i+1) hi Y;have a6:∀W:World,(AV 30 (pF (some (A_ g off)) n cap) (some (I_ ((i:Int)+1))) none none).run prog W = .ok (pF (some A) (n - (i+1)) (cap - (i+1))) W:=fun W=>by
  obtain⟨A',ac,ao⟩:=IN W g off n cap (i+1) hi Y;have e:A'=A:=by
   by_cases h:i+1<cap
   ·have h1:=Fw w g off n cap (i+1) hi h
    have h2:=Fw W g off n cap (i+1) hi h;rw [hA] at h1;rw [ac] at h2;injection h1 with h1 _;injection h1 with h1 _ _;injection h1 with h1
    injection h2 with h2 _;injection h2 with h2 _ _;injection h2 with h2
    rw [h1,h2]
   ·have q1:=run_slice_l (P:=prog) w 30 (some (A_ g off)) n cap FE .i64 (i+1:Nat) bB bB
    have q2:=run_slice_l (P:=prog) W 30 (some (A_ g off)) n cap FE .i64 (i+1:Nat) bB bB;rw [hA,FF] at q1;rw [ac,FF] at q2;simp [sliced,show cap=i+1 by omega,Bg] at q1 q2;rw [q1,q2]
  rw [<- e];exact ac
 have a5:∀W:World,(AV 30 (pF (some (A_ g off)) n cap) none (some (I_ (i:Int))) none).run prog W = .ok (pF (some (A_ g off)) i cap) W:=fun W=>Lb W g off n cap i bB;have hs1:∀W:World,(AV 30 (pF (some (A_ g off)) n cap) (some (I_ (i:Int))) (some (I_ ((i:Int)+1))) (some (I_ (n:Int)))).run prog W = .ok (sliced (some (A_ g off)) i (i+1) n 3) W:=fun W=>NR W g off n cap i (i+1) n bB hi Y;have a7:∀W:World,(AV 30 (pF (some (A_ g off)) (n - 1) cap) (some (I_ ((n - 1:Nat):Int))) (some (I_ (n:Int))) none).run prog W = .ok (pF (some (A_ g (off+(n - 1)*3))) 1 (cap - (n - 1))) W:=fun W=>by
  have:=O5 W g off (n - 1) cap (n - 1) n bB bB bB
  rwa [show n - (n - 1)=1 by omega] at this
 obtain⟨X,hX⟩:=eX (sliced (some (A_ g off)) i (i+1) n 3);rw [hX] at hs1;have N:∀j,j<news.length->(w.cell? (A_ g (off+i*3+j))).isSome=true:=fun j hj=>by
  have:=G.cells (i*3+j) bB
  rwa [<- EA] at this
 have M:∀(k:Nat) (O:TypeId),(BI #[30,30] O #[pF (some (A_ g off)) i cap,pF (some A) (n - (i+1)) (cap - (i+1))]).run prog (w.drewN k) = .ok (pF (some (A_ g off)) (n - 1) cap) ((w.drewN k).setCells g (off+i*3) news):=fun k O=>by
  have aj:Src prog i0.size 30 (pF (some A) (n - (i+1)) (cap - (i+1))) (n - (i+1)) news (w.drewN k):=
   Src.ofSlice _ underlying30 _ _ _ _ (by rw [aa];exact hnl) (fun j u hj=>by
    have a4:=(Ad.1 hj).1;rw [ab bB,FL];exact ai.get hj) (fun u hu=>Pp (V.drop (i+1)) u (by rw [D];exact hu))
  have:=run_append_room_src (P:=prog) (w.drewN k) 30 30 O 43 i0 underlying30 ah g off i cap _ _ _ aj bB (fun j hj=>by rw [aa];exact N j hj) (fun j hj=>G.frozen _);rw [aa,show i+(n - (i+1))=n - 1 by omega] at this;exact this
 have hw1:IntKind.i64.wrap ((i:Int)+1)=(i:Int)+1:=IntWalk.i64_in _ bB;have a3:((i:Int)==(i:Int)+1)=false:=by simp;omega
 have ag:=lH G;have HSP:=lH F;have am:=lH U;have HNL:=lH hnl;have HNW:=lH D;have af:=lH N;have HN:=lH hn;have av:=lH M;obtain⟨W1,T⟩:=eX ((w.drewN 1).setCells g (off+i*3) news);have ad:∀O,(BI #[30,30] O #[pF (some (A_ g off)) i cap,pF (some A) (n - (i+1)) (cap - (i+1))]).run prog w.drew = .ok (pF (some (A_ g off)) (n - 1) cap) W1:=fun O=>by rw [<- T];exact M 1 O
 have E:U5 W1 g off (cap*3):=by rw [<- T];exact(G.same (W':=w.drewN 1) rfl).setCells _ _
 have a2:∀O,(Builtin.clear_ #[30] O #[pF (some (A_ g (off+(n - 1)*3))) 1 (cap - (n - 1))]).run prog W1 = .ok (.tuple #[]) (W1.setCells g (off+(n - 1)*3) (E0 1)):=fun O=>
  IM W1 O g _ 1 _ bB (fun j hj=>by have:=E.cells ((n - 1)*3+j) bB;rwa [<- EA] at this) (fun j _=>E.frozen _)
 have J:=lH E;have HW1:=lH T;clear T E G F U hnl D ai hA ab N M hX hn ah aq aa ar;have an:∃v',pJ (pF (some (A_ g off)) (n - 1) cap) = pJ v'/\Da (W1.setCells g (off+(n - 1)*3) (E0 1)) B v' (V.eraseIdx i)/\D7 B w (W1.setCells g (off+(n - 1)*3) (E0 1))/\Aa (QB (pF (some (A_ g off)) n cap)) w (W1.setCells g (off+(n - 1)*3) (E0 1))/\QB v'=QB (pF (some (A_ g off)) n cap):=by
  have ae:(V.eraseIdx i).length=n - 1:=by rw [List.length_eraseIdx,if_pos (by rw [HN.o];exact hi),HN.o]
  have hz:(E0 1).length=3:=rfl;have ak:((V.take i).flatMap SV.cells).length=i*3:=by rw [Ea,Ax,HN.o,DE bB]
  have hx:Cx W1 g off ((V.eraseIdx i).flatMap SV.cells):=by
   rw [List.eraseIdx_eq_take_drop_succ,BY,HNW.o];have h1:Cx w g off ((V.take i).flatMap SV.cells):=by
    have:=am.o;rw [<- Dn i V,BY] at this;exact this.left
   rw [<- HW1.o];refine Cx.app (Cx.out (W:=w.drewN 1) (h1.same rfl) (.inl (by rw [ak];omega))) ?_;rw [ak];exact Cx.into (W:=w.drewN 1) af.o
  refine⟨_,rfl,.inr ⟨g,off,cap,by rw [ae],hg,J.o.setCells _ _,by rw [ae];omega,ap,hx.out (.inl (by rw [Ea,ae];omega))⟩,?_⟩;have k1:D7 B w (w.drewN 1):=⟨(Below.refl B w).drew,fun _ _ _ h=>h⟩;have k2:D7 B (w.drewN 1) W1:=by rw [<- HW1.o];exact D7.of_one (Bb g _ _ _) hB hg ag.o.blk
  refine⟨(k1.trans k2).trans (D7.of_one (Bb g _ _ W1) (A8 hB (k1.trans k2).low.size) hg J.o.blk),?_,rfl⟩;have q1:Aa [g] w W1:=by rw [<- HW1.o];exact((Aa.refl [g] w).drewN 1).trans (Bb g _ _ _)
  exact q1.trans (Bb g _ _ W1)
 go_enter func198,ntmps198;go_wp2;refine wp_region_held_drew (S:=(fun _:World=>True)) bC trivial (fun hHeld=>?_);refine rQ 0 ?_;refine rQ 1 ?_;refine rQ 2 ?_;refine rQ 3 ?_;refine rQ 4 ?_;refine rQ 5 ?_;refine rC 6 fun K hK=>?_
 (refine Cf _ _ 30 bD bD bD bD (ad _) ?_)
 refine rO hK (trivial) fun hHeld=>?_;clear hK K;refine rQ 7 ?_;refine wpAnyH_done bC ?_ _
 ((try simp only [List.getElem_toArray,List.getElem_cons_succ,List.getElem_cons_zero,Ap,AB,AA]);go_wp2;go_ret;exact an)
theorem Da.tail{W:World}{B:Nat}{v:Value}{V:List SV}(h:Da W B v V)(h1:1<V.length):
  ∃g off cap,v = pF (some (A_ g off)) V.length cap/\1<cap/\Da W B (pF (some (A_ g (off+1*3))) (V.length - 1) (cap - 1)) (V.drop 1):=by
 rcases h with⟨_,rfl⟩ | ⟨g,off,cap,rfl,h2,h3,h4,F,D⟩
 ·simp at h1
 ·refine⟨g,off,cap,rfl,by omega,.inr ⟨g,off+1*3,cap - 1,by rw [B1],h2,⟨h3.blk,fun j hj=>?_⟩,by rw [B1];omega,by omega,?_⟩⟩
  ·have:=h3.cells (1*3+j) bB
   rwa [<- EA] at this
  ·have:=D
   rw [<- Dn 1 V,BY] at this;have E:=this.right
   rwa [Ea,Ax,DE bB] at E
theorem Mt.filter{w:World}(now:Int):∀ {V:List SV} {L:List Sn},Mt w V L->Mt w (V.filter (Ei now)) (L.filter (Fs now))
 | [],[],_=>trivial
 | v::V,s::L,h=>by
  have e:Ei now v=Fs now s:=by unfold Ei Fs;rw [h.1.2.1]
  rw [List.filter_cons,List.filter_cons,e];split
  ·exact⟨h.1,Mt.filter now h.2⟩
  ·exact Mt.filter now h.2
 | [],_::_,h=>h.elim
 | _::_,[],h=>h.elim
theorem Mt.used{w:World}{Q:Int->Prop}: ∀ {V:List SV} {L:List Sn},Mt w V L->(∀s∈L,Q s.used)->∀x∈V,Q x.used
 | v::V,s::L,h,hq,x,hx=>by
  rcases Ac.1 hx with rfl | hx
  ·rw [h.1.2.1];exact hq s bA
  ·exact Mt.used h.2 (fun s hs=>hq s (by simp [hs])) x hx
 | [],_,_,_,_,hx=>by cases hx
 | _::_,[],h,_,_,_=>h.elim
theorem Ld:∀(L:List Sn) (last:Int),BV last L=true->0<=last->∀s∈L,0<=s.used/\s.used<=1000000000000
 | s::L,last,h,h0,x,hx=>by
  simp only [BV,Hy,Af,decide_eq_true_eq] at h;rcases Ac.1 hx with rfl | hx
  ·omega
  ·exact Ld L s.used h.2 bB x hx
 | [],_,_,_,_,hx=>by cases hx
theorem S2{p:Po}(h:Ej p=true):(∀s∈p.l,0<=s.used/\s.used<=1000000000000)/\0<=EQ p.l:=by
 have hs:BV 0 p.l=true:=by
  simp only [Ej,Af] at h;exact h.1.2
 have B:=Ld p.l 0 hs (Int.le_refl _);refine⟨B,?_⟩;unfold EQ;cases hl:p.l.getLast? with
 | none=>simp
 | some s=>
  have:=B s (List.mem_of_getLast? hl);simp;omega
theorem LX{p:Po}{now:Int}(h:Db p now=true):(∀s∈p.l,Ha s.used)/\Ha now/\0<=now:=by
 have h2:=Ik h;have hr:Ej p=true:=by
  simp only [Db,Af] at h;exact h.1.1
 obtain⟨h3,h4⟩:=S2 hr;refine⟨fun s hs=>?_,?_,by omega⟩
 ·have:=h3 s hs
  exact⟨by omega,by omega⟩
 ·exact⟨by omega,by omega⟩
theorem Zj{p:Po}{xs:List ByteArray}{now:Int}(h:(Db p now&&Dd xs&&decide (p.next<1000000000000))=false):IV p xs now=(Uf,0,160):=by
 unfold IV;rw [h];rfl
theorem dJ{p:Po}{xs:List ByteArray}{now:Int}(h:(Db p now&&Dd xs&&decide (p.next<1000000000000))=true):IV p xs now=(⟨JO p.l now++[⟨p.next,xs,now⟩],p.next+1⟩,p.next,0):=by
 unfold IV;rw [h];rfl
theorem JE(w:World):BP w none 0 [] Uf:=⟨Aw _,by simp,fun h=>absurd rfl h,trivial⟩
def aO(w:World)(q:Po)(cur err:Int)(r:Ending)(w':World):Prop:=
 ∃a n c V,r = pJ (.tuple #[pH #[pF a n c,pE pK q.next],pE pK cur,pE pK err])/\V.length=n/\BP w' a c V q/\Aa [] w w'
def OA(w:World)(q:Po)(cur err:Int)(r:Ending)(w':World):Prop:=
 ∃a n c V,r = pJ (.tuple #[pH #[pF a n c,pE pK q.next],pE pK cur,pE pK err])/\V.length=n/\BP w' a c V q/\Aa [] w w'/\∀x∈V,SO w.heap.size x
theorem OA.plain{w:World}{q:Po}{cur err:Int}{r:Ending}{w':World}(h:OA w q cur err r w'):aO w q cur err r w':=by
 obtain⟨a,n,c,V,h1,h2,h3,h4,_⟩:=h;exact⟨a,n,c,V,h1,h2,h3,h4⟩
theorem aO.fresh0{w:World}{cur err:Int}{r:Ending}{w':World}(h:aO w Uf cur err r w'):OA w Uf cur err r w':=by
 obtain⟨a,n,c,V,h1,h2,h3,h4⟩:=h;obtain rfl:V = []:=Ds h3.mt.len;exact⟨a,n,c,_,h1,h2,h3,h4,fun x hx=>by cases hx⟩
theorem dK(a:Option Addr)(c:Nat)(V:List SV)(p:Po)(n:Nat)(hn:V.length=n)(N:Option Addr)(O m:Nat)(xs:List ByteArray)(hm:xs.length=m)(now:Int)(w:World)(hP:BP w a c V p)(hI:Cy w N O xs)(e:Nat->Addr)(he:M1 w e)
 (B:(Db p now&&Dd xs&&decide (p.next<1000000000000))=false):
  Calls prog 161 #[pH #[pF a n c,I_ p.next],pF N m O,I_ now] w (aO w Uf 0 160):=by
 obtain⟨x,hx⟩:=eX p.next;obtain⟨y,hy⟩:=eX (Db p now);obtain⟨z,hz⟩:=eX (Dd xs);rw [hy,hz,hx] at B;have D:=fun W (hk:Aa [] w W)=>L6 a c V p n hn now W (hP.keeps hk) e (he.keep hk) y hy;have E:=fun W (hk:Aa [] w W)=>Gk N O xs z hz W (hI.at_.keeps hk) hI.small hI.size;rw [hm] at E;rw [hx] at D ⊢;have aa:=hI.small;have J:=lH D;have M:=lH E;have HE:=lH he;have hk0:=(((Aa.refl [] w).alloc (.cells #[pF a n c,I_ x] 32)).alloc (.cells #[pE pK now] 3)).alloc (.cells #[pF none 0 0,I_ 0] 32);have HK:=lH hk0;have hb0:Blk (((w.alloc (.cells #[pF a n c,I_ x] 32)).alloc (.cells #[pE pK now] 3)).alloc (.cells #[pF none 0 0,I_ 0] 32)) w 32 #[pF a n c,I_ x]:=((Blk.new w _ _).alloc _).alloc _;have hb1:Blk (((w.alloc (.cells #[pF a n c,I_ x] 32)).alloc (.cells #[pE pK now] 3)).alloc (.cells #[pF none 0 0,I_ 0] 32)) (w+1) 3 #[pE pK now]:=(Ar _ _ _ _ bA).alloc _;have hb2:Blk (((w.alloc (.cells #[pF a n c,I_ x] 32)).alloc (.cells #[pE pK now] 3)).alloc (.cells #[pF none 0 0,I_ 0] 32)) (w+1+1) 32 #[pF none 0 0,I_ 0]:=Ar _ _ _ _ bA;have HB0:=lH hb0;have HB2:=lH hb2;clear D E he hk0 hP hI hx hy hz hn hm hb0 hb1 hb2;go_enter func161,ntmps161;go_wp2_with fail;refine(J.o _ HK.o).mono ?_;rintro r w1 ⟨rfl,hk⟩;have HB0:=lH (HB0.o.keeps hk bA);have HB2:=lH (HB2.o.keeps hk bA);have HK:=lH (HK.o.trans hk);clear hk;cases y with
 | false=>
  have X:=(HE.o.keep HK.o).c0;unfold Jj;go_wp2_with fail;refine(JD (some 0) e bA _ (HE.o.keep HK.o) 160 rfl).mono ?_;rintro r w2 ⟨rfl,rfl⟩;have T:=HB2.o.cell 0;have U:=HB2.o.cell 1;have Y:=HB2.o.frozen 0;have f1:=HB2.o.frozen 1;have HBF:=lH ((HB2.o.set_ 0 (pF none 0 0)).set_ 1 (I_ 0));have HKF:=lH ((HK.o.setCell (p:=A2 w 0) (.inr bH) (pF none 0 0)).setCell (p:=A2 w 1) (.inr bH) (I_ 0));go_wp2;have F:_=some (pF none 0 0):=HBF.o.cell 0;have G:_=some (pE .i64 0):=HBF.o.cell 1;refine bodyPost_ret (v:=.tuple #[pH #[pF none 0 0,I_ 0],I_ 0,I_ 160]) (by simp [results,results161,go_sem,F,G]) rfl ?_;exact⟨none,0,0,[],rfl,rfl,JE _,HKF.o⟩
 | true=>
  unfold Jj;go_wp2_with fail;refine(M.o _ HK.o).mono ?_;rintro r w2 ⟨rfl,hk⟩;have HB0:=lH (HB0.o.keeps hk bA);have HB2:=lH (HB2.o.keeps hk bA);have HK:=lH (HK.o.trans hk);clear hk;cases z with
  | false=>
   have X:=(HE.o.keep HK.o).c0;go_wp2_with fail;refine(JD (some 0) e bA _ (HE.o.keep HK.o) 160 rfl).mono ?_;rintro r w2 ⟨rfl,rfl⟩;have T:=HB2.o.cell 0;have U:=HB2.o.cell 1;have Y:=HB2.o.frozen 0;have f1:=HB2.o.frozen 1;have HBF:=lH ((HB2.o.set_ 0 (pF none 0 0)).set_ 1 (I_ 0));have HKF:=lH ((HK.o.setCell (p:=A2 w 0) (.inr bH) (pF none 0 0)).setCell (p:=A2 w 1) (.inr bH) (I_ 0));go_wp2;have F:_=some (pF none 0 0):=HBF.o.cell 0;have G:_=some (pE .i64 0):=HBF.o.cell 1;refine bodyPost_ret (v:=.tuple #[pH #[pF none 0 0,I_ 0],I_ 0,I_ 160]) (by simp [results,results161,go_sem,F,G]) rfl ?_;exact⟨none,0,0,[],rfl,rfl,JE _,HKF.o⟩
  | true=>
   have hx:(1000000000000:Int)<=x:=by simpa using B
   have p1:_=some (pE .i64 x):=HB0.o.cell 1;clear B;have X:=(HE.o.keep HK.o).c0;go_wp2_with fail;refine(JD (some 0) e bA _ (HE.o.keep HK.o) 160 rfl).mono ?_;rintro r w2 ⟨rfl,rfl⟩;have T:=HB2.o.cell 0;have U:=HB2.o.cell 1;have Y:=HB2.o.frozen 0;have f1:=HB2.o.frozen 1;have HBF:=lH ((HB2.o.set_ 0 (pF none 0 0)).set_ 1 (I_ 0));have HKF:=lH ((HK.o.setCell (p:=A2 w 0) (.inr bH) (pF none 0 0)).setCell (p:=A2 w 1) (.inr bH) (I_ 0));go_wp2;have F:_=some (pF none 0 0):=HBF.o.cell 0;have G:_=some (pE .i64 0):=HBF.o.cell 1;refine bodyPost_ret (v:=.tuple #[pH #[pF none 0 0,I_ 0],I_ 0,I_ 160]) (by simp [results,results161,go_sem,F,G]) rfl ?_;exact⟨none,0,0,[],rfl,rfl,JE _,HKF.o⟩
end
end Go.Proofs.YtncebikgoleolaaGreatDoor
