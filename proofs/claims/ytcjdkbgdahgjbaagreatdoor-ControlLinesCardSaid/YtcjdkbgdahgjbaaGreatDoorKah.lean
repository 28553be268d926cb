/- Steps of the proof: RegC, MemQ, Cln, SloE, SloD, Eql. -/
import Derived.Test.YtcjdkbgdahgjbaaGreatDoorK0
import Derived.Test.YtcjdkbgdahgjbaaGreatDoorKaa
import Derived.Test.YtcjdkbgdahgjbaaGreatDoorKad
import Derived.Test.YtcjdkbgdahgjbaaGreatDoorKag
import Derived.Test.YtcjdkbgdahgjbaaGreatDoorKak
import Derived.Test.YtcjdkbgdahgjbaaGreatDoorKbc
import Derived.Deep.RegionHeld3
import Derived.Lib.SliceRun
import Derived.Deep.DeepCutAuto
import Derived.Laws.IdiomCopy
import Derived.Test.YtcjdkbgdahgjbaaGreatDoorChecked
set_option maxRecDepth 100000
set_option maxHeartbeats 8000000
set_option linter.all false
namespace Go.Proofs.YtcjdkbgdahgjbaaGreatDoor
open _root_.Array renaming replicate_succ→Bc,replicate_zero→Bd
open _root_.Bool renaming and_eq_true→Af
open Builtin renaming copy_→DH
open Ending renaming returned→dM
open IntKind renaming i64→dN
open Lib renaming run_eql_slice_nil→A2
open _root_.List renaming append_toArray→B0,cons_append→A6,getD_eq_getElem?_getD→AE,getElem?_cons_zero→Ah,getElem?_eq_getElem→Au,length_append→Ag,length_cons→Ao,length_map→BX,length_nil→Eh,length_range→A8,length_singleton→AW,mem_append→AF,mem_cons→Ac,mem_map→Ee,mem_of_getElem?→Ex,mem_singleton→Am,nil_append→AX,not_mem_nil→Ab,push_toArray→By,range→A0,size_toArray→Cx,take_of_length_le→Ax
open _root_.Nat renaming add_zero→CG,le_refl→Ap,le_trans→As,lt_of_lt_of_le→AT,zero_add→BI,zero_le→Cy
open Value renaming agg→dK,bool→dL,int→dH,pointer→dJ,slice→dI,string→CZ
open World renaming block_lt_of_cell?→A4,ownsRow_nil→Bz
section
open Go.RowKit Go.Shelf
attribute [local go_sem] Oper.semAt_some
attribute [local go_sem ↓] Go.wp_at_zero Go.wp_at_succ
structure Yo(w:World)(v:Bm)(gn un fn ln:Nat)(seq:Int)(name:ByteArray)(A:World):Prop where
 nb:Blk A (w.heap.size+1) 9 #[CZ name]
 c4:Blk A (w.heap.size+1+1) 3 #[dH dN 0]
 c5:Blk A (w.heap.size+1+1+1) 4 #[dL false]
 pb:Blk A (w.heap.size+1+1+1+1) 29 (R_ v gn un fn ln seq)
 kw:Aa [] w A
theorem Yo.keeps{w:World}{v:Bm}{gn un fn ln:Nat}{seq:Int}{name:ByteArray}{A A':World}{S:List Nat}(h:Yo w v gn un fn ln seq name A)(hk:Aa S A A')(hS:∀y∈S,w.heap.size+4<y):Yo w v gn un fn ln seq name A':=
 have hn:∀y,y≤w.heap.size+4→y∉S:=fun y hy hm=>by have:=hS y hm;omega
 ⟨h.nb.keeps hk (hn _ bB),h.c4.keeps hk (hn _ bB),h.c5.keeps hk (hn _ bB),h.pb.keeps hk (hn _ bB),h.kw.own hk bM⟩
structure Zf(w:World)(k:Nat)(A:World):Prop where
 c4:Blk A (w.heap.size+1+1) 3 #[dH dN (k:Int)]
 c5:Blk A (w.heap.size+1+1+1) 4 #[dL true]
 kw:Aa [] w A
theorem Zf.keeps{w:World}{k:Nat}{A A':World}{S:List Nat}(h:Zf w k A)(hk:Aa S A A')(hS:∀y∈S,w.heap.size+3<y):Zf w k A':=
 have hn:∀y,y≤w.heap.size+3→y∉S:=fun y hy hm=>by have:=hS y hm;omega
 ⟨h.c4.keeps hk (hn _ bB),h.c5.keeps hk (hn _ bB),h.kw.own hk bM⟩
def Zd(lv:List TV)(name:ByteArray)(k:Nat):Prop:=∀j<k,∀t,lv[j]? = some t→t.name≠name
theorem Lu{w:World}: ∀ {V:List TV} {L:List Ten} (name:ByteArray),AC w V L→Zd V name V.length→BO L name=none
 | [],[],_,_,_=>rfl
 | v::V,t::L,name,h,hn=>by
  unfold BO;rw [List.findIdx?_cons];have h1:=hn 0 bA v rfl;rw [h.1.name] at h1;rw [if_neg bR];have:=Lu (V:=V) (L:=L) name h.2 (fun j hj t ht=>hn (j+1) (by simpa using hj) t (by simpa using ht));unfold BO at this;rw [this];rfl
 | [],_::_,_,h,_=>h.elim
 | _::_,[],_,h,_=>h.elim
theorem OY{w:World}: ∀ {V:List TV} {L:List Ten} (name:ByteArray) (k:Nat) (u:TV),AC w V L→Zd V name k→V[k]? = some u→u.name=name→BO L name=some k
 | v::V,t::L,name,0,u,h,_,hu,hn=>by
  unfold BO;rw [List.findIdx?_cons];simp only [Ah,Option.some.injEq] at hu;subst hu;rw [if_pos (by rw [← h.1.name,hn];simp)]
 | v::V,t::L,name,k+1,u,h,hN,hu,hn=>by
  unfold BO;rw [List.findIdx?_cons];have h1:=hN 0 bB v rfl;rw [h.1.name] at h1;rw [if_neg bR];have:=OY (V:=V) (L:=L) name k u h.2 (fun j hj t ht=>hN (j+1) bB t (by simpa using ht)) (by simpa using hu) hn;unfold BO at this;rw [this];rfl
 | [],[],_,_,_,_,_,hu,_=>by simp at hu
 | [],_::_,_,_,_,h,_,_,_=>h.elim
 | _::_,[],_,_,_,h,_,_,_=>h.elim
theorem MK(v:Bm)(r:CE)(gn un fn ln:Nat)(hln:v.lv.length=ln)(h1000:ln≤1000)(seq:Int)(hsq:r.seq=seq)(name:ByteArray)(w:World)(hl:AJ BM 8 w v.la v.lc v.lv)(ht:AC w v.lv r.l):
  Calls Tryz.prog 195 #[dK (R_ v gn un fn ln seq),CZ name] w fun x w'=>x = dM (.tuple #[dH dN (((BO r.l name).getD 0:Nat):Int),dL (BO r.l name).isSome])∧Aa [] w w':=by
 subst hsq;obtain⟨seq,hseq⟩:=eX (r.seq);have htn:=fun W=>ET v r gn un fn ln W;rw [hseq] at htn ⊢;refine(callsIn_wide (n:=9)).1 ?_;have HL:=lH hl;have HT:=lH ht;have HLN:=lH hln;have HTN:=lH htn;clear hl ht hln htn hseq;refine callsIn_of_wp_marks Tryz.func195 rfl trivial ?_ rfl;simp only [Tryz.ntmps195,Cx,Ao,Eh,Nat.reduceAdd,Nat.reduceSub,Bc,Bd,By,B0,AX,A6];gi_wp2_with (fail);refine⟨trivial,(callsIn_wide.2 (HTN.out _)).mono ?_⟩;rintro e w1 ⟨rfl,hw1⟩;gi_wp2_with (fail);have hsz:w1.heap.size=w.heap.size+5:=by rw [← hw1];simp
 have hI0:Yo w v gn un fn ln seq name w1:=by
  have hk:Aa [] w w1:=by rw [← hw1];exact(((((Aa.refl [] w).alloc _).alloc _).alloc _).alloc _).alloc _
  refine⟨?_,?_,?_,?_,hk⟩<;>rw [← hw1]
  ·exact(((Aq _ _ _ _ bA).alloc _).alloc _).alloc _
  ·exact((Aq _ _ _ _ bA).alloc _).alloc _
  ·exact(Aq _ _ _ _ bA).alloc _
  ·exact Aq _ _ _ _ bA
 have HI0:=lH hI0;clear hI0 hw1;refine Bx rfl bB (gf:=101) (lb:=#[dJ (some ⟨w.heap.size+1+1+1+1,0,none⟩)]) rfl trivial (enters_of Tryz.func101 bC rfl) (EU 8 (w.heap.size+1+1+1+1) v.la v.lc ln v.lv HLN.out h1000 seq) (fun _=>rfl)
  (fun pre A=>Zd v.lv name pre.length∧Yo w v gn un fn ln seq name A) (fun _ A=>∃k,BO r.l name=some k∧Zf w k A)
  (fun pre A A' h hk=>⟨h.1,h.2.keeps hk bF⟩)
  (fun pre A A' h hk=>by
   obtain⟨k,h1,h2⟩:=h;exact⟨k,h1,h2.keeps hk bF⟩)
  (fun pre A h=>⟨h.2.pb.cell 3,h.2.pb.cell 4,HL.out.keeps h.2.kw⟩) ⟨fun j hj=>by simp at hj,HI0.out⟩
  (fun k W=>(fun u:TV=>(({ tmps:=#[dK (R_ v gn un fn ln seq),CZ name,dJ (some ⟨w,0,none⟩),dJ (some ⟨w.heap.size+1,0,none⟩),dJ (some ⟨w.heap.size+1+1,0,none⟩),dJ (some ⟨w.heap.size+1+1+1,0,none⟩),dH dN (k:Int),dJ (some ⟨W,0,none⟩),dK (R_ v gn un fn ln seq),
     .func (.func 101) #[] #[dJ (some ⟨w.heap.size+1+1+1+1,0,none⟩)],dH dN (k:Int),dK (U_ u seq),undef,undef,undef,undef,undef,undef],defers:=[] } : Act),W.alloc (.cells (U_ u seq) 126))) (v.lv.getD k tv0))
  (fun k W=>(Aa.refl [] W).alloc _) ?assign ?body ?done ?stop
 case assign=>
  intro l k W K hK;simp only [JV];dsimp only at hK;generalize v.lv.getD k tv0=u at hK ⊢;gi_wp2;exact hK
 case body=>
  rintro l pre k W W2 ⟨hN,hI⟩ hpre hsz2 hk2;obtain⟨rfl,hkn⟩:=DN hpre;obtain⟨u,hu⟩:∃u,v.lv[k]? = some u:=⟨_,Au Yf⟩;have hgd:v.lv.getD k tv0=u:=by rw [AE,hu];rfl
  dsimp only at hk2 ⊢;rw [hgd] at hk2 ⊢;rw [A8] at hN;have hszW:W.heap.size≤W2.heap.size:=by have:=hk2.size;rw [World.size_alloc] at this;omega
  have hI2:=(hI.keeps ((Aa.refl [] W).alloc (.cells (U_ u seq) 126)) bA).keeps hk2 bF;have hb:=(Blk.new W 126 (U_ u seq)).keeps hk2 bI;have d2:=hb.ce 2;have q1:=hI2.nb.ce 0;have q4:=hI2.c4.ce 0;have q5:=hI2.c5.ce 0;have f4:=hI2.c4.frozen 0;have f5:=hI2.c5.frozen 0;have HI2:=lH hI2;have HU:=lH hu;have HN:=lH hN;clear hI hpre hk2 hI2 hb hgd hu hN;by_cases hnm:u.name=name
  ·have heq:(u.name.toList==name.toList)=true:=by rw [hnm];simp
   have HPL:Hid (BO r.l name=some k):=lH (OY name k u HT.out HN.out HU.out hnm);clear hnm;gi_wp2;have hk3:Aa [w.heap.size+1+1,w.heap.size+1+1+1] W2 ((W2.setCell ⟨w.heap.size+1+1,0,none⟩ (dH dN (k:Int))).setCell ⟨w.heap.size+1+1+1,0,none⟩ (dL true)):=((Aa.refl _ W2).setCell (p:=⟨w.heap.size+1+1,0,none⟩) (.inl bA) _).setCell (p:=⟨w.heap.size+1+1+1,0,none⟩) (.inl bA) _;refine⟨hk3.size,fun y hy=>hk3.block y Y5 Yc,k,HPL.out,?_,?_,HI2.out.kw.own hk3 bF⟩
   ·exact(HI2.out.c4.set_ 0 (dH dN (k:Int))).far bA _
   ·exact(HI2.out.c5.far bA _).set_ 0 (dL true)
  ·have heq:(u.name.toList==name.toList)=false:=by simpa using Kw hnm
   have HN2:Hid (Zd v.lv name (A0 k++[k]).length):=lH (by
    rw [Ag,A8,AW];intro j hj t hjt;rcases Nat.lt_or_ge j k with h | h
    ·exact HN.out j h t hjt
    ·obtain rfl:j=k:=by omega
     rw [HU.out] at hjt;injection hjt with hjt
     rw [← hjt];exact hnm)
   clear hnm;gi_wp2;exact⟨Ap _,fun _ _=>rfl,HN2.out,HI2.out⟩
 case done=>
  rintro W ⟨hN,hI⟩ hsz2 hK;rw [A8] at hN;have HPL:Hid (BO r.l name=none):=lH (Lu name HT.out (by rw [HLN.out];exact hN));have q4:=hI.c4.ce 0;have q5:=hI.c5.ce 0;have f4:=hI.c4.frozen 0;have f5:=hI.c5.frozen 0;have HI:=lH hI;clear hI hN;gi_wp2;obtain⟨WF,hWF⟩:=eX ((W.setCell ⟨w.heap.size+1+1,0,none⟩ (dH dN 0)).setCell ⟨w.heap.size+1+1+1,0,none⟩ (dL false));have hk3:Aa [w.heap.size+1+1,w.heap.size+1+1+1] W WF:=by rw [← hWF];exact((Aa.refl _ W).setCell (p:=⟨w.heap.size+1+1,0,none⟩) (.inl bA) _).setCell (p:=⟨w.heap.size+1+1+1,0,none⟩) (.inl bA) _
  have d2:Blk WF (w.heap.size+1+1) 3 #[dH dN 0]:=by rw [← hWF];exact(HI.out.c4.set_ 0 (dH dN 0)).far bA _
  have d3:Blk WF (w.heap.size+1+1+1) 4 #[dL false]:=by rw [← hWF];exact(HI.out.c5.far bA _).set_ 0 (dL false)
  rw [hWF];have hK1:WF.heap[w1.heap.size]? = some (.deferred (some [])):=(hk3.block _ bB bI).trans hK;refine⟨by simp,.inl ⟨_,_,rfl,run_takeDeferred hK1,?_⟩⟩;have hk4:=Az (S:=[w1.heap.size]) WF (.deferred none) (l:=w1.heap.size) bA;have e2:=(d2.keeps hk4 bG).ce 0;have e3:=(d3.keeps hk4 bG).ce 0;refine⟨.tuple #[dH dN 0,dL false],by simp [results,Tryz.results195,go_sem,e2,e3],?_⟩;rw [HPL.out];exact⟨rfl,(HI.out.kw.own hk3 bF).own hk4 bF⟩
 case stop=>
  rintro pre W hpre ⟨k,hpl,hX⟩ hsz2 hK;have HX:=lH hX;have HPL:=lH hpl;clear hX hpl;gi_wp2;refine⟨by simp,.inl ⟨_,_,rfl,run_takeDeferred hK,?_⟩⟩;have hk4:=Az (S:=[w1.heap.size]) W (.deferred none) (l:=w1.heap.size) bA;have e2:=(HX.out.c4.keeps hk4 bG).ce 0;have e3:=(HX.out.c5.keeps hk4 bG).ce 0;refine⟨.tuple #[dH dN (k:Int),dL true],by simp [results,Tryz.results195,go_sem,e2,e3],?_⟩;rw [HPL.out];exact⟨rfl,HX.out.kw.own hk4 bF⟩
end
section
open Go.RowKit
theorem AJ.keepsS{α:Type}{enc:α→List Value}{n:Nat}{w w':World}{a:Option Addr}{c:Nat}{xs:List α}{S:List Nat}(h:AJ enc n w a c xs)(hk:Aa S w w')(hS:∀g off,a=some ⟨g,off,none⟩→g∉S):AJ enc n w' a c xs:=
 ⟨h.le,h.nil,fun h0=>by
  obtain⟨g,off,ha,hg,hc⟩:=h.at_ h0;exact⟨g,off,ha,AT hg hk.size,fun i hi j u hj=>(hk.cell (p:=⟨g,off+i*n+j,none⟩) hg (hS g off ha)).trans (hc i hi j u hj)⟩⟩
theorem Blk.put3{w:World}{g:Nat}{t:TypeId}{x0 x1 x2:Value}(h:Blk w g t #[x0,x1,x2])(a b c:Value):Blk (((w.setCell ⟨g,0,none⟩ a).setCell ⟨g,1,none⟩ b).setCell ⟨g,2,none⟩ c) g t #[a,b,c]:=((h.set_ 0 a).set_ 1 b).set_ 2 c
theorem Ae(w:World)(g i:Nat)(a:Value):Aa [g] w (w.setCell ⟨g,i,none⟩ a):=(Aa.refl [g] w).setCell (p:=⟨g,i,none⟩) (.inl bA) _
theorem F1(w:World)(g:Nat)(a b c:Value):Aa [g] w (((w.setCell ⟨g,0,none⟩ a).setCell ⟨g,1,none⟩ b).setCell ⟨g,2,none⟩ c):=((Ae w g 0 a).trans (Ae _ g 1 b)).trans (Ae _ g 2 c)
theorem Em{w:World}{B:Nat}{e:TypeId}{sz:Nat}{v:Value}{n:Nat}{xs:List Value}(h:w.ownsRow B e sz v n xs){x:Nat}(hx:v.ownBlock=some x):∃cs,Blk w x e cs:=by
 rcases h.2 with⟨rfl,_⟩ | ⟨g,cap,cur,rfl,_,hg,_⟩
 ·cases hx
 ·injection hx with hx
  exact⟨cur,by rw [← hx];exact hg⟩
theorem C9{w:World}{B:Nat}{e t:TypeId}{sz:Nat}{v:Value}{n g:Nat}{xs:List Value}{cs:Array Value}(h:w.ownsRow B e sz v n xs)(hb:Blk w g t cs)(hne:e≠t):∀x,v.ownBlock=some x→x≠g:=fun x hx e1=>by
 obtain⟨c2,h2⟩:=Em h hx;subst e1;unfold Blk at hb h2;rw [h2] at hb;injection hb with hb;injection hb with _ hb _
 exact hne hb
theorem ER{w:World}{B B2:Nat}{e e2:TypeId}{sz sz2:Nat}{v v2:Value}{n n2:Nat}{xs xs2:List Value}(h:w.ownsRow B e sz v n xs)(h2:w.ownsRow B2 e2 sz2 v2 n2 xs2)(hne:e≠e2):∀x y,v.ownBlock=some x→v2.ownBlock=some y→x≠y:=fun x y hx hy=>by
 obtain⟨cs,hb⟩:=Em h2 hy;exact C9 h hb hne x hx
theorem AJ.of_blk{α:Type}{f:α→Value}{enc:α→List Value}(he:∀x,enc x = [f x]){w:World}{g:Nat}{t:TypeId}{L:List α}{n:Nat}(hn:L.length=n)(h:Blk w g t (L.map f).toArray):AJ enc 1 w (some ⟨g,0,none⟩) n L:=
 ⟨by omega,(fun e=>by cases e),fun _=>⟨g,0,rfl,h.lt,fun i hi j u hj=>by
  rw [he] at hj;cases j with
  | succ j=>simp at hj
  | zero=>
   simp only [Ah,Option.some.injEq] at hj;rw [h.cell];simp [← hj,hi]⟩⟩
def GV(B:Nat)(v:D3):Prop:=(∀g o,v.ga=some ⟨g,o,none⟩→B≤g)∧(∀g o,v.ua=some ⟨g,o,none⟩→B≤g)∧(∀g o,v.fa=some ⟨g,o,none⟩→B≤g)
def CS(B:Nat)(w:World)(s:Ff)(x:Value):Prop:=∃v gn un fn,x = dK (S_ v gn un fn)∧s.gens.length=gn∧s.used.length=un∧s.free.length=fn∧Dp w v s∧GV B v
theorem Dp.zero(w:World):Dp w ⟨none,0,none,0,none,0⟩ DF:=⟨.none_,.none_,.none_,by decide,by decide,by decide⟩
theorem CS.zero(B:Nat)(w:World):CS B w DF (.agg Hu.k):=⟨⟨none,0,none,0,none,0⟩,0,0,0,rfl,rfl,rfl,rfl,Dp.zero w,(fun _ _ e=>by cases e),(fun _ _ e=>by cases e),(fun _ _ e=>by cases e)⟩
end
section
open Go.RowKit Go.Shelf
attribute [local go_sem ↓] Go.wp_at_zero Go.wp_at_succ
theorem Sf:Dj (Tryz.prog.info? 3) 1=true:=by kernel_rfl
theorem Np(a:Option Addr)(c:Nat)(xs:List Int)(n:Nat)(hn:xs.length=n)(hL:n≤1000000)(w:World)(h:AJ EY 1 w a c xs):
  Calls Tryz.prog 139 #[dI a n c] w fun r w'=>∃a' c',r = dM (.slice a' n c')∧AJ EY 1 w' a' c' xs∧w'.ownsRow w.heap.size 3 1 (.slice a' n c') n (xs.flatMap EY)∧Aa [] w w':=by
 cases a with
 | none=>
  obtain⟨rfl,rfl⟩:=h.isNil;subst hn;have h0:Calls Tryz.prog 139 #[dI none 0 0] w fun r w'=>r = dM (dI none 0 0)∧w=w':=by
   have hq:=fun W=>A2 (P:=Tryz.prog) W _ _ none 0 0 0 0 Tryz.underlying23;go_enter Tryz.func139,Tryz.ntmps139;go_wp2;go_ret;exact⟨rfl,rfl⟩
  refine h0.mono ?_;rintro r w' ⟨rfl,rfl⟩;exact⟨none,0,rfl,h,Bz _ _ _ _,Aa.refl [] w⟩
 | some p=>
  obtain⟨a',c',w',hr,hs,ho,hk⟩:=AJ.clone_run Tryz.prog Tryz.underlying23 Sf bE DZ IU h bB 23;rw [hn] at hr ho;have HS:=lH hs;have HO:=lH ho;have HK:=lH hk;clear h hs ho hk;have h0:Calls Tryz.prog 139 #[dI (some p) n c] w fun r w1=>r = dM (.slice a' n c')∧w'=w1:=by
   clear HS HK HO;have hq:=fun W=>A2 (P:=Tryz.prog) W _ _ (some p) n c 0 0 Tryz.underlying23;go_enter Tryz.func139,Tryz.ntmps139;go_wp2_with (at_builtin;refine Ar _ rfl _ _ 23 rfl rfl rfl hr ?_);go_ret;exact⟨rfl,rfl⟩
  refine h0.mono ?_;rintro r w1 ⟨rfl,rfl⟩;exact⟨a',c',rfl,HS.out,HO.out,HK.out⟩
theorem PW:Dj (Tryz.prog.info? 4) 1=true:=by kernel_rfl
theorem Of(a:Option Addr)(c:Nat)(xs:List Bool)(n:Nat)(hn:xs.length=n)(hL:n≤1000000)(w:World)(h:AJ KN 1 w a c xs):
  Calls Tryz.prog 140 #[dI a n c] w fun r w'=>∃a' c',r = dM (.slice a' n c')∧AJ KN 1 w' a' c' xs∧w'.ownsRow w.heap.size 4 1 (.slice a' n c') n (xs.flatMap KN)∧Aa [] w w':=by
 cases a with
 | none=>
  obtain⟨rfl,rfl⟩:=h.isNil;subst hn;have h0:Calls Tryz.prog 140 #[dI none 0 0] w fun r w'=>r = dM (dI none 0 0)∧w=w':=by
   have hq:=fun W=>A2 (P:=Tryz.prog) W _ _ none 0 0 0 0 Tryz.underlying24;go_enter Tryz.func140,Tryz.ntmps140;go_wp2;go_ret;exact⟨rfl,rfl⟩
  refine h0.mono ?_;rintro r w' ⟨rfl,rfl⟩;exact⟨none,0,rfl,h,Bz _ _ _ _,Aa.refl [] w⟩
 | some p=>
  obtain⟨a',c',w',hr,hs,ho,hk⟩:=AJ.clone_run Tryz.prog Tryz.underlying24 PW bE KO Us h bB 24;rw [hn] at hr ho;have HS:=lH hs;have HO:=lH ho;have HK:=lH hk;clear h hs ho hk;have h0:Calls Tryz.prog 140 #[dI (some p) n c] w fun r w1=>r = dM (.slice a' n c')∧w'=w1:=by
   clear HS HK HO;have hq:=fun W=>A2 (P:=Tryz.prog) W _ _ (some p) n c 0 0 Tryz.underlying24;go_enter Tryz.func140,Tryz.ntmps140;go_wp2_with (at_builtin;refine Ar _ rfl _ _ 24 rfl rfl rfl hr ?_);go_ret;exact⟨rfl,rfl⟩
  refine h0.mono ?_;rintro r w1 ⟨rfl,rfl⟩;exact⟨a',c',rfl,HS.out,HO.out,HK.out⟩
theorem Fm:Dj (Tryz.prog.info? 9) 1=true:=by kernel_rfl
theorem PV:Dj (Tryz.prog.info? 59) 5=true:=by kernel_rfl
theorem IR(a:Option Addr)(c:Nat)(xs:List EW)(n:Nat)(hn:xs.length=n)(hL:n≤1000000)(w:World)(h:AJ B7 5 w a c xs):
  Calls Tryz.prog 193 #[dI a n c] w fun r w'=>∃a' c',r = dM (.slice a' n c')∧AJ B7 5 w' a' c' xs∧w'.ownsRow w.heap.size 59 5 (.slice a' n c') n (xs.flatMap B7)∧Aa [] w w':=by
 cases a with
 | none=>
  obtain⟨rfl,rfl⟩:=h.isNil;subst hn;have h0:Calls Tryz.prog 193 #[dI none 0 0] w fun r w'=>r = dM (dI none 0 0)∧w=w':=by
   have hq:=fun W=>A2 (P:=Tryz.prog) W _ _ none 0 0 0 0 Tryz.underlying121;go_enter Tryz.func193,Tryz.ntmps193;go_wp2;go_ret;exact⟨rfl,rfl⟩
  refine h0.mono ?_;rintro r w' ⟨rfl,rfl⟩;exact⟨none,0,rfl,h,Bz _ _ _ _,Aa.refl [] w⟩
 | some p=>
  obtain⟨a',c',w',hr,hs,ho,hk⟩:=AJ.clone_run Tryz.prog Tryz.underlying121 PV bE Di Fx h bB 121;rw [hn] at hr ho;have HS:=lH hs;have HO:=lH ho;have HK:=lH hk;clear h hs ho hk;have h0:Calls Tryz.prog 193 #[dI (some p) n c] w fun r w1=>r = dM (.slice a' n c')∧w'=w1:=by
   clear HS HK HO;have hq:=fun W=>A2 (P:=Tryz.prog) W _ _ (some p) n c 0 0 Tryz.underlying121;go_enter Tryz.func193,Tryz.ntmps193;go_wp2_with (at_builtin;refine Ar _ rfl _ _ 121 rfl rfl rfl hr ?_);go_ret;exact⟨rfl,rfl⟩
  refine h0.mono ?_;rintro r w1 ⟨rfl,rfl⟩;exact⟨a',c',rfl,HS.out,HO.out,HK.out⟩
theorem PU:Dj (Tryz.prog.info? 233) 4=true:=by kernel_rfl
theorem Ue(a:Option Addr)(c:Nat)(xs:List Ey)(n:Nat)(hn:xs.length=n)(hL:n≤1000000)(w:World)(h:AJ CH 4 w a c xs):
  Calls Tryz.prog 194 #[dI a n c] w fun r w'=>∃a' c',r = dM (.slice a' n c')∧AJ CH 4 w' a' c' xs∧w'.ownsRow w.heap.size 233 4 (.slice a' n c') n (xs.flatMap CH)∧Aa [] w w':=by
 cases a with
 | none=>
  obtain⟨rfl,rfl⟩:=h.isNil;subst hn;have h0:Calls Tryz.prog 194 #[dI none 0 0] w fun r w'=>r = dM (dI none 0 0)∧w=w':=by
   have hq:=fun W=>A2 (P:=Tryz.prog) W _ _ none 0 0 0 0 Tryz.underlying122;go_enter Tryz.func194,Tryz.ntmps194;go_wp2;go_ret;exact⟨rfl,rfl⟩
  refine h0.mono ?_;rintro r w' ⟨rfl,rfl⟩;exact⟨none,0,rfl,h,Bz _ _ _ _,Aa.refl [] w⟩
 | some p=>
  obtain⟨a',c',w',hr,hs,ho,hk⟩:=AJ.clone_run Tryz.prog Tryz.underlying122 PU bE EF I1 h bB 122;rw [hn] at hr ho;have HS:=lH hs;have HO:=lH ho;have HK:=lH hk;clear h hs ho hk;have h0:Calls Tryz.prog 194 #[dI (some p) n c] w fun r w1=>r = dM (.slice a' n c')∧w'=w1:=by
   clear HS HK HO;have hq:=fun W=>A2 (P:=Tryz.prog) W _ _ (some p) n c 0 0 Tryz.underlying122;go_enter Tryz.func194,Tryz.ntmps194;go_wp2_with (at_builtin;refine Ar _ rfl _ _ 122 rfl rfl rfl hr ?_);go_ret;exact⟨rfl,rfl⟩
  refine h0.mono ?_;rintro r w1 ⟨rfl,rfl⟩;exact⟨a',c',rfl,HS.out,HO.out,HK.out⟩
theorem KI:Dj (Tryz.prog.info? 40) 2=true:=by kernel_rfl
theorem IQ(a:Option Addr)(c:Nat)(xs:List Kp)(n:Nat)(hn:xs.length=n)(hL:n≤1000000)(w:World)(h:AJ Fw 2 w a c xs):
  Calls Tryz.prog 78 #[dI a n c] w fun r w'=>∃a' c',r = dM (.slice a' n c')∧AJ Fw 2 w' a' c' xs∧w'.ownsRow w.heap.size 40 2 (.slice a' n c') n (xs.flatMap Fw)∧Aa [] w w':=by
 cases a with
 | none=>
  obtain⟨rfl,rfl⟩:=h.isNil;subst hn;have h0:Calls Tryz.prog 78 #[dI none 0 0] w fun r w'=>r = dM (dI none 0 0)∧w=w':=by
   have hq:=fun W=>A2 (P:=Tryz.prog) W _ _ none 0 0 0 0 Tryz.underlying22;go_enter Tryz.func78,Tryz.ntmps78;go_wp2;go_ret;exact⟨rfl,rfl⟩
  refine h0.mono ?_;rintro r w' ⟨rfl,rfl⟩;exact⟨none,0,rfl,h,Bz _ _ _ _,Aa.refl [] w⟩
 | some p=>
  obtain⟨a',c',w',hr,hs,ho,hk⟩:=AJ.clone_run Tryz.prog Tryz.underlying22 KI bE Gw Qd h bB 22;rw [hn] at hr ho;have HS:=lH hs;have HO:=lH ho;have HK:=lH hk;clear h hs ho hk;have h0:Calls Tryz.prog 78 #[dI (some p) n c] w fun r w1=>r = dM (.slice a' n c')∧w'=w1:=by
   clear HS HK HO;have hq:=fun W=>A2 (P:=Tryz.prog) W _ _ (some p) n c 0 0 Tryz.underlying22;go_enter Tryz.func78,Tryz.ntmps78;go_wp2_with (at_builtin;refine Ar _ rfl _ _ 22 rfl rfl rfl hr ?_);go_ret;exact⟨rfl,rfl⟩
  refine h0.mono ?_;rintro r w1 ⟨rfl,rfl⟩;exact⟨a',c',rfl,HS.out,HO.out,HK.out⟩
theorem Se:Dj (Tryz.prog.info? 78) 24=true:=by kernel_rfl
theorem Rl(a:Option Addr)(c:Nat)(xs:List BC)(n:Nat)(hn:xs.length=n)(hL:n≤1000000)(w:World)(h:AJ encJob 24 w a c xs):
  Calls Tryz.prog 60 #[dI a n c] w fun r w'=>∃a' c',r = dM (.slice a' n c')∧AJ encJob 24 w' a' c' xs∧w'.ownsRow w.heap.size 78 24 (.slice a' n c') n (xs.flatMap encJob)∧Aa [] w w':=by
 cases a with
 | none=>
  obtain⟨rfl,rfl⟩:=h.isNil;subst hn;have h0:Calls Tryz.prog 60 #[dI none 0 0] w fun r w'=>r = dM (dI none 0 0)∧w=w':=by
   have hq:=fun W=>A2 (P:=Tryz.prog) W _ _ none 0 0 0 0 Tryz.underlying33;go_enter Tryz.func60,Tryz.ntmps60;go_wp2;go_ret;exact⟨rfl,rfl⟩
  refine h0.mono ?_;rintro r w' ⟨rfl,rfl⟩;exact⟨none,0,rfl,h,Bz _ _ _ _,Aa.refl [] w⟩
 | some p=>
  obtain⟨a',c',w',hr,hs,ho,hk⟩:=AJ.clone_run Tryz.prog Tryz.underlying33 Se bE D8 I2 h bB 33;rw [hn] at hr ho;have HS:=lH hs;have HO:=lH ho;have HK:=lH hk;clear h hs ho hk;have h0:Calls Tryz.prog 60 #[dI (some p) n c] w fun r w1=>r = dM (.slice a' n c')∧w'=w1:=by
   clear HS HK HO;have hq:=fun W=>A2 (P:=Tryz.prog) W _ _ (some p) n c 0 0 Tryz.underlying33;go_enter Tryz.func60,Tryz.ntmps60;go_wp2_with (at_builtin;refine Ar _ rfl _ _ 33 rfl rfl rfl hr ?_);go_ret;exact⟨rfl,rfl⟩
  refine h0.mono ?_;rintro r w1 ⟨rfl,rfl⟩;exact⟨a',c',rfl,HS.out,HO.out,HK.out⟩
theorem GY:Dj (Tryz.prog.info? 89) 3=true:=by kernel_rfl
theorem IP(a:Option Addr)(c:Nat)(xs:List Mn)(n:Nat)(hn:xs.length=n)(hL:n≤1000000)(w:World)(h:AJ D7 3 w a c xs):
  Calls Tryz.prog 121 #[dI a n c] w fun r w'=>∃a' c',r = dM (.slice a' n c')∧AJ D7 3 w' a' c' xs∧w'.ownsRow w.heap.size 89 3 (.slice a' n c') n (xs.flatMap D7)∧Aa [] w w':=by
 cases a with
 | none=>
  obtain⟨rfl,rfl⟩:=h.isNil;subst hn;have h0:Calls Tryz.prog 121 #[dI none 0 0] w fun r w'=>r = dM (dI none 0 0)∧w=w':=by
   have hq:=fun W=>A2 (P:=Tryz.prog) W _ _ none 0 0 0 0 Tryz.underlying34;go_enter Tryz.func121,Tryz.ntmps121;go_wp2;go_ret;exact⟨rfl,rfl⟩
  refine h0.mono ?_;rintro r w' ⟨rfl,rfl⟩;exact⟨none,0,rfl,h,Bz _ _ _ _,Aa.refl [] w⟩
 | some p=>
  obtain⟨a',c',w',hr,hs,ho,hk⟩:=AJ.clone_run Tryz.prog Tryz.underlying34 GY bE EE KM h bB 34;rw [hn] at hr ho;have HS:=lH hs;have HO:=lH ho;have HK:=lH hk;clear h hs ho hk;have h0:Calls Tryz.prog 121 #[dI (some p) n c] w fun r w1=>r = dM (.slice a' n c')∧w'=w1:=by
   clear HS HK HO;have hq:=fun W=>A2 (P:=Tryz.prog) W _ _ (some p) n c 0 0 Tryz.underlying34;go_enter Tryz.func121,Tryz.ntmps121;go_wp2_with (at_builtin;refine Ar _ rfl _ _ 34 rfl rfl rfl hr ?_);go_ret;exact⟨rfl,rfl⟩
  refine h0.mono ?_;rintro r w1 ⟨rfl,rfl⟩;exact⟨a',c',rfl,HS.out,HO.out,HK.out⟩
theorem IN:Dj (Tryz.prog.info? 124) 8=true:=by kernel_rfl
theorem PX(a:Option Addr)(c:Nat)(xs:List TV)(n:Nat)(hn:xs.length=n)(hL:n≤1000000)(w:World)(h:AJ BM 8 w a c xs):
  Calls Tryz.prog 201 #[dI a n c] w fun r w'=>∃a' c',r = dM (.slice a' n c')∧AJ BM 8 w' a' c' xs∧w'.ownsRow w.heap.size 124 8 (.slice a' n c') n (xs.flatMap BM)∧Aa [] w w':=by
 cases a with
 | none=>
  obtain⟨rfl,rfl⟩:=h.isNil;subst hn;have h0:Calls Tryz.prog 201 #[dI none 0 0] w fun r w'=>r = dM (dI none 0 0)∧w=w':=by
   have hq:=fun W=>A2 (P:=Tryz.prog) W _ _ none 0 0 0 0 Tryz.underlying27;go_enter Tryz.func201,Tryz.ntmps201;go_wp2;go_ret;exact⟨rfl,rfl⟩
  refine h0.mono ?_;rintro r w' ⟨rfl,rfl⟩;exact⟨none,0,rfl,h,Bz _ _ _ _,Aa.refl [] w⟩
 | some p=>
  obtain⟨a',c',w',hr,hs,ho,hk⟩:=AJ.clone_run Tryz.prog Tryz.underlying27 IN bE CU Fp h bB 27;rw [hn] at hr ho;have HS:=lH hs;have HO:=lH ho;have HK:=lH hk;clear h hs ho hk;have h0:Calls Tryz.prog 201 #[dI (some p) n c] w fun r w1=>r = dM (.slice a' n c')∧w'=w1:=by
   clear HS HK HO;have hq:=fun W=>A2 (P:=Tryz.prog) W _ _ (some p) n c 0 0 Tryz.underlying27;go_enter Tryz.func201,Tryz.ntmps201;go_wp2_with (at_builtin;refine Ar _ rfl _ _ 27 rfl rfl rfl hr ?_);go_ret;exact⟨rfl,rfl⟩
  refine h0.mono ?_;rintro r w1 ⟨rfl,rfl⟩;exact⟨a',c',rfl,HS.out,HO.out,HK.out⟩
end
section
open Go.RowKit Go.Shelf
attribute [local go_sem] Oper.semAt_some
attribute [local go_sem ↓] Go.wp_at_zero Go.wp_at_succ
theorem JC{t e:TypeId}{z:Value}(ht:Tryz.prog.underlying t=some (.slice e))(hi:(Tryz.prog.info? e).map (fun i=>(i.zero,i.size,decide (i.bytes≤8)))=some (some z,1,true))(n:Nat)(hn:n≤1000)(W:World):
  (Instr.makeSlice t (dH dN (n:Int)) (dH dN (n:Int))).run Tryz.prog W = .ok (dI (some ⟨W,0,none⟩) n n) (W.alloc (.cells (madeCells z.cells n) e)):=by
 cases hq:Tryz.prog.info? e with
 | none=>rw [hq] at hi;cases hi
 | some i=>
  rw [hq] at hi;simp only [Option.map_some,Option.some.injEq,Prod.mk.injEq,decide_eq_true_eq] at hi;obtain⟨h1,h2,h3⟩:=hi;have:=FT (P:=Tryz.prog) t e i z ht hq h1 .i64 .i64 n n (Ap _) (by have:=Nat.mul_le_mul h3 hn;omega) bB W;rw [h2,Nat.mul_one] at this;exact this
structure Wb(w:World)(gn un fn:Nat)(used:List Bool)(free:List Int)(gens:Array Value)(tb:Nat)(W:World)(g:Nat)(ua:Option Addr)(uc:Nat)(fa:Option Addr)(fc:Nat):Prop where
 blk:Blk W tb 252 #[dI (some ⟨g,0,none⟩) gn gn,dI ua un uc,dI fa fn fc]
 gb:Blk W g 3 gens
 u:W.ownsRow w.heap.size 4 1 (dI ua un uc) un (used.flatMap KN)
 f:W.ownsRow w.heap.size 3 1 (dI fa fn fc) fn (free.flatMap EY)
 ge:w.heap.size≤g
 te:w.heap.size≤tb
 nu:∀x,Value.ownBlock (dI ua un uc)=some x→x≠g
 ne:∀x,Value.ownBlock (dI fa fn fc)=some x→x≠g
 kw:Aa [] w W
theorem Bg{w:World}{B B' n:Nat}{e:TypeId}{sz:Nat}{v:Value}{xs:List Value}(h:w.ownsRow B e sz v n xs)(hb:B'≤B):w.ownsRow B' e sz v n xs:=by
 refine⟨h.1,?_⟩;rcases h.2 with h0 | ⟨g,cap,cur,h1,h2,h3⟩
 ·exact .inl h0
 ·exact .inr ⟨g,cap,cur,h1,As hb h2,h3⟩
theorem W6{w WX wu wf:World}{gn un fn g bu bf tb:Nat}(htb:tb=WX.heap.size){used:List Bool}{free:List Int}{cs:Array Value}{ua fa:Option Addr}{uc fc:Nat}{wz:World}(hz:Aa [] w wz)(hkz:Aa [] wz WX)(hgb:Blk WX g 3 cs)(hge:wz.heap.size≤g)
 (hu:wu.ownsRow bu 4 1 (dI ua un uc) un (used.flatMap KN))(hub:w.heap.size≤bu)(huk:Aa [] wu WX)(hf:wf.ownsRow bf 3 1 (dI fa fn fc) fn (free.flatMap EY))(hfb:w.heap.size≤bf)(hfk:Aa [] wf WX)(hnu:g<bu∨wu.heap.size≤g)(hne:g<bf∨wf.heap.size≤g):
  Wb w gn un fn used free cs tb (WX.alloc (.cells #[dI (some ⟨g,0,none⟩) gn gn,dI ua un uc,dI fa fn fc] 252)) g ua uc fa fc∧Aa [] wz (WX.alloc (.cells #[dI (some ⟨g,0,none⟩) gn gn,dI ua un uc,dI fa fn fc] 252))∧wz.heap.size≤g:=
 by
 subst htb;have hkw:=hz.trans hkz;have ha:=(Aa.refl [] WX).alloc (.cells #[dI (some ⟨g,0,none⟩) gn gn,dI ua un uc,dI fa fn fc] 252);exact⟨⟨Blk.new WX _ _,hgb.keeps ha bA,Ak (Bg hu hub) (huk.trans ha) bA,Ak (Bg hf hfb) (hfk.trans ha) bA,As hz.size hge,hkw.size,fun x hx=>by have:=hu.lt x hx;omega,fun x hx=>by have:=hf.lt x hx;omega,hkw.trans ha⟩,hkz.trans ha,hge⟩
theorem MP{α:Type}(v:α):∀(l:List α) (o:Nat),o<l.length→(l.set o v).take (o+1)=l.take o++[v]∧(∀k,o<k→(l.set o v).drop k=l.drop k)
 | [],_,h=>by simp at h
 | x::l,0,_=>⟨by simp,fun k hk=>by
  obtain⟨k,rfl⟩:∃m,k=m+1:=⟨k - 1,by omega⟩;simp⟩
 | x::l,o+1,h=>by
  obtain⟨h1,h2⟩:=MP v l o bK;refine⟨by simp [h1],fun k hk=>?_⟩;obtain⟨k,rfl⟩:∃m,k=m+1:=⟨k - 1,by omega⟩;simpa using h2 k bB
theorem Blk.setAll{g:Nat}{t:TypeId}: ∀(vs:List Value) (o:Nat) (w:World) (cs:Array Value),Blk w g t cs→o+vs.length≤cs.size→∃cs',Blk (w.setCells g o vs) g t cs'∧cs'.toList=cs.toList.take o++vs++cs.toList.drop (o+vs.length)
 | [],o,w,cs,h,_=>⟨cs,h,by simp⟩
 | v::r,o,w,cs,h,hl=>by
  simp only [Ao] at hl;obtain⟨cs',h1,h2⟩:=Blk.setAll r (o+1) (w.setCell ⟨g,o,none⟩ v) (cs.setIfInBounds o v) (h.set_ o v) bG;refine⟨cs',h1,?_⟩;obtain⟨h3,h4⟩:=MP v cs.toList o bG;rw [h2,Array.toList_setIfInBounds,h3,h4 _ bB,Ao,show o+1+r.length=o+(r.length+1) by omega];simp
theorem Sg(W:World)(g gn:Nat)(cs0:Array Value)(hgb:Blk W g 3 cs0)(h0:cs0.size=gn)(ga:Option Addr)(gc:Nat)(L:List Int)(hL:L.length=gn)(h:Ik W ga gc L):
  ∃W2,(∀ty,(DH #[23,23] ty #[dI (some ⟨g,0,none⟩) gn gn,dI ga gn gc]).run Tryz.prog W = .ok (goInt gn) W2)∧Blk W2 g 3 (L.map (dH .i64)).toArray∧Aa [g] W W2:=by
 have hs:(Tryz.prog.info? 3).map (·.size)=some 1:=by kernel_rfl
 cases ga with
 | none=>
  obtain⟨rfl,rfl⟩:=h.isNil;subst hL;refine⟨W,fun ty=>run_copy_none (P:=Tryz.prog) W 23 23 ty 3 _ _ _ _ _ _ Tryz.underlying23 hs rfl,?_,Aa.refl _ W⟩;have:cs0=#[]:=Array.eq_empty_of_size_eq_zero (by simpa using h0);rw [this] at hgb;exact hgb
 | some p=>
  have hfl:=h.flat DZ;have hfm:∀L:List Int,L.flatMap EY=L.map (dH .i64):=fun L=>by
   induction L with
   | nil=>rfl
   | cons x l ih=>rw [List.flatMap_cons,ih];rfl
  rw [hfm] at hfl;refine⟨W.setCells g 0 (L.map (dH .i64)),fun ty=>?_,?_,Aa.setCells (.inl bA) _ _ (Aa.refl _ W)⟩
  ·have:=run_copy_cells (P:=Tryz.prog) W 23 23 ty 3 g 0 gn gn p gn gc (L.map (dH .i64)) Tryz.underlying23 hs (by rw [BX,hL];exact(Nat.min_self gn).symm) hfl
    (fun j hj=>by rw [BI,hgb.cell,Array.getElem?_eq_getElem (by rw [BX] at hj;omega)];rfl) (fun j hj=>by rw [hgb.frozen]) (fun v hv=>by obtain⟨x,_,rfl⟩:=Ee.1 hv;rfl)
   rw [BX,hL] at this;exact this
  ·obtain⟨cs',h1,h2⟩:=Blk.setAll (L.map (dH .i64)) 0 W cs0 hgb (by rw [BX];omega)
   have h3:cs'=(L.map (dH .i64)).toArray:=by
    rw [← Array.toList_inj,h2,BX,List.drop_of_length_le bG];simp
   rw [← h3];exact h1
theorem G0(v:D3)(s:Ff)(gn un fn:Nat)(hg:s.gens.length=gn)(hu:s.used.length=un)(hf:s.free.length=fn)(w:World)(h:Dp w v s):
  Calls Tryz.prog 244 #[dK (S_ v gn un fn)] w fun e w'=>∃tb g ua uc fa fc,e = dM (dJ (some ⟨tb,0,none⟩))∧Wb w gn un fn s.used s.free (s.gens.map (dH .i64)).toArray tb w' g ua uc fa fc:=by
 have hg1000:gn≤1000:=by have:=h.sg;omega
 have hu1000:un≤1000:=by have:=h.su;omega
 have hf1000:fn≤1000:=by have:=h.sf;omega
 have hmk:=fun W=>JC (t:=23) (e:=3) (z:=dH dN 0) Tryz.underlying23 bC gn hg1000 W;obtain⟨wz,hwz⟩:=eX (w.alloc (.cells (S_ v gn un fn) 26));have hz:Aa [] w wz:=by rw [← hwz];exact(Aa.refl [] w).alloc _
 have hbx:Blk wz w.heap.size 26 (S_ v gn un fn):=by rw [← hwz];exact Blk.new w _ _
 have hS:∀W,Aa [] wz W→Aa [] wz W∧W.cell? ⟨w,0,none⟩=some (dI v.ga gn v.gc)∧W.cell? ⟨w,1,none⟩=some (dI v.ua un v.uc)∧W.cell? ⟨w,2,none⟩=some (dI v.fa fn v.fc):=fun W hk=>
  ⟨hk,(hbx.keeps hk bA).cell 0,(hbx.keeps hk bA).cell 1,(hbx.keeps hk bA).cell 2⟩
 have HS:=lH hS;have HCU:=lH (fun W (hk:Aa [] wz W)=>Of v.ua v.uc s.used un hu bB W (h.u.keeps (hz.trans hk)));have HCF:=lH (fun W (hk:Aa [] wz W)=>Np v.fa v.fc s.free fn hf bB W (h.f.keeps (hz.trans hk)));have HZ:=lH hz;have HM:=lH h;have HG:=lH hg;have HWZs:Hid (w.heap.size<wz.heap.size):=lH X4;clear h hg hu hf hbx hz hS;go_enter Tryz.func244,Tryz.ntmps244;go_wp2;clear hwz;go_cut [3] (fun x wc=>∃tb g ua uc fa fc,x = dJ (some ⟨tb,0,none⟩)∧Hid (Wb w gn un fn s.used s.free (madeCells #[dH dN 0] gn) tb wc g ua uc fa fc∧Aa [] wz wc∧wz.heap.size≤g))
 case first=>
  refine wp_region_held_drew (S:=(fun w':World=>Aa [] wz w'∧w'.cell? ⟨w,0,none⟩=some (dI v.ga gn v.gc)∧w'.cell? ⟨w,1,none⟩=some (dI v.ua un v.uc)∧w'.cell? ⟨w,2,none⟩=some (dI v.fa fn v.fc))) bC (by((try dsimp only);(first | exact HS.out _ ((Aa.refl [] wz).drew) | exact HS.out _ (hHeld.1.trans hfk) | exact HS.out _ (hHeld.1.trans huk) | exact HS.out _ (hHeld.1.alloc _)))) (fun hHeld=>?_)
  repeat' (first | exact rZ | refine rX ?_ | ((first | (refine rA 3 (fun K hK=>?_) ?_;go_simp) | (refine rA 6 (fun K hK=>?_) ?_;go_simp;first | (refine(HCU.out _ hHeld.1).mono ?_;rintro r wb ⟨ua,uc,rfl,hus,huo,huk⟩) | (refine(HCF.out _ hHeld.1).mono ?_;rintro r wi ⟨fa,fc,rfl,hfs,hfo,hfk⟩)) | (refine rA 9 (fun K hK=>?_) ?_;go_simp;first | (refine(HCU.out _ hHeld.1).mono ?_;rintro r wb ⟨ua,uc,rfl,hus,huo,huk⟩) | (refine(HCF.out _ hHeld.1).mono ?_;rintro r wi ⟨fa,fc,rfl,hfs,hfo,hfk⟩)) | (refine rA 12 (fun K hK=>?_) ?_;go_simp));refine rO hK (by((try dsimp only);(first | exact HS.out _ ((Aa.refl [] wz).drew) | exact HS.out _ (hHeld.1.trans hfk) | exact HS.out _ (hHeld.1.trans huk) | exact HS.out _ (hHeld.1.alloc _)))) fun hHeld=>?_;clear hK K) | (refine rQ 0 ?_;refine rQ 1 ?_;refine rQ 2 ?_;refine rQ 4 ?_;refine rQ 5 ?_;refine rQ 7 ?_;refine rQ 8 ?_) | (refine rQ 10 ?_;refine rQ 11 ?_) | (refine rQ 13 ?_) | refine rB [3,6,9,12] ?_ | (refine wpAnyH_done bC ?_ _;(go_wp2_with (fail);go_meet;refine⟨_,_,_,_,_,_,rfl,lH (W6 ?tb HZ.out ?k ?gb ?ge huo ?ub ?uk hfo ?fb ?fk ?nu ?ne)⟩;(case tb=>first | rfl | simp);(case k=>first | exact((Aa.refl [] wz).alloc _).drew.trans (huk.trans hfk) | exact((Aa.refl [] wz).drew.trans huk).trans (((Aa.refl [] wb).alloc _).trans hfk) | exact((Aa.refl [] wz).drew.trans (huk.trans hfk)).alloc _);(case gb=>first | exact(Blk.new wz 3 _).drew.keeps (huk.trans hfk) bA | exact(Blk.new wb 3 _).keeps hfk bA | exact Blk.new wi 3 _);(case ge=>(have:=HZ.out.size;have:=huk.size;have:=hfk.size;simp at *;try omega));(case ub=>(have:=HZ.out.size;have:=huk.size;have:=hfk.size;simp at *;try omega));(case uk=>first | exact hfk | exact((Aa.refl [] wb).alloc _).trans hfk | exact hfk.alloc _);(case fb=>(have:=HZ.out.size;have:=huk.size;have:=hfk.size;simp at *;try omega));(case fk=>first | exact Aa.refl [] _ | exact(Aa.refl [] wi).alloc _);(case nu=>(have:=HZ.out.size;have:=huk.size;have:=hfk.size;simp at *;try omega));(case ne=>(have:=HZ.out.size;have:=huk.size;have:=hfk.size;simp at *;try omega)))))
 case rest=>
  obtain⟨tb,g,ua,uc,fa,fc,rfl,HO⟩:=hcut;obtain⟨W2,hcp,hg2,hkg⟩:=Sg wc.drew g gn _ HO.out.1.gb.drew (by simp [madeCells]) v.ga v.gc s.gens HG.out (HM.out.g.keeps HO.out.1.kw.drew);have hkg:Aa [g] wc W2:=((Aa.refl [g] wc).drew).trans hkg;have t0:=HO.out.1.blk.drew.ce 0;have b0:=(HS.out wc.drew HO.out.2.1.drew).2.1;have hE:Wb w gn un fn s.used s.free (s.gens.map (dH .i64)).toArray tb W2 g ua uc fa fc:=by
   have hO:=HO.out.1;have hne:tb≠g:=fun e=>by
    have h1:=hO.blk;have h2:=hO.gb;rw [e] at h1;unfold Blk at h1 h2;rw [h1] at h2;injection h2 with h2;injection h2 with _ h2 _
    exact absurd h2 bE
   refine⟨hO.blk.keeps hkg Wi,hg2,Ak hO.u hkg (fun x hx hm=>hO.nu x hx bT),Ak hO.f hkg (fun x hx hm=>hO.ne x hx bT),hO.ge,hO.te,hO.nu,hO.ne,hO.kw.own hkg (fun y hy=>by have:=hO.ge;simp only [Ac,Ab,or_false] at hy;omega)⟩
  have t2:=hE.blk.ce 0;have b2:=((hkg.cell (p:=⟨w,0,none⟩) (A4 _ _ (HS.out wc HO.out.2.1).2.1) (by have h1:=HO.out.2.2;have h2:=HWZs.out;simp only [Ac,Ab,or_false];omega)).trans (HS.out wc HO.out.2.1).2.1);have HE:=lH hE;clear hE hg2 hkg;go_upto_region 2 with(fail)
  refine wp_region_held_drew (S:=(fun w':World=>w'.cell? ⟨tb,0,none⟩=some (dI (some ⟨g,0,none⟩) gn gn)∧w'.cell? ⟨w,0,none⟩=some (dI v.ga gn v.gc))) bC (by((try dsimp only);(first | exact⟨t0,b0⟩ | exact⟨t2,b2⟩))) (fun hHeld=>?_);refine rQ 0 ?_;refine rQ 1 ?_;refine rQ 2 ?_;refine rQ 3 ?_;refine rQ 4 ?_;refine rQ 5 ?_;refine rQ 6 ?_;refine rC 7 fun K hK=>?_;go_simp;refine rO hK (by((try dsimp only);(first | exact⟨t0,b0⟩ | exact⟨t2,b2⟩))) fun hHeld=>?_;clear hK K;refine wpAnyH_done bC ?_ _
  (go_wp2;go_ret;exact⟨_,_,_,_,_,_,rfl,HE.out⟩)
theorem U9:Dj (Tryz.prog.info? 72) 2=true:=by kernel_rfl
structure Yk(w:World)(v:D3)(s:Ff)(gn fn ob tb pb:Nat)(pre:List (Int×Int))(A:World):Prop where
 run:∃u,A.ownsRow (pb+3) 72 2 u pre.length (pre.flatMap Ov)∧Blk A ob 83 #[u]
 pb:Blk A pb 250 #[dJ (some ⟨tb,0,none⟩)]
 tab:IG A tb v s gn gn fn
 kw:Aa [] w A
theorem Yk.keeps{w:World}{v:D3}{s:Ff}{gn fn ob tb pb:Nat}{pre:List (Int×Int)}{A A':World}{S:List Nat}(h:Yk w v s gn fn ob tb pb pre A)(hk:Aa S A A')(hS:∀y∈S,pb<y∧y<pb+3)(h1:ob<pb)(h2:tb<pb)(h3:w.heap.size≤pb)(hm:Dp w v s):Yk w v s gn fn ob tb pb pre A':=by
 obtain⟨u,r1,r2⟩:=h.run;have hn:∀y,y≤pb→y∉S:=fun y hy hm=>by have:=hS y hm;omega
 have hkw:=h.kw.own hk bM;exact⟨⟨u,Ak r1 hk (fun g hg2 hm=>by have:=(r1.lt g hg2).1;have:=hS g hm;omega),r2.keeps hk (hn _ bB)⟩,h.pb.keeps hk (hn _ bB),⟨h.tab.blk.keeps hk (hn _ bB),hm.keeps hkw,h.tab.lg,h.tab.lu,h.tab.lf⟩,hkw⟩
theorem Rc(v:D3)(s:Ff)(gn un fn:Nat)(hg:s.gens.length=gn)(hu:s.used.length=un)(hf:s.free.length=fn)(w:World)(h:Dp w v s):
  Calls Tryz.prog 90 #[dK (S_ v gn un fn)] w fun e w'=>∃a c,e = dM (dI a (C6 s).length c)∧AJ Ov 2 w' a c (C6 s)∧Aa [] w w':=by
 refine(callsIn_wide (n:=9)).1 ?_;obtain⟨b,hb⟩:=eX (CA s);have HB:=lH hb;have HM:=lH h;have HG:=lH hg;have HU:=lH hu;have HF:=lH hf;have HR:=lH (fun W (hkk:Aa [] w W)=>Dn v s gn un fn hg hu hf b hb W (h.keeps hkk));have HK0:=lH ((Aa.refl [] w).alloc (.cells (S_ v gn un fn) 26));have HBX:=lH (Blk.new w 26 (S_ v gn un fn));clear h hg hu hf hb;refine callsIn_of_wp_marks Tryz.func90 rfl trivial ?_ rfl;simp only [Tryz.ntmps90,Cx,Ao,Eh,Nat.reduceAdd,Nat.reduceSub,Bc,Bd,By,B0,AX,A6];gi_wp2_with (fail);refine⟨trivial,(callsIn_wide.2 (HR.out _ HK0.out)).mono ?_⟩;rintro e w1 ⟨rfl,hk1⟩;have hbx:=HBX.out.keeps hk1 bA;have q0:=hbx.ce 0;have q1:=hbx.ce 1;have q2:=hbx.ce 2;have HK1:=lH (HK0.out.trans hk1);clear hk1;cases b with
 | false=>
  have hall:C6 s = []:=by unfold C6;rw [if_neg Z2]
  have HALL:=lH hall;clear hall hbx;gi_wp2;refine⟨_,by simp [results,Tryz.results90,go_sem];rfl,?_⟩;rw [HALL.out];exact⟨none,0,rfl,AJ.none_,HK1.out⟩
 | true=>
  have hall:C6 s=usedL 0 s.used s.gens:=by unfold C6;rw [if_pos HB.out]
  obtain rfl:un=gn:=by
   have:=HB.out;unfold CA at this;simp only [Af,decide_eq_true_eq] at this;rw [← HU.out,← HG.out];omega
  have HALL:=lH hall;have hg1000:un≤1000:=by have:=HM.out.sg;rw [HG.out] at this;exact this
  have HBXL:=lH hbx;have hbx2:=hbx.alloc (.cells #[dI none 0 0] 83);have d0:=hbx2.ce 0;have d1:=hbx2.ce 1;have d2:=hbx2.ce 2;clear hall hbx hbx2;gi_wp2_with (fail);clear d0 d1 d2 q0 q1 q2;refine⟨trivial,(callsIn_wide.2 (P6 _ _)).mono ?_⟩;rintro e w2 ⟨rfl,hw2⟩;gi_wp2_with (fail);have hsz:w2.heap.size=w1.heap.size+3:=by rw [← hw2];simp
  have hw1:w.heap.size<w1.heap.size:=by have:=HK1.out.size;have:=A4 w1 _ (HBXL.out.cell 0);exact this
  have hI0:Yk w v s un fn w1.heap.size (w1.heap.size+1) (w1.heap.size+1+1) [] w2:=by
   have hk2:Aa [] w1 w2:=by rw [← hw2];exact(((Aa.refl [] w1).alloc _).alloc _).alloc _
   refine⟨⟨dI none 0 0,Bz _ _ _ _,?_⟩,?_,⟨?_,HM.out.keeps (HK1.out.trans hk2),HG.out,HU.out,HF.out⟩,HK1.out.trans hk2⟩<;>rw [← hw2]
   ·exact((Blk.new w1 _ _).alloc _).alloc _
   ·exact Aq _ _ _ _ bA
   ·exact(Aq _ _ _ _ bA).alloc _
  have HI0:=lH hI0;clear hI0 hw2;refine Bx rfl bB (gf:=204) (lb:=#[dJ (some ⟨w1.heap.size+1+1,0,none⟩)]) rfl trivial (enters_of Tryz.func204 bC rfl) (P7 8 (w1.heap.size+1+1) (w1.heap.size+1) v s un fn hg1000) (fun _=>rfl)
   (fun pre A=>Yk w v s un fn w1.heap.size (w1.heap.size+1) (w1.heap.size+1+1) pre A) (fun _ _=>False)
   (fun pre A A' h hk=>h.keeps hk bF bB bB bB HM.out)
   (fun pre A A' h hk=>h)
   (fun pre A h=>⟨by simpa using h.pb.cell 0,h.tab⟩) HI0.out
   (fun x W=>({ tmps:=#[dK (S_ v un un fn),dJ (some ⟨w,0,none⟩),dI none 0 0,dJ (some ⟨w1,0,none⟩),.func (.func 150) #[dJ (some ⟨w1.heap.size+1,0,none⟩)] #[],dJ (some ⟨W,0,none⟩),dK (S_ v un un fn),dL true,dL false,dK (S_ v un un fn),dK (S_ v un un fn),dJ (some ⟨w1.heap.size+1,0,none⟩),.func (.func 150) #[dJ (some ⟨w1.heap.size+1,0,none⟩)] #[],.func (.func 150) #[dJ (some ⟨w1.heap.size+1,0,none⟩)] #[],.func (.func 204) #[] #[dJ (some ⟨w1.heap.size+1+1,0,none⟩)],dK #[dH dN x.1,dH dN x.2],undef,undef,undef,undef,undef],defers:=[] },W.alloc (.cells #[dH dN x.1,dH dN x.2] 72)))
   (fun x W=>(Aa.refl [] W).alloc _) ?assign ?body ?done ?stop
  case assign=>
   rintro l ⟨x1,x2⟩ W K hK;simp only [OD];gi_wp2;exact hK
  case body=>
   rintro l pre ⟨x1,x2⟩ W W2 hI hpre hsz2 hk2;dsimp only at hk2 ⊢;have hb:=(Blk.new W 72 #[dH dN x1,dH dN x2]).keeps hk2 bI;have hI2:=(hI.keeps ((Aa.refl [] W).alloc (.cells #[dH dN x1,dH dN x2] 72)) bA bB bB bB HM.out).keeps hk2 bF bB bB bB HM.out;obtain⟨u,hrow,hob⟩:=hI2.run;have hszW:W.heap.size+1≤W2.heap.size:=by have:=hk2.size;rw [World.size_alloc] at this;exact this
   have hlen:pre.length≤1000:=by
    have h1:=hpre.length_le;rw [Gl _ _ _ (by rw [HU.out,HG.out])] at h1;have h2:=List.count_le_length (a:=true) (l:=s.used);rw [HU.out] at h2;simp only [Ag,AW] at h1;omega
   obtain⟨g,c,W3,hrun,hrow3,hk3,hge⟩:=C8 (enc:=Ov) Tryz.prog (t:=83) Tryz.underlying83 U9 bE Ow Ut hrow bB (x1,x2) bB 83;have d0:=hb.ce 0;have d1:=hb.ce 1;have q0:=hob.ce 0;have hgeS:=AP hrow;have hob3:=hob.keeps hk3 (fun hm=>by have:=hgeS _ hm;omega);have q3:=hob3.ce 0;have f3:=hob3.frozen 0;have HOB3:=lH (hob3.set_ 0 (dI (some ⟨g,0,none⟩) (pre.length+1) c));obtain⟨m,hm⟩:=eX (pre.length+1);have HPB:=lH (hI2.pb.keeps hk3 (fun hm=>by have:=hgeS _ hm;omega));have hkw3:=hI2.kw.own hk3 Y8;have HTB:=lH (hI2.tab.blk.keeps hk3 (fun hm=>by have:=hgeS _ hm;omega));have HKW:=lH hkw3;have HROW:=lH hrow3;have HSZ:Hid (W2.heap.size≤W3.heap.size):=lH hk3.size;have HBL:Hid (∀k∈[w2.heap.size,w2.heap.size+1],W3.heap[k]? = W2.heap[k]?):=lH (fun k hk=>hk3.block k ZO (fun hm=>by have:=hgeS k hm;simp only [Ac,Ab,or_false] at hk;omega));have HGE:=lH hge;rw [hm] at hrun HOB3 HROW;simp only [Ov] at hrun;clear hI hpre hk2 hI2 hb hrow hob hlen hrow3 hk3 hge hgeS hob3 hm hkw3;gi_wp2_with (gi_at_builtin;refine DV _ rfl _ _ 83 rfl rfl rfl hrun ?_);have hk4:Aa [w1.heap.size] W3 (W3.setCell ⟨w1,0,none⟩ (dI (some ⟨g,0,none⟩) m c)):=(Aa.refl _ W3).setCell (p:=⟨w1,0,none⟩) (.inl bA) _;have hkw4:=HKW.out.own hk4 bF;refine⟨As HSZ.out hk4.size,fun y hy=>(hk4.block y ZL Yc).trans (HBL.out y hy),⟨_,?_,HOB3.out⟩,HPB.out.keeps hk4 bI,⟨HTB.out.keeps hk4 bI,HM.out.keeps hkw4,HG.out,HU.out,HF.out⟩,hkw4⟩;exact Ak HROW.out hk4 (fun g' hg' hm'=>by have:=(HROW.out.lt g' hg').1;simp only [Ac,Ab,or_false] at hm';omega)
  case done=>
   rintro W hI hsz2 hK;obtain⟨u,hrow,hob⟩:=hI.run;have q0:=hob.ce 0;have HROW:=lH hrow;have HKW:=lH hI.kw;clear hI hrow hob;gi_wp2;refine⟨by simp,.inl ⟨_,_,rfl,run_takeDeferred hK,?_⟩⟩;have hk4:=Az (S:=[w2.heap.size]) W (.deferred none) (l:=w2.heap.size) bA;have hrow2:=Ak HROW.out hk4 (fun g hg hm=>by have:=(HROW.out.lt g hg).1;simp only [Ac,Ab,or_false] at hm;omega);obtain⟨a,c,rfl,hsl,_⟩:=AJ.of_row Ow hrow2;refine⟨_,by simp [results,Tryz.results90,go_sem];rfl,?_⟩;rw [HALL.out];exact⟨a,c,rfl,hsl,HKW.out.own hk4 bF⟩
  case stop=>
   rintro pre W hpre hX hsz2 hK;exact hX.elim
theorem XC(a b x y:Int)(w:World):(binOp .eql 72 (dK #[dH dN a,dH dN x]) (dK #[dH dN b,dH dN y])).run Tryz.prog w = .ok (dL (decide ((a,x)=(b,y)))) w:=by
 have hS:Tryz.prog.underlying 72=some (.struct (Tryz.prog.fieldsOf 72)):=by kernel_rfl
 have hp:Tryz.prog.stoodInHeld 72=false:=by kernel_rfl
 rw [run_eql_struct,show(10000:Nat)=9999+1 from rfl,run_equalIn_agg w 9999 72 _ _ hS hp];simp only [Program.fieldsOf,Tryz.underlying72];go_simp;by_cases h1:a=b<;>by_cases h2:x=y<;>simp [h1,h2]
theorem J4(v:D3)(s:Ff)(gn un fn:Nat)(hg:s.gens.length=gn)(hu:s.used.length=un)(hf:s.free.length=fn)(x y:Int)(b:Bool)(hb:decide ((x,y)∈C6 s)=b)(w:World)(h:Dp w v s):
  Calls Tryz.prog 252 #[dK (S_ v gn un fn),dK #[dH dN x,dH dN y]] w fun e w'=>e = dM (dL b)∧Aa [] w w':=by
 have HA:=lH (fun W (hk:Aa [] w W)=>Rc v s gn un fn hg hu hf W (h.keeps hk));have hl1000:(C6 s).length≤1000:=by
  unfold C6;split
  ·rename_i hs
   have h1:s.used.length=s.gens.length:=by
    unfold CA at hs;simp only [Af,decide_eq_true_eq] at hs;omega
   rw [Gl _ _ _ h1];have h2:=List.count_le_length (a:=true) (l:=s.used);have:=h.su;omega
  ·simp
 have hgd:Tryz.prog.eqGuardType Tryz.prog.depth 72=false:=by kernel_rfl
 have HK0:=lH (((Aa.refl [] w).alloc (.cells (S_ v gn un fn) 26)).alloc (.cells #[dH dN x,dH dN y] 72));have HBX:=lH (Aq (w.alloc (.cells (S_ v gn un fn) 26)) 72 #[dH dN x,dH dN y] (w.heap.size+1) bA);obtain⟨L,hL⟩:=eX (C6 s);rw [hL] at hb HA hl1000;have HB:=lH hb;clear h hg hu hf hb hL;go_enter Tryz.func252,Tryz.ntmps252;go_wp2_with (fail);refine(HA.out _ HK0.out).mono ?_;rintro e w1 ⟨a,c,rfl,hsl,hk⟩;obtain⟨n,hn⟩:=eX (L.length);have HS:=lH hsl;have HK:=lH (HK0.out.trans hk);have HN:=lH hn;have HB1:=lH (HBX.out.keeps hk bA);rw [hn] at hl1000 ⊢;clear hsl hk hn;go_wp2_with (fail);go_loopw [10] (fun i wr=>∃k:Nat,i = dH dN k∧k≤n∧Hid ((x,y)∉L.take k)∧Hid (Aa [] w1 wr)) (fun i _=>n - (intOf i).toNat)
 case atStart=>exact⟨0,rfl,Cy _,lH bA,lH (Aa.refl [] w1)⟩
 case round=>
  obtain⟨k,rfl,hk,HP,HKr⟩:=hrel;by_cases hlt:k<n
  ·obtain⟨g,off,⟨z1,z2⟩,rfl,hg,hx,hat⟩:=HS.out.at_k (k:=k) bO
   have q0:=hat 0 (dH dN z1) rfl;have q1:=hat 1 (dH dN z2) rfl;rw [CG] at q0;rw [← HKr.out.cell (p:=⟨g,off+k*2,none⟩) hg bA] at q0;rw [← HKr.out.cell (p:=⟨g,off+k*2+1,none⟩) hg bA] at q1;have i1:(0:Int)≤(k:Int):=by omega
   have i2:(k:Int)<(n:Int):=by omega
   have hb2:=(HB1.out.keeps HKr.out bA).alloc (.cells #[dH dN z1,dH dN z2] 72);have d0:=hb2.ce 0;have d1:=hb2.ce 1;have hbx:=Blk.new wr 72 #[dH dN z1,dH dN z2];have e0:=hbx.ce 0;have e1:=hbx.ce 1;have heq:=fun W=>XC z1 x z2 y W;have HX:=lH hx;have HK2:=lH (HKr.out.alloc (.cells #[dH dN z1,dH dN z2] 72));clear hat hg hx hb2 hbx;by_cases he:(z1,z2)=(x,y)
   ·have hbt:b=true:=by rw [← HB.out,← he];exact decide_eq_true (Ex HX.out)
    subst hbt;simp only [decide_eq_true he] at heq;clear he;go_wp2;go_ret;exact⟨rfl,HK.out.trans HK2.out⟩
   ·simp only [decide_eq_false he] at heq
    have HP2:Hid ((x,y)∉L.take (k+1)):=lH (by rw [AB HX.out,AF,Am];exact fun h=>h.elim HP.out (fun e=>he e.symm));clear he;go_wp2;go_roundw;case rel=>exact⟨k+1,by go_num,by omega,HP2,HK2⟩
    case measure=>simp [intOf];omega
  ·obtain rfl:k=n:=by omega
   have hbt:b=false:=by
    rw [← HB.out];have:=HP.out;rw [Ax bL] at this;exact decide_eq_false this
   subst hbt;go_wp2;go_ret;exact⟨rfl,HK.out.trans HKr.out⟩
theorem Nq(a0 b0:ByteArray)(a1 b1:Int)(a2 b2:ByteArray)(w:World):(Op.equalIn 10000 89 (dK #[CZ a0,dH dN a1,CZ a2]) (dK #[CZ b0,dH dN b1,CZ b2])).run Tryz.prog w = .ok (decide ((⟨a0,a1,a2⟩:Mn)=⟨b0,b1,b2⟩)) w:=by
 have hS0:Tryz.prog.underlying 89=some (.struct (Tryz.prog.fieldsOf 89)):=by kernel_rfl
 have hp0:Tryz.prog.stoodInHeld 89=false:=by kernel_rfl
 rw [show(10000:Nat)=9999+1 from rfl,run_equalIn_agg w 9999 89 _ _ hS0 hp0];simp only [Program.fieldsOf,Tryz.underlying89];go_simp;by_cases h:a0=b0;rotate_left
 ·have h2:=Kw h
  simp [h,h2]
 subst h;by_cases h:a1=b1;rotate_left
 ·simp [h]
 subst h;by_cases h:a2=b2;rotate_left
 ·have h2:=Kw h
  simp [h,h2]
 subst h;simp
end
end Go.Proofs.YtcjdkbgdahgjbaaGreatDoor
