/- Steps of the proof: CtC, CtD, CtE, CtF, CtG. -/
import Derived.Test.YtcjdkbgdahgjbaaGreatDoorK0
import Derived.Test.YtcjdkbgdahgjbaaGreatDoorKak
import Derived.Test.YtcjdkbgdahgjbaaGreatDoorKar
import Derived.Test.YtcjdkbgdahgjbaaGreatDoorKas
import Derived.Test.YtcjdkbgdahgjbaaGreatDoorKba
import Derived.Test.YtcjdkbgdahgjbaaGreatDoorKbd
set_option maxRecDepth 100000
set_option maxHeartbeats 8000000
set_option linter.all false
namespace Go.Proofs.YtcjdkbgdahgjbaaGreatDoor
open _root_.Array renaming getElem?_eq_some_iff→Aj,replicate_succ→Bc,replicate_zero→Bd
open _root_.Bool renaming and_assoc→DW,and_eq_true→Af,false_and→D4
open Ending renaming returned→dM
open Instr renaming lookup→Dx
open IntKind renaming i64→dN
open _root_.List renaming append_assoc→CO,append_toArray→B0,cons_append→A6,findIdx?_eq_some_iff_getElem→CF,getD_eq_getElem?_getD→AE,getElem?_cons_succ→Al,getElem?_cons_zero→Ah,getElem?_eq_getElem→Au,getElem?_eq_some_iff→Ad,getElem?_toArray→Ai,length_append→Ag,length_cons→Ao,length_nil→Eh,length_range→A8,length_singleton→AW,map_cons→Cn,mem_cons→Ac,mem_singleton→Am,nil_append→AX,not_mem_nil→Ab,push_toArray→By,range→A0,setIfInBounds_toArray→An,set_cons_succ→Aw,set_cons_zero→Av,size_toArray→Cx,take_append_drop→Bj,take_of_length_le→Ax
open _root_.Nat renaming le_refl→Ap,zero_add→BI,zero_le→Cy
open Value renaming agg→dK,bool→dL,int→dH,pointer→dJ,slice→dI
section
open Go.RowKit Go.Shelf
attribute [local go_sem] Oper.semAt_some N5 N6 N3 N4
attribute [local go_sem ↓] Go.wp_at_zero Go.wp_at_succ
structure Yn(w:World)(x0 x1 x2 x3 x4 x5 x6 x7 x9:Value)(ja:Option Addr)(ln jc:Nat)(conn:Int)(A:World):Prop where
 nb:Blk A (w.heap.size+1) 3 #[dH dN conn]
 c4:Blk A (w.heap.size+1+1) 3 #[dH dN 0]
 c5:Blk A (w.heap.size+1+1+1) 4 #[dL false]
 pb:Blk A (w.heap.size+1+1+1+1) 36 #[x0,x1,x2,x3,x4,x5,x6,x7,dI ja ln jc,x9]
 kw:Aa [] w A
theorem Yn.keeps{w:World}{x0 x1 x2 x3 x4 x5 x6 x7 x9:Value}{ja:Option Addr}{ln jc:Nat}{conn:Int}{A A':World}{S:List Nat}(h:Yn w x0 x1 x2 x3 x4 x5 x6 x7 x9 ja ln jc conn A)(hk:Aa S A A')(hS:∀y∈S,w.heap.size+4<y):Yn w x0 x1 x2 x3 x4 x5 x6 x7 x9 ja ln jc conn A':=
 have hn:∀y,y≤w.heap.size+4→y∉S:=fun y hy hm=>by have:=hS y hm;omega
 ⟨h.nb.keeps hk (hn _ bB),h.c4.keeps hk (hn _ bB),h.c5.keeps hk (hn _ bB),h.pb.keeps hk (hn _ bB),h.kw.own hk bM⟩
structure Ze(w:World)(k:Nat)(A:World):Prop where
 c4:Blk A (w.heap.size+1+1) 3 #[dH dN (k:Int)]
 c5:Blk A (w.heap.size+1+1+1) 4 #[dL true]
 kw:Aa [] w A
theorem Ze.keeps{w:World}{k:Nat}{A A':World}{S:List Nat}(h:Ze w k A)(hk:Aa S A A')(hS:∀y∈S,w.heap.size+3<y):Ze w k A':=
 have hn:∀y,y≤w.heap.size+3→y∉S:=fun y hy hm=>by have:=hS y hm;omega
 ⟨h.c4.keeps hk (hn _ bB),h.c5.keeps hk (hn _ bB),h.kw.own hk bM⟩
def Zc(js:List BC)(conn:Int)(k:Nat):Prop:=∀j<k,∀t,js[j]? = some t→t.conn≠conn
theorem OX{js:List BC}{conn:Int}(h:Zc js conn js.length):DU js conn=none:=by
 unfold DU;rw [List.findIdx?_eq_none_iff];intro x hx;obtain⟨i,hi,rfl⟩:=List.getElem_of_mem hx;exact beq_eq_false_iff_ne.2 (h i hi _ (Au hi))
theorem SO{js:List BC}{conn:Int}{k:Nat}{u:BC}(h:Zc js conn k)(hu:js[k]? = some u)(hc:u.conn=conn):DU js conn=some k:=by
 unfold DU;obtain⟨hk,hu⟩:=Ad.1 hu;rw [CF];refine⟨hk,by rw [hu,hc];simp,fun j hj=>?_⟩;have:=h j hj _ (Au bB);simpa using this
theorem KJ(x0 x1 x2 x3 x4 x5 x6 x7 x9:Value)(ja:Option Addr)(ln jc:Nat)(js:List BC)(hln:js.length=ln)(h1000:ln≤1000)(conn:Int)(w:World)(hl:NP w ja jc js):
  Calls Tryz.prog 56 #[dK #[x0,x1,x2,x3,x4,x5,x6,x7,dI ja ln jc,x9],dH dN conn] w fun x w'=>x = dM (.tuple #[dH dN (((DU js conn).getD 0:Nat):Int),dL (DU js conn).isSome])∧Aa [] w w':=by
 have htn:=fun W=>OG x0 x1 x2 x3 x4 x5 x6 x7 x9 ja ln jc W;refine(callsIn_wide (n:=9)).1 ?_;have HL:=lH hl;have HLN:=lH hln;have HTN:=lH htn;clear hl hln htn;refine callsIn_of_wp_marks Tryz.func56 rfl trivial ?_ rfl;simp only [Tryz.ntmps56,Cx,Ao,Eh,Nat.reduceAdd,Nat.reduceSub,Bc,Bd,By,B0,AX,A6];gi_wp2_with (fail);refine⟨trivial,(callsIn_wide.2 (HTN.out _)).mono ?_⟩;rintro e w1 ⟨rfl,hw1⟩;gi_wp2_with (fail);have hsz:w1.heap.size=w.heap.size+5:=by rw [← hw1];simp
 have hI0:Yn w x0 x1 x2 x3 x4 x5 x6 x7 x9 ja ln jc conn w1:=by
  have hk:Aa [] w w1:=by rw [← hw1];exact(((((Aa.refl [] w).alloc _).alloc _).alloc _).alloc _).alloc _
  refine⟨?_,?_,?_,?_,hk⟩<;>rw [← hw1]
  ·exact(((Aq _ _ _ _ bA).alloc _).alloc _).alloc _
  ·exact((Aq _ _ _ _ bA).alloc _).alloc _
  ·exact(Aq _ _ _ _ bA).alloc _
  ·exact Aq _ _ _ _ bA
 have HI0:=lH hI0;clear hI0 hw1;refine Bx rfl bB (gf:=86) (lb:=#[dJ (some ⟨w.heap.size+1+1+1+1,0,none⟩)]) rfl trivial (enters_of Tryz.func86 bC rfl) (OI 8 (w.heap.size+1+1+1+1) ja jc ln js HLN.out h1000) (fun _=>rfl)
  (fun pre A=>Zc js conn pre.length∧Yn w x0 x1 x2 x3 x4 x5 x6 x7 x9 ja ln jc conn A) (fun _ A=>∃k,DU js conn=some k∧Ze w k A)
  (fun pre A A' h hk=>⟨h.1,h.2.keeps hk bF⟩)
  (fun pre A A' h hk=>by
   obtain⟨k,h1,h2⟩:=h;exact⟨k,h1,h2.keeps hk bF⟩)
  (fun pre A h=>⟨h.2.pb.cell 8,HL.out.keeps h.2.kw⟩) ⟨fun j hj=>by simp at hj,HI0.out⟩
  (fun k W=>(fun u:BC=>(({ tmps:=#[dK #[x0,x1,x2,x3,x4,x5,x6,x7,dI ja ln jc,x9],dH dN conn,dJ (some ⟨w,0,none⟩),dJ (some ⟨w.heap.size+1,0,none⟩),dJ (some ⟨w.heap.size+1+1,0,none⟩),dJ (some ⟨w.heap.size+1+1+1,0,none⟩),dH dN (k:Int),dJ (some ⟨W,0,none⟩),dK #[x0,x1,x2,x3,x4,x5,x6,x7,dI ja ln jc,x9],
     .func (.func 86) #[] #[dJ (some ⟨w.heap.size+1+1+1+1,0,none⟩)],dH dN (k:Int),dK (jobA u),undef,undef,undef,undef,undef],defers:=[] } : Act),W.alloc (.cells (jobA u) 78))) (js.getD k job0))
  (fun k W=>(Aa.refl [] W).alloc _) ?assign ?body ?done ?stop
 case assign=>
  intro l k W K hK;simp only [OE];dsimp only at hK;generalize js.getD k job0=u at hK ⊢;gi_wp2_with (refine Ep bD 78 _ _ bD W.heap.size (jobA u) bD bD 78 _ (Blk.new W _ _) (Gx u) rfl (Ku u) ?_;rw [World.setRow_alloc_new]);exact hK
 case body=>
  rintro l pre k W W2 ⟨hN,hI⟩ hpre hsz2 hk2;obtain⟨rfl,hkn⟩:=DN hpre;obtain⟨u,hu⟩:∃u,js[k]? = some u:=⟨_,Au Yf⟩;have hgd:js.getD k job0=u:=by rw [AE,hu];rfl
  dsimp only at hk2 ⊢;rw [hgd] at hk2 ⊢;rw [A8] at hN;have hszW:W.heap.size≤W2.heap.size:=by have:=hk2.size;rw [World.size_alloc] at this;omega
  have hI2:=(hI.keeps ((Aa.refl [] W).alloc (.cells (jobA u) 78)) bA).keeps hk2 bF;have hb:=(Blk.new W 78 (jobA u)).keeps hk2 bI;have d2:W2.cell? ⟨W,0,none⟩=some (dH dN u.conn):=hb.cell 0;have q1:=hI2.nb.ce 0;have q4:=hI2.c4.ce 0;have q5:=hI2.c5.ce 0;have f4:=hI2.c4.frozen 0;have f5:=hI2.c5.frozen 0;have HI2:=lH hI2;have HU:=lH hu;have HN:=lH hN;clear hI hpre hk2 hI2 hb hgd hu hN;by_cases hnm:u.conn=conn
  ·have heq:(u.conn==conn)=true:=by simpa using hnm
   have HPL:Hid (DU js conn=some k):=lH (SO HN.out HU.out hnm);clear hnm;gi_wp2;have hk3:Aa [w.heap.size+1+1,w.heap.size+1+1+1] W2 ((W2.setCell ⟨w.heap.size+1+1,0,none⟩ (dH dN (k:Int))).setCell ⟨w.heap.size+1+1+1,0,none⟩ (dL true)):=((Aa.refl _ W2).setCell (p:=⟨w.heap.size+1+1,0,none⟩) (.inl bA) _).setCell (p:=⟨w.heap.size+1+1+1,0,none⟩) (.inl bA) _;refine⟨hk3.size,fun y hy=>hk3.block y Y5 Yc,k,HPL.out,?_,?_,HI2.out.kw.own hk3 bF⟩
   ·exact(HI2.out.c4.set_ 0 (dH dN (k:Int))).far bA _
   ·exact(HI2.out.c5.far bA _).set_ 0 (dL true)
  ·have heq:(u.conn==conn)=false:=by simpa using hnm
   have HN2:Hid (Zc js conn (A0 k++[k]).length):=lH (by
    rw [Ag,A8,AW];intro j hj t hjt;rcases Nat.lt_or_ge j k with h | h
    ·exact HN.out j h t hjt
    ·obtain rfl:j=k:=by omega
     rw [HU.out] at hjt;injection hjt with hjt
     rw [← hjt];exact hnm)
   clear hnm;gi_wp2;exact⟨Ap _,fun _ _=>rfl,HN2.out,HI2.out⟩
 case done=>
  rintro W ⟨hN,hI⟩ hsz2 hK;rw [A8] at hN;have HPL:Hid (DU js conn=none):=lH (OX (by rw [HLN.out];exact hN));have q4:=hI.c4.ce 0;have q5:=hI.c5.ce 0;have f4:=hI.c4.frozen 0;have f5:=hI.c5.frozen 0;have HI:=lH hI;clear hI hN;gi_wp2;obtain⟨WF,hWF⟩:=eX ((W.setCell ⟨w.heap.size+1+1,0,none⟩ (dH dN 0)).setCell ⟨w.heap.size+1+1+1,0,none⟩ (dL false));have hk3:Aa [w.heap.size+1+1,w.heap.size+1+1+1] W WF:=by rw [← hWF];exact((Aa.refl _ W).setCell (p:=⟨w.heap.size+1+1,0,none⟩) (.inl bA) _).setCell (p:=⟨w.heap.size+1+1+1,0,none⟩) (.inl bA) _
  have d2:Blk WF (w.heap.size+1+1) 3 #[dH dN 0]:=by rw [← hWF];exact(HI.out.c4.set_ 0 (dH dN 0)).far bA _
  have d3:Blk WF (w.heap.size+1+1+1) 4 #[dL false]:=by rw [← hWF];exact(HI.out.c5.far bA _).set_ 0 (dL false)
  rw [hWF];have hK1:WF.heap[w1.heap.size]? = some (.deferred (some [])):=(hk3.block _ bB bI).trans hK;refine⟨by simp,.inl ⟨_,_,rfl,run_takeDeferred hK1,?_⟩⟩;have hk4:=Az (S:=[w1.heap.size]) WF (.deferred none) (l:=w1.heap.size) bA;have e2:=(d2.keeps hk4 bG).ce 0;have e3:=(d3.keeps hk4 bG).ce 0;refine⟨.tuple #[dH dN 0,dL false],by simp [results,Tryz.results56,go_sem,e2,e3],?_⟩;rw [HPL.out];exact⟨rfl,(HI.out.kw.own hk3 bF).own hk4 bF⟩
 case stop=>
  rintro pre W hpre ⟨k,hpl,hX⟩ hsz2 hK;have HX:=lH hX;have HPL:=lH hpl;clear hX hpl;gi_wp2;refine⟨by simp,.inl ⟨_,_,rfl,run_takeDeferred hK,?_⟩⟩;have hk4:=Az (S:=[w1.heap.size]) W (.deferred none) (l:=w1.heap.size) bA;have e2:=(HX.out.c4.keeps hk4 bG).ce 0;have e3:=(HX.out.c5.keeps hk4 bG).ce 0;refine⟨.tuple #[dH dN (k:Int),dL true],by simp [results,Tryz.results56,go_sem,e2,e3],?_⟩;rw [HPL.out];exact⟨rfl,HX.out.kw.own hk4 bF⟩
theorem SP{js:List BC}{conn:Int}{k:Nat}(h:DU js conn=some k):k<js.length:=by
 unfold DU at h;exact(CF.1 h).1
structure CV where
 oa:Option Addr
 on:Nat
 oc:Nat
 r:Bm
 gn:Nat
 un:Nat
 fn:Nat
 ln:Nat
 seq:Int
 pa:Option Addr
 pn:Nat
 pc:Nat
 pv:List SV
 nx:Int
 ja:Option Addr
 jn:Nat
 jc:Nat
 da:Option Addr
 dn:Nat
 dc:Nat
def ctlA(v:CV):Array Value:=#[dI v.oa v.on v.oc,dI v.r.s.ga v.gn v.r.s.gc,dI v.r.s.ua v.un v.r.s.uc,dI v.r.s.fa v.fn v.r.s.fc,dI v.r.la v.ln v.r.lc,dH dN v.seq,dI v.pa v.pn v.pc,dH dN v.nx,dI v.ja v.jn v.jc,dI v.da v.dn v.dc]
def NO(j:BC):Prop:=j.line.size≤1000000∧-9223372036854775808≤j.req.com.at_∧j.req.com.at_≤9223372036854775807
structure Cm(w:World)(v:CV)(c:D2):Prop where
 o:Mo w v.oa v.oc c.ops
 on:c.ops.length=v.on
 ol:v.on≤1000
 os:∀o∈c.ops,o.name.size≤maxLen
 r:Co w v.r c.reg
 g:c.reg.slots.gens.length=v.gn
 u:c.reg.slots.used.length=v.un
 f:c.reg.slots.free.length=v.fn
 l:c.reg.l.length=v.ln
 q:c.reg.seq=v.seq
 p:BF w v.pa v.pc v.pv c.pool
 pn:v.pv.length=v.pn
 pl:v.pn≤1000
 nx:c.pool.next=v.nx
 j:NP w v.ja v.jc c.jobs
 jn:c.jobs.length=v.jn
 jl:v.jn≤900
 js:∀j∈c.jobs,NO j
 d:NM w v.da v.dc c.done
 dn:c.done.length=v.dn
 dl:v.dn≤900
theorem Cm.keeps{w w':World}{v:CV}{c:D2}(h:Cm w v c)(hk:Aa [] w w'):Cm w' v c:={ h with o:=h.o.keeps hk,r:=h.r.keeps hk,p:=h.p.keeps hk,j:=h.j.keeps hk,d:=h.d.keeps hk }
theorem Cm.lv{w:World}{v:CV}{c:D2}(h:Cm w v c):v.r.lv.length=v.ln:=by rw [h.r.t.len];exact h.l
def H8(met:List Int)(j:BC):Bool:=Mf j&&!met.contains j.conn
theorem Ld:∀(A B:List BC) (met:List Int),DQ met (A++B)=(DQ met A&&DQ (met++A.map (·.conn)) B)
 | [],B,met=>by simp [DQ]
 | a::A,B,met=>by
  simp only [A6,DQ,Cn];rw [Ld A B,CO];simp only [DW];rfl
theorem MB{L:List BC}{k:Nat}{j:BC}(h:L[k]? = some j):DQ [] (L.take (k+1))=(DQ [] (L.take k)&&H8 ((L.take k).map (·.conn)) j):=by
 rw [AB h,Ld];simp [DQ,H8]
theorem UH{L:List BC}{k:Nat}{j:BC}(h:L[k]? = some j)(hb:H8 ((L.take k).map (·.conn)) j=false):DQ [] L=false:=by
 have h3:=MB h;rw [hb,Bool.and_false] at h3;have:=Ld (L.take (k+1)) (L.drop (k+1)) [];rw [Bj,h3,D4] at this;exact this
theorem XS{w:World}{b:Nat}{met:List Int}(h:Do (dH .i64) w b met)(k:Int):(Dx 110 (.map (some b)) (dH dN k) false).run Tryz.prog w = .ok (dL (decide (k∈met))) w:=
 h.look IZ Tryz.underlying110 Tryz.underlying3 bC k
theorem WI{w:World}{b:Nat}{met:List Int}(h:Do (dH .i64) w b met)(k:Int)(hn:k∉met):∃o,(Instr.mapUpdate 110 (.map (some b)) (dH dN k) (dL true)).run Tryz.prog w = .ok () (w.putObj b o)∧Do (dH .i64) (w.putObj b o) b (met++[k]):=
 h.update IZ Tryz.underlying110 Tryz.underlying3 k hn
structure WZ(w:World)(v:CV)(met:List Int)(A:World):Prop where
 b0:Blk A w.heap.size 36 #[dI v.oa v.on v.oc,dI v.r.s.ga v.gn v.r.s.gc,dI v.r.s.ua v.un v.r.s.uc,dI v.r.s.fa v.fn v.r.s.fc,dI v.r.la v.ln v.r.lc,dH dN v.seq,dI v.pa v.pn v.pc,dH dN v.nx,dI v.ja v.jn v.jc,dI v.da v.dn v.dc]
 b1:Blk A (w.heap.size+1) 4 #[dL false]
 mp:Do (dH .i64) A (w.heap.size+1+1) met
 mx:Blk A (w.heap.size+1+1+1) 110 #[.map (some (w.heap.size+1+1))]
 pb:Blk A (w.heap.size+1+1+1+1) 36 #[dI v.oa v.on v.oc,dI v.r.s.ga v.gn v.r.s.gc,dI v.r.s.ua v.un v.r.s.uc,dI v.r.s.fa v.fn v.r.s.fc,dI v.r.la v.ln v.r.lc,dH dN v.seq,dI v.pa v.pn v.pc,dH dN v.nx,dI v.ja v.jn v.jc,dI v.da v.dn v.dc]
 kw:Aa [] w A
theorem WZ.keeps{w:World}{v:CV}{met:List Int}{A A':World}{S:List Nat}(h:WZ w v met A)(hk:Aa S A A')(hS:∀y∈S,w.heap.size+4<y):WZ w v met A':=
 have hn:∀y,y≤w.heap.size+4→y∉S:=fun y hy hm=>by have:=hS y hm;omega
 ⟨h.b0.keeps hk (hn _ bB),h.b1.keeps hk (hn _ bB),h.mp.keeps hk (hn _ bB),h.mx.keeps hk (hn _ bB),h.pb.keeps hk (hn _ bB),h.kw.own hk bM⟩
theorem KE(v:CV)(c:D2)(b:Bool)(hb:Nr c=b)(w:World)(h:Cm w v c):
  Calls Tryz.prog 15 #[dK #[dI v.oa v.on v.oc,dI v.r.s.ga v.gn v.r.s.gc,dI v.r.s.ua v.un v.r.s.uc,dI v.r.s.fa v.fn v.r.s.fc,dI v.r.la v.ln v.r.lc,dH dN v.seq,dI v.pa v.pn v.pc,dH dN v.nx,dI v.ja v.jn v.jc,dI v.da v.dn v.dc]] w fun x w'=>x = dM (dL b)∧Aa [] w w':=by
 have HTN:=lH (fun W=>OG (dI v.oa v.on v.oc) (dI v.r.s.ga v.gn v.r.s.gc) (dI v.r.s.ua v.un v.r.s.uc) (dI v.r.s.fa v.fn v.r.s.fc) (dI v.r.la v.ln v.r.lc) (dH dN v.seq) (dI v.pa v.pn v.pc) (dH dN v.nx) (dI v.da v.dn v.dc) v.ja v.jn v.jc W);obtain⟨b1,hb1⟩:=eX (DQ [] c.jobs);obtain⟨b2,hb2⟩:=eX (decide (c.done.length≤8));obtain⟨b3,hb3⟩:=eX (He c.ops);obtain⟨b4,hb4⟩:=eX (G1 c.reg);obtain⟨b5,hb5⟩:=eX (DC c.pool);have HB:Hid ((b1&&b2&&b3&&b4&&b5)=b):=lH (by rw [← hb,← hb1,← hb2,← hb3,← hb4,← hb5];rfl);have HO:=lH (fun W (hk:Aa [] w W)=>I6 v.oa v.oc c.ops v.on h.on (by have:=h.ol;omega) h.os b3 hb3 W (h.o.keeps hk));have HR:=lH (fun W (hk:Aa [] w W)=>I3 v.r c.reg v.gn v.un v.fn v.ln h.g h.u h.f h.lv v.seq h.q b4 hb4 W (h.r.keeps hk));have HP:=lH (fun W (hk:Aa [] w W)=>Lj v.pa v.pc v.pv c.pool v.pn h.pn W (h.p.keeps hk) b5 hb5);rw [h.nx] at HP;have HL:=lH h.j;have HLN:=lH h.jn;have h1000:v.jn≤1000:=by have:=h.jl;omega
 have hdn:decide ((v.dn:Int)≤8)=b2:=by rw [← hb2,h.dn];congr 1;exact propext ⟨fun h=>by omega,fun h=>by omega⟩
 have HD:=lH hdn;have HJ:=lH hb1;obtain⟨js,hjs⟩:=eX (c.jobs);rw [hjs] at HL HLN HJ;clear h hb hb1 hb2 hb3 hb4 hb5 hdn hjs;refine(callsIn_wide (n:=9)).1 ?_;refine callsIn_of_wp_marks Tryz.func15 rfl trivial ?_ rfl;simp only [Tryz.ntmps15,Cx,Ao,Eh,Nat.reduceAdd,Nat.reduceSub,Bc,Bd,By,B0,AX,A6];have hmk:=fun W=>run_makeMap (P:=Tryz.prog) 110 W;gi_wp2_with (fail);refine⟨trivial,(callsIn_wide.2 (HTN.out _)).mono ?_⟩;rintro e w1 ⟨rfl,hw1⟩;gi_wp2_with (fail);have hsz:w1.heap.size=w.heap.size+5:=by rw [← hw1];simp
 have hI0:WZ w v [] w1:=by
  have hk:Aa [] w w1:=by rw [← hw1];exact(((((Aa.refl [] w).alloc _).alloc _).alloc _).alloc _).alloc _
  refine⟨?_,?_,?_,?_,?_,hk⟩<;>rw [← hw1]
  ·exact((((Blk.new w _ _).alloc _).alloc _).alloc _).alloc _
  ·exact(((Aq _ _ _ _ bA).alloc _).alloc _).alloc _
  ·have:=Do.new (kv:=dH .i64) ((w.alloc (.cells #[dI v.oa v.on v.oc,dI v.r.s.ga v.gn v.r.s.gc,dI v.r.s.ua v.un v.r.s.uc,dI v.r.s.fa v.fn v.r.s.fc,dI v.r.la v.ln v.r.lc,dH dN v.seq,dI v.pa v.pn v.pc,dH dN v.nx,dI v.ja v.jn v.jc,dI v.da v.dn v.dc] 36)).alloc (.cells #[dL false] 4))
   simp only [World.size_alloc] at this;exact(this.keeps ((Aa.refl [] _).alloc _) bA).keeps ((Aa.refl [] _).alloc _) bA
  ·exact(Aq _ _ _ _ bA).alloc _
  ·exact Aq _ _ _ _ bA
 have HI0:=lH hI0;clear hI0 hw1 hmk;refine Bx rfl bB (gf:=86) (lb:=#[dJ (some ⟨w.heap.size+1+1+1+1,0,none⟩)]) rfl trivial (enters_of Tryz.func86 bC rfl) (OI 8 (w.heap.size+1+1+1+1) v.ja v.jc v.jn js HLN.out h1000) (fun _=>rfl)
  (fun pre A=>DQ [] (js.take pre.length)=true∧WZ w v ((js.take pre.length).map (·.conn)) A) (fun _ A=>b1=false∧Blk A (w.heap.size+1) 4 #[dL false]∧Aa [] w A)
  (fun pre A A' h hk=>⟨h.1,h.2.keeps hk bF⟩)
  (fun pre A A' h hk=>⟨h.1,h.2.1.keeps hk bI,h.2.2.own hk bF⟩)
  (fun pre A h=>⟨h.2.pb.cell 8,HL.out.keeps h.2.kw⟩) ⟨rfl,HI0.out⟩
  (fun k W=>(fun u:BC=>(({ tmps:=#[dK #[dI v.oa v.on v.oc,dI v.r.s.ga v.gn v.r.s.gc,dI v.r.s.ua v.un v.r.s.uc,dI v.r.s.fa v.fn v.r.s.fc,dI v.r.la v.ln v.r.lc,dH dN v.seq,dI v.pa v.pn v.pc,dH dN v.nx,dI v.ja v.jn v.jc,dI v.da v.dn v.dc],dJ (some ⟨w,0,none⟩),dJ (some ⟨w.heap.size+1,0,none⟩),dJ (some ⟨w.heap.size+1+1+1,0,none⟩),undef,dJ (some ⟨W,0,none⟩),.map (some (w.heap.size+1+1)),dK #[dI v.oa v.on v.oc,dI v.r.s.ga v.gn v.r.s.gc,dI v.r.s.ua v.un v.r.s.uc,dI v.r.s.fa v.fn v.r.s.fc,dI v.r.la v.ln v.r.lc,dH dN v.seq,dI v.pa v.pn v.pc,dH dN v.nx,dI v.ja v.jn v.jc,dI v.da v.dn v.dc],.func (.func 86) #[] #[dJ (some ⟨w.heap.size+1+1+1+1,0,none⟩)],dH dN (k:Int),dK (jobA u),undef,undef,undef,undef,undef,undef,undef,undef,undef,undef,undef,undef,undef,undef,undef,undef,undef,undef,undef,undef,undef,undef,undef,undef,undef,undef,undef,undef,undef,undef,undef],defers:=[] } : Act),W.alloc (.cells (jobA u) 78))) (js.getD k job0))
  (fun k W=>(Aa.refl [] W).alloc _) ?assign ?body ?done ?stop
 case assign=>
  intro l k W K hK;simp only [OE];dsimp only at hK;generalize js.getD k job0=u at hK ⊢;gi_wp2_with (refine Ep bD 78 _ _ bD W.heap.size (jobA u) bD bD 78 _ (Blk.new W _ _) (Gx u) rfl (Ku u) ?_;rw [World.setRow_alloc_new]);exact hK
 case body=>
  rintro l pre k W W2 ⟨hN,hI⟩ hpre hsz2 hk2;obtain⟨rfl,hkn⟩:=DN hpre;obtain⟨u,hu⟩:∃u,js[k]? = some u:=⟨_,Au Yf⟩;have hgd:js.getD k job0=u:=by rw [AE,hu];rfl
  dsimp only at hk2 ⊢;rw [hgd] at hk2 ⊢;rw [A8] at hN hI;have hszW:W.heap.size≤W2.heap.size:=by have:=hk2.size;rw [World.size_alloc] at this;omega
  have hI2:=(hI.keeps ((Aa.refl [] W).alloc (.cells (jobA u) 78)) bA).keeps hk2 bF;have hb:=(Blk.new W 78 (jobA u)).keeps hk2 bI;have hBW:w1.heap.size+1<W2.heap.size:=by omega
  obtain⟨y1,hy1⟩:=eX (Mf u);obtain⟨y2,hy2⟩:=eX (decide (u.conn∈(js.take k).map (·.conn)));have HST:Hid (H8 ((js.take k).map (·.conn)) u=(y1&&!y2)):=lH (by
   unfold H8;rw [hy1,List.contains_eq_mem,hy2])
  have HIJ:=S1 u y1 hy1 W2;have HI2:=lH hI2;have HBU:=lH hb;have HRB:=lH (hb.rng 0 (jobA u) (fun j x hx=>by rw [BI];simpa using hx));have HU:=lH hu;have HN:=lH hN;have HY2:=lH hy2;clear hI hpre hk2 hI2 hb hgd hu hN hy1 hy2;gi_wp2_with (refine E4 bD 78 _ bD W.heap.size 0 bD (jobA u) _ HRB.out Tryz.underlying78 rfl (Gx u) ?_);refine⟨trivial,(callsIn_wide.2 HIJ).mono ?_⟩;rintro e W3 ⟨rfl,hk3⟩;clear HIJ HRB;have hI3:=HI2.out.keeps hk3 bA;have d0:W3.cell? ⟨W,0,none⟩=some (dH dN u.conn):=(HBU.out.keeps hk3 bA).cell 0;have m0:=hI3.mx.ce 0;have q0:=hI3.b1.ce 0;have qf:=hI3.b1.frozen 0;have hlk:=XS hI3.mp u.conn;rw [HY2.out] at hlk;have HI3:=lH hI3;have HK3:=lH hk3;clear hI3 hk3;have HBD:Hid (H8 ((js.take k).map (·.conn)) u=false→∀a,Hm w1.heap.size (fun pre A=>DQ [] (js.take pre.length)=true∧WZ w v ((js.take pre.length).map (·.conn)) A) (fun _ A=>b1=false∧Blk A (w.heap.size+1) 4 #[dL false]∧Aa [] w A) (A0 k++[k]) W2 .ret a (W3.setCell ⟨w.heap.size+1,0,none⟩ (dL false))):=lH (fun h a=>G3 HK3.out (Ae W3 (w.heap.size+1) 0 (dL false)) hBW bG bG ⟨by rw [← HJ.out];exact UH HU.out h,by simpa using HI3.out.b1.set_ 0 (dL false),HI3.out.kw.own (Ae _ _ _ _) bF⟩);cases y1 with
  | false=>
   have HX:=lH (HBD.out YE);clear hlk;gi_wp2;exact HX.out _
  | true=>
   cases y2 with
   | true=>
    have HX:=lH (HBD.out YE);gi_wp2;exact HX.out _
   | false=>
    obtain⟨o,hup,hset⟩:=WI HI3.out.mp u.conn (by have:=HY2.out;simpa using this);have HX:Hid (∀a,Hm w1.heap.size (fun pre A=>DQ [] (js.take pre.length)=true∧WZ w v ((js.take pre.length).map (·.conn)) A) (fun _ A=>b1=false∧Blk A (w.heap.size+1) 4 #[dL false]∧Aa [] w A) (A0 k++[k]) W2 .normal a (W3.putObj (w.heap.size+1+1) o)):=lH (by
     intro a;have hp:=Dw W3 (w.heap.size+1+1) o;refine EM HK3.out hp hBW bG bG ?_;rw [Ag,A8,AW,MB HU.out,HN.out,HST.out,AB HU.out,List.map_append];exact⟨rfl,HI3.out.b0.keeps hp bI,HI3.out.b1.keeps hp bI,hset,HI3.out.mx.keeps hp bI,HI3.out.pb.keeps hp bI,HI3.out.kw.own hp bF⟩)
    clear hset HBD;gi_wp2;exact HX.out _
 case done=>
  rintro W ⟨hN,hI⟩ hsz2 hK;rw [A8,Ax Zv] at hN;obtain rfl:b1=true:=by rw [← HJ.out];exact hN
  have q:=hI.b0.rl;have q4:=hI.b1.ce 0;have f4:=hI.b1.frozen 0;have HI:Hid (∀W',Aa [] W W'→WZ w v ((js.take (A0 v.jn).length).map (·.conn)) W'):=lH (fun W' hk=>hI.keeps hk bA);have HK:=lH hK;have HWK:=lH hI.kw;have HEND:Hid (∀W',Aa [] W W'→∀x,x=b→(W'.setCell ⟨w.heap.size+1,0,none⟩ (dL x)).heap[w1.heap.size]? = some (.deferred (some []))∧((W'.setCell ⟨w.heap.size+1,0,none⟩ (dL x)).putObj w1.heap.size (.deferred none)).cell? ⟨w.heap.size+1,0,none⟩=some (dL x)∧Aa [] w ((W'.setCell ⟨w.heap.size+1,0,none⟩ (dL x)).putObj w1.heap.size (.deferred none))):=lH (by
   rintro W' hk x rfl;have hI':=HI.out W' hk;have hk3:=Ae W' (w.heap.size+1) 0 (dL x);have d2:Blk (W'.setCell ⟨w.heap.size+1,0,none⟩ (dL x)) (w.heap.size+1) 4 #[dL x]:=by simpa using hI'.b1.set_ 0 (dL x)
   have hk4:=Az (S:=[w1.heap.size]) (W'.setCell ⟨w.heap.size+1,0,none⟩ (dL x)) (.deferred none) (l:=w1.heap.size) bA;have e2:=(d2.keeps hk4 bG).ce 0;have:=hk.size;exact⟨(((hk.mono bA).trans hk3).block _ bB bI).trans HK.out,e2,(hI'.kw.own hk3 bF).own hk4 bF⟩)
  clear hI hN hK hsz;cases b2 with
  | false=>
   have hle:¬(v.dn:Int)≤8:=by have:=HD.out;simpa using this
   gi_wp2_with (fail);refine⟨trivial,?_⟩;gi_wp2_with (fail);refine⟨trivial,?_⟩;gi_wp2_with (fail);refine⟨trivial,?_⟩;gi_wp2_with (fail);have hbx:false=b:=by rw [← HB.out];rfl
   have hE:=HEND.out W (Aa.refl [] W) false hbx;subst hbx;refine⟨by simp,.inl ⟨_,_,rfl,run_takeDeferred hE.1,?_⟩⟩;have e2:=hE.2.1;exact⟨dL false,by simp [results,Tryz.results15,go_sem,e2],rfl,hE.2.2⟩
  | true=>
   have hle:(v.dn:Int)≤8:=by have:=HD.out;simpa using this
   gi_wp2_with (fail);refine⟨trivial,(callsIn_wide.2 (HO.out W HWK.out)).mono ?_⟩;rintro e X1 ⟨rfl,hx1⟩;have HX1:=lH hx1;have HC1:=HI.out X1 hx1;have q:=HC1.b0.rl;have q4:=HC1.b1.ce 0;have f4:=HC1.b1.frozen 0;have HKW1:=lH HC1.kw;clear HC1 hx1;cases b3 with
   | false=>
    gi_wp2_with (fail);refine⟨trivial,?_⟩;gi_wp2_with (fail);refine⟨trivial,?_⟩;gi_wp2_with (fail);have hbx:false=b:=by rw [← HB.out];rfl
    have hE:=HEND.out X1 HX1.out false hbx;subst hbx;refine⟨by simp,.inl ⟨_,_,rfl,run_takeDeferred hE.1,?_⟩⟩;have e2:=hE.2.1;exact⟨dL false,by simp [results,Tryz.results15,go_sem,e2],rfl,hE.2.2⟩
   | true=>
    gi_wp2_with (fail);refine⟨trivial,(callsIn_wide.2 (HR.out X1 HKW1.out)).mono ?_⟩;rintro e X2 ⟨rfl,hx2⟩;have HX2:=lH (HX1.out.trans hx2);have HC2:=HI.out X2 HX2.out;have q:=HC2.b0.rl;have q4:=HC2.b1.ce 0;have f4:=HC2.b1.frozen 0;have HKW2:=lH HC2.kw;clear HC2 hx2;cases b4 with
    | false=>
     gi_wp2_with (fail);refine⟨trivial,?_⟩;gi_wp2_with (fail);have hbx:false=b:=by rw [← HB.out];rfl
     have hE:=HEND.out X2 HX2.out false hbx;subst hbx;refine⟨by simp,.inl ⟨_,_,rfl,run_takeDeferred hE.1,?_⟩⟩;have e2:=hE.2.1;exact⟨dL false,by simp [results,Tryz.results15,go_sem,e2],rfl,hE.2.2⟩
    | true=>
     gi_wp2_with (fail);refine⟨trivial,(callsIn_wide.2 (HP.out X2 HKW2.out)).mono ?_⟩;rintro e X3 ⟨rfl,hx3⟩;have HX3:=lH (HX2.out.trans hx3);have HC3:=HI.out X3 HX3.out;have q4:=HC3.b1.ce 0;have f4:=HC3.b1.frozen 0;clear HC3 hx3;gi_wp2_with (fail);have hbx:b5=b:=by rw [← HB.out];rfl
     have hE:=HEND.out X3 HX3.out b5 hbx;subst hbx;refine⟨by simp,.inl ⟨_,_,rfl,run_takeDeferred hE.1,?_⟩⟩;have e2:=hE.2.1;exact⟨dL b5,by simp [results,Tryz.results15,go_sem,e2],rfl,hE.2.2⟩
 case stop=>
  rintro pre W hpre ⟨hbad,hres,hkw⟩ hsz2 hK;obtain rfl:b=false:=by rw [← HB.out,hbad];rfl
  have HRES:=lH hres;have HKW:=lH hkw;have HSZ:=lH hsz;clear hbad hres hkw hsz;gi_wp2;have hsz:=HSZ.out;refine⟨by simp,.inl ⟨_,_,rfl,run_takeDeferred hK,?_⟩⟩;have hk4:=Az (S:=[w1.heap.size]) W (.deferred none) (l:=w1.heap.size) bA;have e2:=(HRES.out.keeps hk4 bG).ce 0;exact⟨dL false,by simp [results,Tryz.results15,go_sem,e2],rfl,HKW.out.own hk4 bF⟩
inductive cM|mk (A:CV)
abbrev C_:=cM.mk
instance(A:CV):CoeDep cM (C_ A) (Array Value):=⟨#[.slice A.oa A.on A.oc,.slice A.r.s.ga A.gn A.r.s.gc,.slice A.r.s.ua A.un A.r.s.uc,.slice A.r.s.fa A.fn A.r.s.fc,.slice A.r.la A.ln A.r.lc,dH dN A.seq,.slice A.pa A.pn A.pc,dH dN A.nx,.slice A.ja A.jn A.jc,.slice A.da A.dn A.dc]⟩
end
section
open Go.RowKit Go.Shelf
theorem AQ(v:CV):(Tryz.prog.info? 36).map (·.size)=some (ctlA v).size:=by
 have:(Tryz.prog.info? 36).map (·.size)=some 10:=by kernel_rfl
 exact this
theorem Bl(v:CV):(ctlA v).all (·.oneCell')=true:=by simp [ctlA,Value.oneCell']
def Jy(w:World)(S:List Nat):Prop:=∀y∈S,∃cs t fz,w.heap[y]? = some (.cells cs t fz)∧t≠43∧t≠9
theorem Jy.str{w:World}{S:List Nat}(h:Jy w S):GS w S:=fun k hk cs fz e=>by
 obtain⟨cs',t,fz',h1,_,h3⟩:=h k hk;rw [h1] at e;injection e with e;injection e with _ e _
 exact h3 e
theorem Jy.snap{w:World}{S:List Nat}(h:Jy w S):∀k∈S,∀(cs:Array Value) (fz:Nat×Nat),w.heap[k]?≠some (Obj.cells cs 43 fz):=fun k hk cs fz e=>by
 obtain⟨cs',t,fz',h1,h2,_⟩:=h k hk;rw [h1] at e;injection e with e;injection e with _ e _
 exact h2 e
theorem Jy.blk{w:World}{g:Nat}{t:TypeId}{cs:Array Value}(h:Blk w g t cs)(h1:t≠43)(h2:t≠9):Jy w [g]:=fun y hy=>by
 obtain rfl:=Am.1 hy;exact⟨cs,t,(0,0),h,h1,h2⟩
theorem BF.off{w w':World}{a:Option Addr}{c:Nat}{V:List SV}{p:Po}{S:List Nat}(h:BF w a c V p)(hk:Aa S w w')(ho:Jy w S):BF w' a c V p:=
 ⟨h.le,h.small,h.row.keepsS hk ho.snap,h.mt.keepsS hk ho.str⟩
structure FV(Q:Nat→Prop)(v:CV)(c:D2):Prop where
 o:EA Q v.oa v.on
 r:CK Q v.r c.reg
 d:EA Q v.da v.dn
theorem Cm.later{w:World}{v:CV}{c:D2}{Q:Nat→Prop}(h:Cm w v c)(hQ:∀y,Q y→w.heap.size≤y):FV Q v c∧EA Q v.ja v.jn:=
 ⟨⟨h.o.no h.on hQ,h.r.later hQ,h.d.no h.dn hQ⟩,h.j.no h.jn hQ⟩
theorem Cm.jobs{w w':World}{v:CV}{c:D2}{S:List Nat}{Q:Nat→Prop}(h:Cm w v c)(hn:FV Q v c)(hk:Aa S w w')(hS:∀y∈S,Q y)(ho:Jy w S){ja:Option Addr}{jn jc:Nat}{js:List BC}(hj:NP w' ja jc js)(hjn:js.length=jn)(hjl:jn≤900)(hjs:∀j∈js,NO j):
  Cm w' { v with ja:=ja,jn:=jn,jc:=jc } { c with jobs:=js }:=
 { on:=h.on,ol:=h.ol,os:=h.os,g:=h.g,u:=h.u,f:=h.f,l:=h.l,q:=h.q,pn:=h.pn,pl:=h.pl,nx:=h.nx,dn:=h.dn,dl:=h.dl,o:=h.o.keepsN hk (fun h0 g o e hm=>hn.o (by rw [← h.on];exact h0) g o e (hS g hm)),r:=h.r.stay hn.r hk hS,p:=h.p.off hk ho,d:=h.d.keepsN hk (fun h0 g o e hm=>hn.d (by rw [← h.dn];exact h0) g o e (hS g hm)),j:=hj,jn:=hjn,jl:=hjl,js:=hjs }
theorem Cm.stay{w w':World}{v:CV}{c:D2}{S:List Nat}{Q:Nat→Prop}(h:Cm w v c)(hn:FV Q v c)(hj:EA Q v.ja v.jn)(hk:Aa S w w')(hS:∀y∈S,Q y)(ho:Jy w S):Cm w' v c:=
 h.jobs hn hk hS ho (h.j.keepsN hk (fun h0 g o e hm=>hj (by rw [← h.jn];exact h0) g o e (hS g hm))) h.jn h.jl h.js
theorem DE{w:World}{B:Nat}{e:TypeId}{sz n n2:Nat}{a:Option Addr}{c:Nat}{xs:List Value}{Q:Nat→Prop}(h:w.ownsRow B e sz (dI a n c) n2 xs)(hQ:∀g,(dI a n c).ownBlock=some g→¬Q g):EA Q a n:=fun _ g o e hq=>hQ g (by rw [e];rfl) hq
def Q8(c:D2):D2:={ c with reg:=Gi c.reg (-1) }
theorem VG(r:CE):Gi r (-1)=r:=by
 unfold Gi;by_cases h:G1 r=true
 ·rw [if_pos h]
  have ht:∀t∈r.l,0≤t.deadline:=fun t ht=>by
   unfold G1 at h;simp only [Af] at h;have:=LJ h.2 t ht;unfold FE F8 at this;simp only [Af,decide_eq_true_eq] at this;exact this.1.2.1.1.2
  generalize r.l=L at ht;induction L with
  | nil=>rfl
  | cons t L ih=>
   rw [List.foldl_cons];have:GK (-1) r t=r:=by
    unfold GK;have:=ht t bA;rw [if_pos bB]
   rw [this];exact ih (fun u hu=>ht u (by simp [hu]))
 ·rw [if_neg h]
theorem R1(c:D2):Q8 c=c:=by unfold Q8;rw [VG]
structure Xl(w:World)(v:CV)(c:D2)(a1:Option Addr)(c1:Nat)(a2:Option Addr)(c2:Nat)(a3:Option Addr)(c3:Nat)(pv:Value)(V:List SV)(wc:World):Prop where
 b0:Blk wc w.heap.size 36 #[dI a1 v.on c1,dI v.r.s.ga v.gn v.r.s.gc,dI v.r.s.ua v.un v.r.s.uc,dI v.r.s.fa v.fn v.r.s.fc,dI v.r.la v.ln v.r.lc,dH dN v.seq,pv,dH dN v.nx,dI a2 v.jn c2,dI a3 v.dn c3]
 b1:Blk wc (w.heap.size+1) 36 K3.k
 o:wc.ownsRow (w.heap.size+2) 40 2 (dI a1 v.on c1) v.on (c.ops.flatMap Fw)
 j:wc.ownsRow (w.heap.size+2) 78 24 (dI a2 v.jn c2) v.jn (c.jobs.flatMap encJob)
 d:wc.ownsRow (w.heap.size+2) 89 3 (dI a3 v.dn c3) v.dn (c.done.flatMap D7)
 p:Dy wc (w.heap.size+2) pv V
 m:Mt wc V c.pool.l
 kw:Aa [] w wc
theorem EA.mono{Q Q':Nat→Prop}{a:Option Addr}{n:Nat}(h:EA Q' a n)(hQ:∀y,Q y→Q' y):EA Q a n:=fun h0 g o e hq=>h h0 g o e (hQ g hq)
theorem CK.mono{Q Q':Nat→Prop}{v:Bm}{r:CE}(h:CK Q' v r)(hQ:∀y,Q y→Q' y):CK Q v r:=
 ⟨h.g.mono hQ,h.u.mono hQ,h.f.mono hQ,h.l.mono hQ,fun u hu=>⟨(h.t u hu).1.mono hQ,(h.t u hu).2.mono hQ⟩⟩
theorem Uh{w wc wd:World}{v:CV}{c:D2}{a1 a2 a3 a6:Option Addr}{c1 c2 c3 c6 k:Nat}{V':List SV}(h:Cm w v c)(HO:Xl w v c a1 c1 a2 c2 a3 c3 (dI a6 k c6) V' wc)(hle:k≤c6)(hvk:V'.length=k)(hk:k≤1000)
 {v2:Bm}{gn un fn ln:Nat}{seq:Int}(hq:seq=(Gi c.reg (-1)).seq)(hg:(Gi c.reg (-1)).slots.gens.length=gn)(hu:(Gi c.reg (-1)).slots.used.length=un)(hf:(Gi c.reg (-1)).slots.free.length=fn)(hl:(Gi c.reg (-1)).l.length=ln)
 (hm:Co wd v2 (Gi c.reg (-1)))(hn:CK (· < wc.heap.size) v2 (Gi c.reg (-1)))(hkd:Aa [] wc wd)(wF:World)(hF:Aa [w.heap.size,w.heap.size+1] wd wF):
  let v':CV:=⟨a1,v.on,c1,v2,gn,un,fn,ln,seq,a6,k,c6,V',v.nx,a2,v.jn,c2,a3,v.dn,c3⟩
  Cm wF v' (Q8 c)∧wF.ownsRow w.heap.size 78 24 (.slice v'.ja v'.jn v'.jc) v'.jn (c.jobs.flatMap encJob)∧(∀g,(dI v'.ja v'.jn v'.jc).ownBlock=some g→FV (· = g) v' (Q8 c))∧FV (· < w.heap.size) v' (Q8 c)∧Aa [] w wF:=by
 intro v';have hz:=HO.kw.size;have hzb:=HO.b1.lt;have o2:=Ak HO.o hkd bA;have j2:=Ak HO.j hkd bA;have d2:=Ak HO.d hkd bA;have hp:BF wd a6 c6 V' c.pool:=⟨by omega,by omega,by
  obtain⟨a',c',e1,_,hr⟩:=(HO.p.keeps hkd).row;rw [hvk] at e1;injection e1 with e1 _ _
  rw [e1];exact hr,HO.m.keeps hkd⟩
 have hM:Cm wd v' (Q8 c):=
  { on:=h.on,ol:=h.ol,os:=h.os,pn:=hvk,pl:=hk,nx:=h.nx,jn:=h.jn,jl:=h.jl,js:=h.js,dn:=h.dn,dl:=h.dl,o:=AJ.row (xs:=c.ops) Gw (by rw [h.on];exact o2),r:=hm,g:=hg,u:=hu,f:=hf,l:=hl,q:=hq.symm,p:=hp,j:=AJ.row (xs:=c.jobs) D8 (by rw [h.jn];exact j2),d:=AJ.row (xs:=c.done) EE (by rw [h.dn];exact d2) }
 have hQ:FV (fun y=>y=w.heap.size∨y=w.heap.size+1) v' (Q8 c):=
  ⟨DE o2 (fun g hg e=>by have:=(o2.lt g hg).1;omega),hn.mono (fun y hy=>by show y<wc.heap.size;omega),DE d2 (fun g hg e=>by have:=(d2.lt g hg).1;omega)⟩
 have hJ:EA (fun y=>y=w.heap.size∨y=w.heap.size+1) a2 v.jn:=DE j2 (fun g hg e=>by have:=(j2.lt g hg).1;omega);have hoff:Jy wd [w.heap.size,w.heap.size+1]:=fun y hy=>by
  rcases Ac.1 hy with rfl | hy
  ·exact⟨_,_,_,HO.b0.keeps hkd bA,by decide,by decide⟩
  ·obtain rfl:=Am.1 hy
   exact⟨_,_,_,HO.b1.keeps hkd bA,by decide,by decide⟩
 have hS:∀y∈[w.heap.size,w.heap.size+1],y=w.heap.size∨y=w.heap.size+1:=fun y hy=>by simpa using hy
 refine⟨hM.stay hQ hJ hF hS hoff,Bg (Ak j2 hF (fun g hg hm=>by have:=(j2.lt g hg).1;have:=hS g hm;omega)) bB,fun g hgb=>⟨?_,?_,?_⟩,⟨DE HO.o (fun g hg e=>by have:=(HO.o.lt g hg).1;omega),hn.mono YG,DE HO.d (fun g hg e=>by have:=(HO.d.lt g hg).1;omega)⟩,(HO.kw.trans hkd).own hF bF⟩
 ·exact DE HO.o (fun x hx e=>ER HO.o HO.j bE x g hx hgb e)
 ·exact hn.mono (fun y hy=>by rw [hy];exact(HO.j.lt g hgb).2)
 ·exact DE HO.d (fun x hx e=>ER HO.d HO.j bE x g hx hgb e)
end
section
open Go.RowKit Go.Shelf
attribute [local go_sem] Oper.semAt_some N5 N6 N3 N4
attribute [local go_sem ↓] Go.wp_at_zero Go.wp_at_succ
theorem Om(v:CV)(c:D2)(w:World)(h:Cm w v c):
  Calls Tryz.prog 57 #[dK (C_ v)] w fun e w'=>∃v',e = dM (dK (ctlA v'))∧Cm w' v' c∧v'.jn=v.jn∧w'.ownsRow w.heap.size 78 24 (.slice v'.ja v'.jn v'.jc) v'.jn (c.jobs.flatMap encJob)∧(∀g,(dI v'.ja v'.jn v'.jc).ownBlock=some g→FV (· = g) v' c)∧FV (· < w.heap.size) v' c∧Aa [] w w':=by
 obtain⟨w0,hw0⟩:=eX ((w.alloc (.cells (C_ v) 36)).alloc (.cells K3.k 36));have hk0:Aa [] w w0:=by rw [← hw0];exact((Aa.refl [] w).alloc _).alloc _
 have hs0:w0.heap.size=w.heap.size+2:=by rw [← hw0];simp
 have hb0:Blk w0 w.heap.size 36 (C_ v):=by rw [← hw0];exact(Blk.new w _ _).alloc _
 have hb1:Blk w0 (w.heap.size+1) 36 K3.k:=by rw [← hw0];exact Aq _ _ _ _ bA
 have HB0:=lH hb0;have HB1:=lH hb1;have HK0:=lH hk0;have HS0:=lH hs0;have HR:=lH (h.p.keeps hk0).row;have HM:=lH (h.p.keeps hk0).mt;have HN:=lH h.pn;have hpl:=h.pl;have H:=lH h;have q:=hb0.rl;obtain⟨V,hV⟩:=eX (v.pv);obtain⟨L,hL⟩:=eX (c.pool.l);obtain⟨n,hn⟩:=eX (v.pn);obtain⟨pa,hpa⟩:=eX (v.pa);rw [hV] at HR HM HN;rw [hL] at HM;rw [hn] at HN hpl;rw [hpa] at HR;have HV:=lH hV;have HL:=lH hL;have HNN:=lH hn;rw [hn,hpa] at q hw0 ⊢;clear h hk0 hs0 hb0 hb1 hV hL hn hpa;go_enter Tryz.func57,Tryz.ntmps57;go_wp2;clear hw0 q;go_loopw [3,10] (fun u i wr=>∃(k:Nat) (V':List SV),k≤n∧i = dH dN k∧V'.length=k∧Hid (Dy wr w0.heap.size u V')∧Hid (Mt wr V' (L.take k))∧Hid (Below w0.heap.size w0 wr)) (fun _ i _=>n - (intOf i).toNat)
 case atStart=>exact⟨0,[],Cy _,rfl,rfl,lH (.inl ⟨rfl,rfl⟩),lH trivial,lH (Below.refl _ w0)⟩
 case round=>
  obtain⟨k,V',hk,rfl,hvk,HS,HT,HB⟩:=hrel;have HVK:=lH hvk;clear hvk;by_cases hlt:k<n
  ·have hk1:k<V.length:=by rw [HN.out];exact hlt
   have hkL:k<L.length:=by rw [← HM.out.len];exact hk1
   have hm:=HM.out.get k hk1 hkL;obtain⟨g,off,cs0,fz0,rfl,hgb,hat⟩:=HR.out YA;have hg:=(Aj.1 hgb).1;clear hgb;obtain⟨y,hy⟩:=eX (V[k]);obtain⟨s,hs2⟩:=eX (L[k]);have q1:=hat k hk1;rw [hy] at q1 hm;rw [hs2] at hm;obtain⟨p0,p1,p2⟩:=q1;have hkw:=Aa.of_below HB.out [];rw [← hkw.cell (by exact hg) bA] at p0 p1 p2;have i1:(0:Int)≤(k:Int):=by omega
   have i2:(k:Int)<(n:Int):=by omega
   have hb:=Blk.new wr 43 (N_ y);have d1:=hb.cell 1;have hk0:=(Aa.refl [] wr).alloc (.cells (N_ y) 43);have HST:=lH (hm.2.2.2.keeps (hkw.trans hk0));have HIL:=lH hm.2.2.1;have HM1:=lH hm;have HLS:Hid (L[k]? = some s):=lH (by rw [Au hkL,hs2]);have HBX:=lH hb;have HK0':=lH hk0;clear hat hy hs2 hm hkw hb hk0 hk1 hkL;go_wp2_with (fail);refine(Ft y.ia y.ic s.items y.il HIL.out.symm _ HST.out).mono ?_;rintro r w2 ⟨a',c',rfl,hst,hkc,hfr⟩;clear hfr;have HST2:=lH hst;have hb2:=HBX.out.keeps hkc bA;have e0:=hb2.cell 0;have e1:=hb2.cell 1;have e2:=hb2.cell 2;have f1:=hb2.frozen 1;have HB2:=lH (hb2.set_ 1 (.slice a' y.il c'));have HK2:=lH ((HK0'.out.trans hkc).setCell (p:=⟨wr,1,none⟩) (.inr (Ap _)) (.slice a' y.il c'));have HK3:=lH (Aa.setCell (S:=[wr.heap.size]) (Aa.refl _ w2) (p:=⟨wr,1,none⟩) (.inl bA) (.slice a' y.il c'));have HNS:Hid (GS w2 [wr.heap.size]):=lH (fun k hk cs fz h=>by
    simp at hk;subst hk;have h':w2.heap[wr.heap.size]? = some (.cells (N_ y) 43 (0,0)):=hb2;rw [h'] at h;injection h with h;injection h with _ h3 _
    exact absurd h3 bE)
   clear hst hkc hb2 d1 p0 p1 p2;obtain⟨x,hx⟩:∃x:SV,x=⟨y.cur,a',y.il,c',y.used⟩:=⟨_,rfl⟩;have hx1:Nc (w2.setCell ⟨wr,1,none⟩ (.slice a' y.il c')) x s:=by
    rw [hx];exact⟨HM1.out.1,HM1.out.2.1,HIL.out,HST2.out.keepsS HK3.out HNS.out⟩
   have hk4:=(Aa.refl [] (w2.setCell ⟨wr,1,none⟩ (.slice a' y.il c'))).alloc (.cells x.arr 43);have hsz:w0.heap.size≤wr.heap.size:=HB.out.size;have hsr:=(HS.out.keeps HK2.out).keeps hk4;obtain⟨v9,w9,hrun,hs9,hk9⟩:=hsr.push (by rw [HVK.out];omega) (by have:=HK2.out.size;simp [World.setCell] at this ⊢;omega) _ x (Blk.new (w2.setCell ⟨wr,1,none⟩ (.slice a' y.il c')) 43 x.arr) 30;have hm9:Mt w9 (V'++[x]) (L.take (k+1)):=by
    rw [Eo HLS.out];exact((HT.out.keeps HK2.out).keeps hk4 |>.strK hk9).app ⟨(hx1.keeps hk4).strK hk9,trivial⟩
   have hb9:Below w0.heap.size w0 w9:=(HB.out.trans ((HK2.out.trans hk4).below hsz bA)).trans hk9.low;rw [hx] at hrun;simp only [SV.arr] at hrun;rw [show(w2.setCell ⟨wr,1,none⟩ (.slice a' y.il c')).heap.size=w2.heap.size by simp [World.setCell]] at hrun;have HS9:=lH hs9;have HM9:=lH hm9;have HB9:=lH hb9;have g0:=HB2.out.cell 0;have g1:=HB2.out.cell 1;have g2:=HB2.out.cell 2;simp only [An,Aw,Av,Ai,Ah,Al] at g0 g1 g2;have hlen9:(V'++[x]).length=k+1:=by rw [Ag,HVK.out];rfl
   have HL9:=lH hlen9;clear hx1 hk4 hsr hs9 hk9 hm9 hb9 hlen9 hx;go_wp2_with (at_builtin;refine wpList_append_run _ rfl _ _ 30 rfl rfl rfl hrun ?_);go_roundw;case rel=>exact⟨k+1,V'++[x],by omega,by go_num,HL9.out,HS9,HM9,HB9⟩
   case measure=>simp [intOf];omega
  ·obtain rfl:k=n:=by omega
   have ht:L.take k=L:=Ax (by rw [← HM.out.len,HN.out];exact Ap _);have hm:=HT.out;rw [ht] at hm;have HM9:=lH hm;clear ht hm;have hkw:=Aa.of_below HB.out [];obtain⟨a6,c6,hu,hle,_⟩:=HS.out.row;rw [HVK.out] at hu;subst hu;have hb:=HB0.out.keeps hkw bA;have q:=hb.rl;obtain⟨w3,hw3⟩:=eX (wr.setCell ⟨w,6,none⟩ (dI a6 (k:Nat) c6));have hk3:Aa [w.heap.size] wr w3:=by rw [← hw3];exact Ae _ _ _ _
   have hbw:w.heap.size<w0.heap.size:=HB0.out.lt;have HB3:Hid (Blk w3 w.heap.size 36 #[dI v.oa v.on v.oc,dI v.r.s.ga v.gn v.r.s.gc,dI v.r.s.ua v.un v.r.s.uc,dI v.r.s.fa v.fn v.r.s.fc,dI v.r.la v.ln v.r.lc,dH dN v.seq,dI a6 k c6,dH dN v.nx,dI v.ja v.jn v.jc,dI v.da v.dn v.dc]):=lH (by rw [← hw3];exact hb.set_ 6 (dI a6 k c6));have HB31:=lH ((HB1.out.keeps hkw bA).keeps hk3 bA);have hoff:Jy wr [w.heap.size]:=Jy.blk hb bE bE;have HS3:Hid (Dy w3 w0.heap.size (dI a6 k c6) V'):=lH (by
    rcases HS.out with⟨h1,h2⟩ | ⟨g,off,cap,h1,h2,h3,h4,h5,h6⟩
    ·exact .inl ⟨h1,h2⟩
    ·have hgb:=hk3.block g h3.lt bG
     exact .inr ⟨g,off,cap,h1,h2,h3.same hgb,h4,h5,h6.same hgb⟩)
   have HM3:=lH (HM9.out.keepsS hk3 hoff.str);have HK3:Hid (Aa [] w w3):=lH ((HK0.out.trans hkw).own hk3 bF);have hsz3:w3.heap.size=wr.heap.size:=by rw [← hw3];simp [World.setCell]
   clear hkw hb hk3 hoff;go_upto_region 9 with(fail)
   clear hw3 q;go_cut [3] (fun x wc=>∃a1 c1 a2 c2 a3 c3,Hid (Xl w v c a1 c1 a2 c2 a3 c3 (dI a6 k c6) V' wc))
   case first=>
    have hs3:w0.heap.size≤w3.heap.size:=by have:=HB.out.size;have h1:=hsz3;omega
    clear hsz3;have HS3Z:=lH hs3;have r3:=HB3.out.rl;have HFIN:Hid (∀w4 w5 w6 a1 c1 a2 c2 a3 c3,Aa [] w3 w4→w4.ownsRow w3.heap.size 40 2 (dI a1 v.on c1) v.on (c.ops.flatMap Fw)→Aa [] w4 w5→w5.ownsRow w4.heap.size 78 24 (dI a2 v.jn c2) v.jn (c.jobs.flatMap encJob)→Aa [] w5 w6→w6.ownsRow w5.heap.size 89 3 (dI a3 v.dn c3) v.dn (c.done.flatMap D7)→
      Xl w v c a1 c1 a2 c2 a3 c3 (dI a6 k c6) V' (((w6.setCell ⟨w,0,none⟩ (dI a1 v.on c1)).setCell ⟨w,8,none⟩ (dI a2 v.jn c2)).setCell ⟨w,9,none⟩ (dI a3 v.dn c3))):=lH (by
     intro w4 w5 w6 a1 c1 a2 c2 a3 c3 k4 o4 k5 o5 k6 o6;have hs0:=HS0.out;have hs3:=HS3Z.out;have hz4:=k4.size;have hz5:=k5.size;have hz6:=k6.size;have hb6:=((HB3.out.keeps k4 bA).keeps k5 bA).keeps k6 bA;have hbF:=((hb6.set_ 0 (dI a1 v.on c1)).set_ 8 (dI a2 v.jn c2)).set_ 9 (dI a3 v.dn c3);have hkF:Aa [w.heap.size] w6 (((w6.setCell ⟨w,0,none⟩ (dI a1 v.on c1)).setCell ⟨w,8,none⟩ (dI a2 v.jn c2)).setCell ⟨w,9,none⟩ (dI a3 v.dn c3)):=((Ae w6 w.heap.size 0 _).trans (Ae _ _ _ _)).trans (Ae _ _ _ _);have hoff:Jy w6 [w.heap.size]:=Jy.blk hb6 bE bE;have k36:=(k4.trans k5).trans k6;refine⟨hbF,(HB31.out.keeps k36 bA).keeps hkF bI,?_,?_,?_,?_,?_,(HK3.out.trans k36).own hkF bF⟩
     ·exact Ak (Ak (Bg o4 bB) (k5.trans k6) bA) hkF (fun g hg hm=>by have:=(o4.lt g hg).1;simp only [Ac,Ab,or_false] at hm;omega)
     ·exact Ak (Ak (Bg o5 bB) k6 bA) hkF (fun g hg hm=>by have:=(o5.lt g hg).1;simp only [Ac,Ab,or_false] at hm;omega)
     ·exact Ak (Bg o6 bB) hkF (fun g hg hm=>by have:=(o6.lt g hg).1;simp only [Ac,Ab,or_false] at hm;omega)
     ·rcases HS3.out.keeps k36 with⟨h1,h2⟩ | ⟨g,off,cap,h1,h2,h3,h4,h5,h6⟩
      ·exact .inl ⟨h1,h2⟩
      ·have hgb:=hkF.block g h3.lt bI
       exact .inr ⟨g,off,cap,h1,by omega,h3.same hgb,h4,h5,h6.same hgb⟩
     ·rw [HL.out];exact(HM3.out.keeps k36).keepsS hkF hoff.str)
    refine CD (b:=10) (S:=(Aa [] w3)) bC Zm (fun hHeld=>?_);refine tK 0 ?_;refine tK 1 ?_;refine tK 3 ?_;refine tK 4 ?_;refine tK 6 ?_;refine tK 7 ?_;refine tC 2 fun K hK=>?_;go_simp
    (refine(IQ v.oa v.oc c.ops v.on H.out.on (by have:=H.out.ol;omega) _ (H.out.o.keeps (HK3.out.trans hHeld))).mono ?_;rintro e w4 ⟨a1,c1,rfl,hs4,ho4,hk4⟩;clear hs4;have hk4':=((Aa.refl [] w3).drew).trans hk4)
    (try clear rH);refine tP hK Zm fun rH hHeld=>?_;clear hK K
    refine tK 9 ?_;refine tC 5 fun K hK=>?_;go_simp
    (refine(Rl v.ja v.jc c.jobs v.jn H.out.jn (by have:=H.out.jl;omega) _ (H.out.j.keeps (HK3.out.trans hHeld))).mono ?_;rintro e w5 ⟨a2,c2,rfl,hs5,ho5,hk5⟩;clear hs5;have hk35:=hk4'.trans hk5)
    (try clear rH);refine tP hK Zm fun rH hHeld=>?_;clear hK K
    refine tC 8 fun K hK=>?_;go_simp
    (refine(IP v.da v.dc c.done v.dn H.out.dn (by have:=H.out.dl;omega) _ (H.out.d.keeps (HK3.out.trans hHeld))).mono ?_;rintro e w6 ⟨a3,c3,rfl,hs6,ho6,hk6⟩;clear hs6;have hk36:=hk35.trans hk6;have r6:=(HB3.out.keeps hk36 bA).rl)
    (try clear rH);refine tP hK Zm fun rH hHeld=>?_;clear hK K
    refine tS fun K hK=>?_;go_simp
    (try clear rH);(try clear hHeld);refine tT hK fun hHeld=>?_;clear hK K
    refine rQ 11 ?_;refine rC 12 fun K hK=>?_;go_simp;refine rO hK (trivial) fun hHeld=>?_;clear hK K;refine rQ 13 ?_;refine rC 14 fun K hK=>?_;go_simp;refine rO hK (trivial) fun hHeld=>?_;clear hK K;refine wpAnyH_done bC ?_ _
    (go_wp2_with (fail);go_meet;exact⟨a1,c1,a2,c2,a3,c3,lH (HFIN.out w4 w5 w6 a1 c1 a2 c2 a3 c3 hk4' ho4 hk5 ho5 hk6 ho6)⟩)
   case rest=>
    obtain⟨a1,c1,a2,c2,a3,c3,HO⟩:=hcut
    rename World=>wc
    have r:=HO.out.b0.rl;have HRK:=lH (H.out.r.keeps HO.out.kw);go_wp2_with (fail);refine(Sw v.r c.reg v.gn v.un v.fn v.ln H.out.g H.out.u H.out.f H.out.l v.seq H.out.q (-1) _ HRK.out).mono ?_;rintro e wd ⟨v2,gn,un,fn,ln,seq,rfl,hq2,hg2,hu2,hf2,hl2,hm2,hn2,hkd⟩;obtain⟨we,hwe⟩:=eX (((((wd.setCell ⟨w,1,none⟩ (dI v2.s.ga gn v2.s.gc)).setCell ⟨w,2,none⟩ (dI v2.s.ua un v2.s.uc)).setCell ⟨w,3,none⟩ (dI v2.s.fa fn v2.s.fc)).setCell ⟨w,4,none⟩ (dI v2.la ln v2.lc)).setCell ⟨w,5,none⟩ (dH dN seq));obtain⟨v',hv'⟩:∃v':CV,(⟨a1,v.on,c1,v2,gn,un,fn,ln,seq,a6,k,c6,V',v.nx,a2,v.jn,c2,a3,v.dn,c3⟩:CV)=v':=⟨_,rfl⟩;have hbd:=HO.out.b0.keeps hkd bA;have r2:=hbd.rl;have hBE:Blk we w.heap.size 36 (ctlA v'):=by rw [← hwe,← hv'];exact((((hbd.set_ 1 (dI v2.s.ga gn v2.s.gc)).set_ 2 (dI v2.s.ua un v2.s.uc)).set_ 3 (dI v2.s.fa fn v2.s.fc)).set_ 4 (dI v2.la ln v2.lc)).set_ 5 (dH dN seq)
    have hke:Aa [w.heap.size] wd we:=by rw [← hwe];exact((((Ae wd w.heap.size 1 _).trans (Ae _ _ _ _)).trans (Ae _ _ _ _)).trans (Ae _ _ _ _)).trans (Ae _ _ _ _)
    have hBE1:=(HO.out.b1.keeps hkd bA).keeps hke bI;have HRG:=lH (hBE.rng 0 (ctlA v') (fun j x hx=>by rw [BI];simpa using hx));have HBE1:=lH hBE1;have HFIN:=lH (Uh H.out HO.out (by rw [HVK.out] at hle;exact hle) HVK.out hpl hq2 hg2 hu2 hf2 hl2 hm2 hn2 hkd);have HJN:Hid (v'.jn=v.jn):=lH (by rw [← hv']);have HKE:=lH hke;rw [hv'] at HFIN;clear hq2 hg2 hu2 hf2 hl2 hm2 hn2 hkd hbd hBE hke hBE1 r hv' HRK;go_wp2_with (first | (refine BV bD 36 _ bD w.heap.size 0 bD (ctlA v') _ HRG.out Tryz.underlying36 rfl (AQ v') ?_) | (refine wpList_store_row bD 36 _ _ bD (w.heap.size+1) (ctlA v') bD bD 36 K3.k HBE1.out (AQ v') rfl (Bl v') ?_));obtain⟨hm,ho,hs,hlo,hk'⟩:=HFIN.out (we.setRow (w.heap.size+1) (ctlA v')) ((HKE.out.mono bA).trans ((Bh we (w.heap.size+1) (ctlA v')).mono bA));rw [R1] at hm hlo;simp only [R1] at hs;refine bodyPost_ret (v:=dK (ctlA v')) ?_ rfl ⟨v',rfl,hm,HJN.out,ho,hs,hlo,hk'⟩;exact results_cell_row rfl _ _ (w.heap.size+1) 36 (ctlA v') (0,0) _ rfl (HBE1.out.row _) Tryz.underlying36 rfl (AQ v')
end
end Go.Proofs.YtcjdkbgdahgjbaaGreatDoor
