/- Steps of the proof: ErrD, ErrC, Goto, SnapW, SnapWB, SnapWC, Law, Laid2. -/
import Derived.Test.YtcjdkbgdahgjbaaGreatDoorK0
import Derived.Test.YtcjdkbgdahgjbaaGreatDoorKak
import Derived.ScopeJumps
import Derived.WalkMore
import Derived.ProofKit
import Derived.OpenShut
import Derived.ShutString
import Derived.JoinedCond
import Derived.ChangeSame
set_option maxRecDepth 100000
set_option maxHeartbeats 8000000
set_option linter.all false
namespace Go.Proofs.YtcjdkbgdahgjbaaGreatDoor
open _root_.Bool renaming and_eq_true→Af
open Ending renaming returned→dM
open IntKind renaming i64→dN
open _root_.List renaming all_eq_true→BB,append_assoc→CO,forall_mem_cons→Ay,getElem?_eq_getElem→Au,mem_append→AF,mem_cons_of_mem→Ci,mem_cons→Ac,mem_singleton→Am,take_append_drop→Bj
open _root_.Nat renaming le_refl→Ap
open Value renaming agg→dK,bool→dL,int→dH
section
namespace ErD
open Go.RowKit Go.Extern.Stop Go.Stop Go.Extern
theorem told_nil(w:World):Calls Tryz.prog 246 #[.nilIface] w fun e w'=>e = dM (dH dN 0)∧Aa [] w w':=by
 go_enter Tryz.func246,Tryz.ntmps246;go_wp2_with (go_at_call 106;refine(PM _ _).mono ?_;rintro e w' ⟨rfl,rfl⟩);go_ret;exact⟨rfl,(Aa.refl [] w).alloc _⟩
theorem told_why(n:Int)(w:World)(hg:Et w):Calls Tryz.prog 246 #[.iface 430 (dK #[dH dN n])] w fun e w'=>e = dM (dH dN n)∧Aa [] w w':=by
 have hE:Et (w.alloc (.cells #[dH dN 0] 430)):=hg.keeps ((Aa.refl [] w).alloc _) bA;have hb:=Blk.new w 430 #[dH dN 0];have HE:=lH hE;have HB:=lH hb;clear hE hb hg;go_enter Tryz.func246,Tryz.ntmps246;go_wp2_with (fail);refine(Nn (sT:=430) (pT:=433) (by simp [Ko]) n ⟨w,0,none⟩ _ _ HE.out (HB.out.cell 0) (HB.out.frozen 0)).mono ?_;rintro e w' ⟨rfl,hw⟩;have hc:w'.cell? ⟨w,0,none⟩=some (dH dN n):=by
  rw [hw];exact((((HB.out.alloc _).alloc _).alloc _).alloc _ |>.set_ 0 (dH dN n)).cell 0
 have hk:Aa [] w w':=by
  rw [hw];exact((((((Aa.refl [] w).alloc _).alloc _).alloc _).alloc _).alloc _).setCell (p:=⟨w,0,none⟩) (.inr (Ap _)) _
 have HK:=lH hk;clear hw hk;go_wp2;go_ret;exact⟨rfl,HK.out⟩
end ErD
namespace ErC
open Go.RowKit Go.Extern.Stop Go.Stop Go.Extern
theorem told_why(n:Int)(w:World)(hg:Et w):Calls Tryz.prog 58 #[.iface 146 (dK #[dH dN n])] w fun e w'=>e = dM (dH dN n)∧Aa [] w w':=by
 have hE:Et (w.alloc (.cells #[dH dN 0] 146)):=hg.keeps ((Aa.refl [] w).alloc _) bA;have hb:=Blk.new w 146 #[dH dN 0];have HE:=lH hE;have HB:=lH hb;clear hE hb hg;go_enter Tryz.func58,Tryz.ntmps58;go_wp2_with (fail);refine(Nn (sT:=146) (pT:=226) (by simp [Ko]) n ⟨w,0,none⟩ _ _ HE.out (HB.out.cell 0) (HB.out.frozen 0)).mono ?_;rintro e w' ⟨rfl,hw⟩;have hc:w'.cell? ⟨w,0,none⟩=some (dH dN n):=by
  rw [hw];exact((((HB.out.alloc _).alloc _).alloc _).alloc _ |>.set_ 0 (dH dN n)).cell 0
 have hk:Aa [] w w':=by
  rw [hw];exact((((((Aa.refl [] w).alloc _).alloc _).alloc _).alloc _).alloc _).setCell (p:=⟨w,0,none⟩) (.inr (Ap _)) _
 have HK:=lH hk;clear hw hk;go_wp2;go_ret;exact⟨rfl,HK.out⟩
end ErC
theorem NL{P:Program}{a:Act}{w:World}{Q:Exit→Act→World→Prop}{c rest:Code}(l:Nat)(hf:findLabel c l=some rest)
 (h:c.wp P (Exit.jump l (fun a' w'=>rest.wp P (Exit.noGoto Q) a' w') Q) a w):(Code.scope c).wp P Q a w:=
 wp_scope_jumps l (fun a' w'=>rest.wp P (Exit.noGoto Q) a' w') (fun _ _=>0) hf h fun a w hJ=>wp_mono hJ fun e a' w' hq=>by
  cases e<;>first | exact hq | exact hq.elim
structure Ok(p:Po):Prop where
 n1:1≤p.next
 n2:p.next≤1000000000000
 len:p.l.length≤3
 cur:∀s∈p.l,1≤s.cur∧s.cur<p.next
 ap:p.l.Pairwise fun s t=>s.cur≠t.cur
 us:∀s∈p.l,0≤s.used∧s.used≤1000000000000
 so:p.l.Pairwise fun s t=>s.used≤t.used
 wh:∀s∈p.l,Dl s.items=true
theorem Mv{next:Int}: ∀(l:List Sn) (met:List Int),Ca next met l=true↔(∀s∈l,(1≤s.cur∧s.cur<next)∧s.cur∉met)∧l.Pairwise fun s t=>s.cur≠t.cur
 | [],met=>by simp [Ca]
 | x::l,met=>by
  rw [Ca,Af,Mv l,List.pairwise_cons];simp only [Iy,Af,Bool.not_eq_true',decide_eq_true_eq,AF,Am,not_or,Ay,List.contains_eq_mem,decide_eq_false_iff_not];constructor
  ·rintro⟨⟨⟨h1,h2⟩,h3⟩,h4,h5⟩
   exact⟨⟨⟨⟨h2,h3⟩,h1⟩,fun s hs=>⟨(h4 s hs).1,(h4 s hs).2.1⟩⟩,fun s hs h=>(h4 s hs).2.2 h.symm,h5⟩
  ·rintro⟨⟨⟨⟨h2,h3⟩,h1⟩,h4⟩,h6,h5⟩
   exact⟨⟨⟨h1,h2⟩,h3⟩,fun s hs=>⟨(h4 s hs).1,(h4 s hs).2,fun h=>h6 s hs h.symm⟩,h5⟩
theorem LD:∀(l:List Sn) (last:Int),Bq last l=true↔(∀s∈l,last≤s.used∧s.used≤1000000000000)∧l.Pairwise fun s t=>s.used≤t.used
 | [],last=>by simp [Bq]
 | x::l,last=>by
  rw [Bq,Af,LD l,List.pairwise_cons];simp only [Gj,Af,decide_eq_true_eq,Ay];constructor
  ·rintro⟨⟨h1,h2⟩,h3,h4⟩
   exact⟨⟨⟨h1,h2⟩,fun s hs=>⟨by have:=(h3 s hs).1;omega,(h3 s hs).2⟩⟩,fun s hs=>(h3 s hs).1,h4⟩
  ·rintro⟨⟨⟨h1,h2⟩,h3⟩,h5,h4⟩
   exact⟨⟨h1,h2⟩,fun s hs=>⟨h5 s hs,(h3 s hs).2⟩,h4⟩
theorem MN(p:Po):DC p=true↔Ok p:=by
 simp only [DC,FW,E3,Af,decide_eq_true_eq,Mv,LD,BB];constructor
 ·rintro⟨⟨⟨⟨⟨h1,h2⟩,h3⟩,h4,h5⟩,h6,h7⟩,h8⟩
  exact⟨h1,h2,h3,fun s hs=>(h4 s hs).1,h5,h6,h7,h8⟩
 ·intro h
  exact⟨⟨⟨⟨⟨h.n1,h.n2⟩,h.len⟩,fun s hs=>⟨h.cur s hs,by simp⟩,h.ap⟩,h.us,h.so⟩,h.wh⟩
theorem Ry{l:List Sn}{now:Int}(hu:∀s∈l,0≤s.used)(hs:l.Pairwise fun s t=>s.used≤t.used):Eb l≤now↔0≤now∧∀s∈l,s.used≤now:=by
 rcases List.eq_nil_or_concat l with rfl | ⟨m,x,rfl⟩
 ·simp [Eb]
 ·rw [List.concat_eq_append] at hu hs ⊢
  have h1:Eb (m++[x])=x.used:=by simp [Eb]
  rw [h1];rw [List.pairwise_append] at hs;constructor
  ·intro h
   refine⟨by have:=hu x bA;omega,fun s hm=>?_⟩;rw [AF,Am] at hm;rcases hm with hm | rfl
   ·have:=hs.2.2 s hm x bA;omega
   ·exact h
  ·rintro⟨_,h⟩
   exact h x bA
structure cQ(p:Po)(now:Int):Prop where
 ok:Ok p
 t0:0≤now
 t1:now≤1000000000000
 le:∀s∈p.l,s.used≤now
theorem Sd(p:Po)(now:Int):Cr p now=true↔cQ p now:=by
 simp only [Cr,Af,decide_eq_true_eq,MN];constructor
 ·rintro⟨⟨h1,h2⟩,h3⟩
  rw [Ry (fun s hs=>(h1.us s hs).1) h1.so] at h2;exact⟨h1,h2.1,h3,h2.2⟩
 ·intro h
  exact⟨⟨h.ok,(Ry (fun s hs=>(h.ok.us s hs).1) h.ok.so).2 ⟨h.t0,h.le⟩⟩,h.t1⟩
def cY(xs:List ByteArray)(f n:Int):List ByteArray:=(xs.drop f.toNat).take (Jd xs.length f n - f).toNat
def cZ(xs:List ByteArray)(f n:Int):Int:=if Jd xs.length f n=xs.length then -1 else Jd xs.length f n
theorem MI{p:Po}{cursor f n now:Int}{q:Po}{page:List ByteArray}{nx err:Int}(h:GH p cursor f n now=(q,page,nx,err)):
  (q=QH∧page = []∧nx=0∧¬err=0)∨(∃l1 l2 s,p.l=l1++s::l2∧cQ p now∧s.cur=cursor∧now - s.used<1000∧0≤f∧f≤s.items.length∧1≤n∧n≤10∧q=⟨l1++l2++[{ s with used:=now }],p.next⟩∧page=cY s.items f n∧nx=cZ s.items f n∧err=0):=by
 unfold GH at h;split at h
 ·rename_i hc
  split at h
  ·cases h;exact .inl ⟨rfl,rfl,rfl,by decide⟩
  ·rename_i hn
   split at h
   ·cases h;exact .inl ⟨rfl,rfl,rfl,by decide⟩
   ·rename_i i hi
    obtain⟨hl,hf⟩:=KU hi;simp only [Gb,EG,Af,beq_iff_eq,decide_eq_true_eq] at hf;rw [Au hl] at h;cases h;refine .inr ⟨p.l.take i,p.l.drop (i+1),p.l[i],?_,(Sd _ _).1 hc,hf.1.1.1,hf.1.1.2,hf.1.2,hf.2,by omega,by omega,?_,rfl,rfl,rfl⟩
    ·rw [List.getElem_cons_drop,Bj]
    ·rw [List.eraseIdx_eq_take_drop_succ]
 ·cases h;exact .inl ⟨rfl,rfl,rfl,by decide⟩
end
section
open Go.RowKit Go.WideShapes Go.ChangeShapes
section
variable {H:Type} {enc:TypeId×Value→H} {P:Program}
theorem Io(hl:laidOutB P=true){W W':World}(hb:Below W.heap.size W W'){sp':Nat→Bool}:
  ∀ {ts:List TypeId} {vs:List Value} {ds:List (DataW H)} {ps:List MemPlace},(∀t∈ts,P.readableRec t=true∧t<P.types.size)→
   DataW.TrodAll enc P W 0 (fun _=>true) true ts vs ds ps→(∀x∈ps,x.block<W.heap.size)→(∀x∈ps,sp' x.block=true)→DataW.TrodAll enc P W' 0 sp' true ts vs ds ps
 | [],[],[],_,_,h,_,_=>h
 | t::ts,v::vs,d::ds,_,ht,h,hlt,hsp=>by
  obtain⟨p,q,h1,h2,rfl⟩:=h;refine⟨p,q,?_,Io hl hb (fun t' ht'=>ht t' (Ci _ ht')) h2 (fun x hx=>hlt x (by simp [hx])) (fun x hx=>hsp x (by simp [hx])),rfl⟩;exact WideElems.Trod_stays hl (ht t bA).1 (ht t bA).2 h1 (fun x hx=>hb.same (hlt x (by simp [hx]))) (fun x hx=>hsp x (by simp [hx]))
theorem UK{f:Func}{s:ChangeSpec}{apart fresh handsOn again:Bool}{W W':World}{args:Array Value}{ds gs:List (DataW H)}{before:List MemPlace}{tb:TypeId}
 (hl:laidOutB P=true)(hts:∀t∈f.params.toList,P.readableRec t=true∧t<P.types.size)(hvs:s.vars = [])(hrt:f.resultTypes=#[tb])(hub:P.underlying tb=some .bool)
 (hW:DataW.Whole enc P f.params.toList s.vars apart W args.toList ds gs before)(hb:Below W.heap.size W W')
 (hs:(s.fn H (ds++gs)).results = [.lit (.bool true)]∧(s.fn H (ds++gs)).args=ds∧(s.fn H (ds++gs)).vars = []):
  s.post enc P f apart fresh handsOn again W args (dL true) W':=by
 have hW':=hW;obtain⟨p,q,hA,hV,rfl,hfz,hnd⟩:=hW';rw [hvs] at hV;obtain⟨rfl,rfl⟩:=trodVars_none hV;have hlt:∀x∈p++[],x.block<W.heap.size:=fun x hx=>hW.lt x hx;have hargs:∀sp:Nat→Bool,(∀x∈p++[],sp x.block=true)→DataW.TrodAll enc P W' 0 sp true f.params.toList args.toList ds p:=fun sp hsp=>
  Io hl hb hts hA (fun x hx=>hlt x Yh) (fun x hx=>hsp x Yh)
 have hres:∀(b:Nat) (sp:Nat→Bool) (hd:Bool),DataW.TrodAll enc P W' b sp hd f.resultTypes.toList ((dL true).resultList f.resultTypes.size) (s.fn H (ds++[])).results []:=fun b sp hd=>by
  rw [hs.1,hrt];exact trodAll_cons_mk (shut_bool hub true) trodAll_mk0
 have hold:∀x∈p++[],(fun b=>decide (b<W.heap.size)) x.block=true:=fun x hx=>by simpa using hlt x hx
 have hvars:∀sp:Nat→Bool,DataW.TrodVars enc P W' sp s.vars (s.fn H (ds++[])).vars []:=fun sp=>by rw [hvs,hs.2.2];rfl
 refine⟨ds,[],p++[],[],p,[],hW,hres _ _ _,by rw [hs.2.1];exact hargs _ hold,hvars _,World.keptBut_mono (fun x hx=>⟨hx,?_⟩) (hb.frame (·∈p++[])),fun _=>?_⟩
 ·rw [AF] at hx
  exact Or.inr Yh
 ·refine⟨?_,_,_,([]++p)++[],⟨[]++p,[],trodAll_append (hargs _ (fun _ _=>rfl)) (hres _ _ _),hvars _,rfl,?_,?_⟩,?_⟩
  ·intro j t r ht hr
   rw [hrt] at ht hr
   match j with
   | 0=>
    simp at ht;obtain rfl:r = dL true:=by simpa [Value.resultList] using hr.symm
    subst ht;exact okWide_bool_mk hub true
   | j+1=>simp at ht
  ·intro b off hp
   have hin:MemPlace.cell b off∈p++[]:=by simpa using hp
   rw [hb.frozen (hlt _ hin)];exact hfz b off hin
  ·intro ha
   simpa using hnd ha
  ·intro x hx _
   simpa using hx
end
end
section
open Go.RowKit Go.ChangeShapes
def Pq(nm:String)(x:String×Nat×List UInt8):String×DataW Unit:=(x.1,.iface nm (.ptr (.agg [.lit (.string x.2.2)])))
theorem GF{P:Program}{nm:String}{W:World}{ti tp te ts:TypeId}{ms:Array (String×TypeId)}{f:Field}
 (hi:P.underlying ti=some (.interface ms))(hrow:∀u,P.typeName? 3 u=some nm→u=tp)
 (hp:P.underlying tp=some (.pointer te))(he:P.underlying te=some (.struct #[f]))(hft:f.type=ts)(hfo:f.offset=0)(hs:P.underlying ts=some .string)(hc:P.cellsOf te=1)(hcs:P.cellsOf ts=1):
  ∀(l:List (String×Nat×List UInt8)) (ps:List MemPlace),DataW.LaidVars P W (l.map (Pq nm)) ps→ps.Nodup→
   (∀b off,MemPlace.cell b off∈ps→(∃c t,W.heap[b]? = some (.cells c t (0,0)))∧∀u v,W.cell? ⟨b,off,none⟩=some (.iface u v)→Value.okWide P W .any 0 u v)→
   (∀x∈l,P.globalNamed x.1=some x.2.1∧(P.globals[x.2.1]?).map (·.type)=some ti)→(l.map (·.2.1)).Nodup→
   ∃e:Nat→Addr,Fe W tp (l.map (·.2.1)) e∧∀g∈l.map (·.2.1),MemPlace.cell (e g).block (e g).off∈ps
 | [],ps,_,_,_,_,_=>⟨fun _=>⟨0,0,none⟩,⟨by simp,by simp,by simp⟩,by simp⟩
 | x::l,ps,h,hnd,hrows,hg,hgn=>by
  obtain⟨g0,t0,cs0,f0,p0,q0,hg0,ht0,hv0,hd0,hq,e0⟩:=h;obtain⟨hgx,htx⟩:=hg x bA;obtain rfl:=Option.some.inj (hgx.symm.trans hg0);obtain rfl:=Option.some.inj (htx.symm.trans ht0);subst e0;obtain⟨l0⟩:=cs0;have ok0:∀u v,l0 = [.iface u v]→Value.okWide P W .any 0 u v:=fun u v e=>by
   subst e;exact(hrows x.2.1 0 (by simp [MemPlace.row])).2 u v (by simpa using World.var?_cell hg0 hv0 0)
  obtain⟨a0,s0,rfl,hc0,hs0,hz0,rfl⟩:=errorString_of_trod hi hrow hp he hft hfo hs hc hcs hd0 ok0;have hnd2:q0.Nodup:=List.Nodup.sublist (List.sublist_append_right _ _) hnd;obtain⟨e,hS,hin⟩:=GF hi hrow hp he hft hfo hs hc hcs l q0 hq hnd2 (fun b off hm=>hrows b off (List.mem_append_right _ hm)) (fun y hy=>hg y (by simp [hy])) (List.nodup_cons.1 hgn).2;have hx:x.2.1∉l.map (·.2.1):=(List.nodup_cons.1 hgn).1;refine⟨fun g=>if g=x.2.1 then a0 else e g,⟨fun g hg=>?_,fun g hg=>?_,fun g hg g' hg' hne=>?_⟩,fun g hg=>?_⟩
  ·by_cases hgx:g=x.2.1
   ·subst hgx;rw [if_pos rfl];simpa using World.var?_cell hg0 hv0 0
   ·rw [if_neg hgx];exact hS.cell g (by simpa [hgx] using hg)
  ·by_cases hgx:g=x.2.1
   ·subst hgx;rw [if_pos rfl];exact(hrows a0.block a0.off (by simp [MemPlace.row])).1
   ·rw [if_neg hgx];exact hS.row g (by simpa [hgx] using hg)
  ·have hout:∀g∈l.map (·.2.1),a0≠e g:=fun g hg=>by
    rintro rfl;have h1:=hin g hg;rw [CO] at hnd;have h2:=List.Nodup.sublist (List.sublist_append_right _ _) hnd;rw [List.nodup_append] at h2;exact h2.2.2 _ (by simp [MemPlace.row]) _ h1 rfl
   by_cases hgx:g=x.2.1
   ·subst hgx
    rw [if_pos rfl,if_neg (fun h=>hne h.symm)];exact hout g' (by
     rcases Ac.1 hg' with h | h
     ·exact absurd h.symm hne
     ·exact h)
   ·rw [if_neg hgx]
    have hgl:g∈l.map (·.2.1):=by simpa [hgx] using hg
    by_cases hgx':g'=x.2.1
    ·subst hgx'
     rw [if_pos rfl];exact(hout g hgl).symm
    ·rw [if_neg hgx']
     exact hS.ne g hgl g' (by simpa [hgx'] using hg') hne
  ·by_cases hgx:g=x.2.1
   ·subst hgx;simp [MemPlace.row]
   ·simp only [if_neg hgx];exact List.mem_append_right _ (hin g (by simpa [hgx] using hg))
theorem OK{P:Program}{nm:String}{W:World}{ti tp te ts:TypeId}{ms:Array (String×TypeId)}{f:Field}{l:List (String×Nat×List UInt8)}(h:laidMet P (l.map (Pq nm)) W)
 (hi:P.underlying ti=some (.interface ms))(hrow:∀u,P.typeName? 3 u=some nm→u=tp)
 (hp:P.underlying tp=some (.pointer te))(he:P.underlying te=some (.struct #[f]))(hft:f.type=ts)(hfo:f.offset=0)(hs:P.underlying ts=some .string)(hc:P.cellsOf te=1)(hcs:P.cellsOf ts=1)
 (hg:∀x∈l,P.globalNamed x.1=some x.2.1∧(P.globals[x.2.1]?).map (·.type)=some ti)(hn:(l.map (·.2.1)).Nodup):∃e:Nat→Addr,Fe W tp (l.map (·.2.1)) e:=by
 obtain⟨ps,hv,hnd,hrows⟩:=h;obtain⟨e,hS,_⟩:=GF hi hrow hp he hft hfo hs hc hcs l ps hv hnd hrows hg hn;exact⟨e,hS⟩
end
end Go.Proofs.YtcjdkbgdahgjbaaGreatDoor
