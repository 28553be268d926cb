/- Steps. -/
import Derived.Test.YtncebikgoleolaaGreatDoorKaa
import Derived.Deep.RegionHeld3
import Derived.Deep.DeepCutAuto
import Derived.Laws.IdiomCopy
set_option maxRecDepth 100000
set_option maxHeartbeats 8000000
set_option linter.all false
namespace Go.Proofs.YtncebikgoleolaaGreatDoor
open Tryz
open _root_.Go renaming undef→UD
open _root_.Array renaming length_toList→BX,replicate_succ→Bt,replicate_zero→Bu
open _root_.Bool renaming and_assoc→EJ,and_eq_true→Af,eq_iff_iff→DI,false_and→Ep,true_and→DJ
open Builtin renaming copy_→E3
open _root_.ByteArray renaming toList_eq→ED
open Ending renaming returned→pJ
open Exit renaming noGoto_normal→AY
open Fence renaming wide→Bx
open Instr renaming lookup→Ed
open _root_.Int renaming toNat_natCast→pW
open IntKind renaming i64→pK
open _root_.List renaming append_assoc→CC,append_toArray→BD,cons_append→AL,getD_eq_getElem?_getD→AO,getElem?_cons_succ→Ao,getElem?_cons_zero→Aj,getElem?_eq_getElem→Aq,getElem?_eq_some_iff→Ad,getElem?_toArray→An,isEmpty_eq_false_iff→E9,length_append→Al,length_cons→Av,length_map→Bd,length_nil→D4,length_range→AP,length_singleton→Bp,length_take→Ax,map_append→pO,map_cons→CR,mem_append→AQ,mem_cons→Ac,mem_map→BO,mem_of_getElem?→CD,mem_singleton→Ag,nil_append→BH,not_mem_nil→Ab,push_toArray→Cd,range_succ→B3,range→AC,replicate→D6,size_toArray→Cz,take_append_drop→Dn,take_of_length_le→Ak
open _root_.Nat renaming add_zero→AT,le_refl→Aw,le_trans→A8,lt_of_lt_of_le→BS,lt_or_ge→pP,min_eq_left→DE,mul_one→pR,reduceAdd→pL,reduceSub→pM,zero_add→AW,zero_le→Ba
open Oper renaming semAt_some→pN
open Program renaming fieldsOf→CK
open Value renaming agg→pH,bool→pI,int→pE,ownBlock→EZ,pointer→pG,slice→pF,string→Dz
open World renaming block_lt_of_cell?→Be,ownsRow_nil→BQ,size_alloc→Eo
section
open Go.RowKit Go.Shelf
attribute [local go_sem] pN
attribute [local go_sem ↓] wp_at_zero wp_at_succ
theorem JK:∀(u u':List Bool) (g g':List Int) (i:Nat),u.length=g.length->usedL i (u++u') (g++g')=usedL i u g++usedL (i+u.length) u' g'
 | [],u',[],g',i,_=>by simp [usedL]
 | true::u,u',z::g,g',i,h=>by
  simp only [Av,Nat.add_right_cancel_iff] at h;simp only [AL,usedL,JK u u' g g' (i+1) h,Av];rw [show i+1+u.length=i+(u.length+1) by omega]
 | false::u,u',z::g,g',i,h=>by
  simp only [Av,Nat.add_right_cancel_iff] at h;simp only [AL,usedL,JK u u' g g' (i+1) h,Av];rw [show i+1+u.length=i+(u.length+1) by omega]
 | [],_,_::_,_,_,h=>by simp at h
 | _::_,_,[],_,_,h=>by simp at h
def Hz(s:Fz)(k:Nat):List (Int×Int):=usedL 0 (s.used.take k) (s.gens.take k)
theorem Uw{s:Fz}{k:Nat}{b:Bool}{z:Int}(h1:s.used[k]? = some b)(h2:s.gens[k]? = some z):Hz s (k+1)=Hz s k++(if b then [((k:Int),z)] else []):=by
 unfold Hz;have B:=(Ad.1 h1).1;have D:=(Ad.1 h2).1;rw [A0 h1,A0 h2,JK _ _ _ _ _ nH];rw [Ax,AW,DE bB];cases b<;>simp [usedL]
theorem Xm(s:Fz)(h:s.used.length=s.gens.length)(k:Nat):Hz s k <+: usedL 0 s.used s.gens:=by
 unfold Hz;have:=JK (s.used.take k) (s.used.drop k) (s.gens.take k) (s.gens.drop k) 0 (by rw [Ax,Ax,h]);rw [Dn,Dn] at this;rw [this];exact List.prefix_append _ _
def RQ(h:Int×Int):Array Value:=#[pH #[pE pK h.1,pE pK h.2]]
theorem SJ(p:Addr)(w:World):Calls prog 100 #[pG (some p)] w fun r w'=>r = pJ (.func (.func 137) #[] #[pG (some (A_ w 0))])/\w.alloc (.cells #[pG (some p)] 208)=w':=by
 go_enter func100,ntmps100;go_wp2;go_ret;exact⟨rfl,rfl⟩
theorem ZU(n l pb tb:Nat)(v:DF)(s:Fz)(gn fn:Nat)(ae:gn<=1000)(J Jx:List (Int×Int)->World->Prop)(W:World)(hV:∀z A,J z A->A.cell? (A_ pb 0)=some (p_ tb 0)/\Kw A tb v s gn gn fn)
 (hY:∀pre x W1,J pre W1->pre++[x] <+: usedL 0 s.used s.gens->YieldAt Bx (n - 1) prog l (RQ x) W1 fun e W'=>
   (e = pJ (pI true)/\J (pre++[x]) W')\/(e = pJ (pI false)/\Jx (pre++[x]) W'))
 (h0:J [] W):
  CallsIn Bx n prog 137 #[.func (.yield l) #[] #[],p_ pb 0] W fun e W'=>(∃v,e = pJ v)/\
   (J (usedL 0 s.used s.gens) W'\/(∃pre,pre <+: usedL 0 s.used s.gens/\Jx pre W')):=by
 have HV:=lH hV;have HY:=lH hY;have af:Hi (J (Hz s 0) W):=lH (by simpa [Hz,usedL] using h0);obtain⟨p0,F⟩:=hV _ _ h0;obtain⟨c0,c1,c2⟩:=F.cells;have aa:=F.lu;have Y:=F.lg;have O:=lH aa;have N:=lH Y;clear hV hY h0 F aa Y;have ai:Fence.wide.depth.isSome=true->1<=n:=by intro h;cases h
 refine callsIn_of_wp func137 rfl trivial ?_ rfl;simp only [ntmps137,Cz,Av,D4,pL,pM,Bt,Bu,Cd,BD,BH,AL];gi_wp2;refine BW (wpIn_seq (wpIn_label ?_));gi_wp2
 gi_loopw [11] (fun i wr=>∃k:Nat,i = I_ k/\k<=gn/\Hi (J (Hz s k) wr)) (fun i _=>gn - (intOf i).toNat)
 case atStart=>exact⟨0,rfl,Ba _,af⟩
 case round=>
  obtain⟨k,rfl,hk,D⟩:=hrel;clear p0 c0 c1 c2;obtain⟨p0,E⟩:=HV.o _ _ D.o;obtain⟨c0,c1,c2⟩:=E.cells;by_cases hlt:k<gn
  ·have i1:(0:Int)<=(k:Int):=bB;have i2:(k:Int)<(gn:Int):=bB;obtain⟨g1,o1,b,T,_,hx1,hat1⟩:=E.m.u.at_k (k:=k) (by rw [O.o];exact hlt);obtain⟨g2,o2,z,X,_,hx2,G⟩:=E.m.g.at_k (k:=k) (by rw [N.o];exact hlt);have q1:=hat1 0 (pI b) rfl;have q2:=G 0 (I_ z) rfl;rw [AT,pR] at q1 q2;rw [X] at c0;rw [T] at c1;have hsn:=Uw hx1 hx2;rw [T];clear E hat1 G hx1 hx2 T X;cases b with
   | false=>
    have M:Hi (J (Hz s (k+1)) wr):=lH (by rw [hsn];simpa using D.o);clear hsn;gi_wp2;refine⟨(fun f hf=>by cases hf),?_⟩;gi_wp2;go_roundw;case rel=>exact⟨k+1,by go_num,by omega,M⟩
    case measure=>simp [intOf];omega
   | true=>
    have B:Hz s k++[((k:Int),z)] <+: usedL 0 s.used s.gens:=by
     have:=Xm s (by rw [O.o,N.o]) (k+1);rw [hsn] at this;exact this
    have ab:=Dq (HY.o _ _ _ D.o B);rw [show Hz s k++[((k:Int),z)]=Hz s (k+1) by rw [hsn];rfl] at ab B;obtain⟨ar,tmps,assign,body,hy,hR⟩:=ab;simp only [RQ] at hy;have U:=lH B;clear hsn B;gi_wp2;refine⟨ai,?_⟩;refine hR.mono ?_;rintro e W3 ⟨g,rfl,E,hF⟩;clear hR hy p0 c0 c1 c2 q1 q2;cases g with
    | false=>
     have ah:=lH (hF.out rfl);clear E hF;gi_wp2;try rw [AY]
     go_end0
     exact⟨⟨_,rfl⟩,.inr ⟨_,U.o,ah.out⟩⟩
    | true=>
     have M:=lH (E.out rfl);clear E hF;gi_wp2;go_roundw;case rel=>exact⟨k+1,by go_num,by omega,M⟩
     case measure=>simp [intOf];omega
  ·obtain rfl:k=gn:=bB;clear E;gi_wp2;try rw [AY]
   go_end0
   refine⟨⟨_,rfl⟩,.inl ?_⟩;have:=D.o;unfold Hz at this
   rwa [Ak (by rw [O.o];exact Aw _),Ak (by rw [N.o];exact Aw _)] at this
theorem SK(n pb tb:Nat)(v:DF)(s:Fz)(gn fn:Nat)(hg:gn<=1000):
  QL Bx n prog 137 #[pG (some (A_ pb 0))] RQ (usedL 0 s.used s.gens) (fun A=>A.cell? (A_ pb 0)=some (p_ tb 0)/\Kw A tb v s gn gn fn):=fun l J Jx W _ _ hV hY h0=>
 ZU n l pb tb v s gn fn hg J Jx W hV hY h0
def G2(used:List Bool)(met:List Int)(i:Int):Bool:=decide (0<=i)&&decide (i<used.length)&&!(used.getD i.toNat true)&&!decide (i∈met)
theorem RG(D:List Bool)(A B:List Int):∀(met:List Int),Fk D met (A++B)=(Fk D met A&&Fk D (met++A) B):=by
 induction A with
 | nil=>intro met;simp [Fk]
 | cons o A ih=>intro met;simp [Fk,ih,EJ]
theorem OZ{B:List Bool}{L:List Int}{k:Nat}{i:Int}(h:L[k]? = some i):Fk B [] (L.take (k+1))=(Fk B [] (L.take k)&&G2 B (L.take k) i):=by
 rw [A0 h,RG];simp [Fk,G2]
theorem KN{B:List Bool}{L:List Int}{k:Nat}{i:Int}(h:L[k]? = some i)(hb:G2 B (L.take k) i=false):Fk B [] L=false:=by
 have e:L=L.take (k+1)++L.drop (k+1):=(Dn _ _).symm;rw [e,RG,OZ h,hb];simp
theorem H8:∀(u:List Bool) (g:List Int) (i:Nat),u.length=g.length->(usedL i u g).length=u.count true
 | [],[],_,_=>rfl
 | true::u,_::g,i,h=>by simp only [usedL,Av,List.count_cons];rw [H8 u g (i+1) bK];simp
 | false::u,_::g,i,h=>by simp only [usedL,List.count_cons];rw [H8 u g (i+1) bK];simp
 | [],_::_,_,h=>by simp at h
 | _::_,[],_,h=>by simp at h
theorem ZE{w:World}{b:Nat}{B:List Int}(h:DV (pE .i64) w b B)(k:Int):(Ed 98 (.map (some b)) (I_ k) false).run prog w = .ok (pI (decide (k∈B))) w:=by
 have h1:=h.look KQ underlying98 underlying3 bC k;rw [h1]
theorem Vd{w:World}{b:Nat}{met:List Int}(h:DV (pE .i64) w b met)(k:Int)(hn:k∉met):∃o,(Instr.mapUpdate 98 (.map (some b)) (I_ k) (pI true)).run prog w = .ok () (w.putObj b o)/\DV (pE .i64) (w.putObj b o) b (met++[k]):=
 h.update KQ underlying98 underlying3 k hn
theorem ZD{w:World}{b:Nat}{B:List Int}(h:DV (pE .i64) w b B)(D:TypeId):(Builtin.len_ #[98] D #[.map (some b)]).run prog w = .ok (I_ (B.length:Nat)) w:=by
 obtain⟨E,c,hb,he⟩:=h;have hl:=congrArg List.length he;simp only [Bd,BX] at hl;simp [Builtin.len_,run_underlying underlying98,MapKept.run_getObj_map hb,goInt,hl]
structure iZ(w:World)(tb:Nat)(v:DF)(s:Fz)(gn fn nb pb:Nat)(m:Nat)(A:World):Prop where
 box:Blk A nb 3 #[pE pK ((gn:Int) - m)]
 st:DV (pE .i64) A w.heap.size s.free
 pb:A.cell? ⟨pb,0,none⟩=some (pG (some ⟨tb,0,none⟩))
 tab:Kw A tb v s gn gn fn
 kw:Aa [] w A
theorem iZ.keeps{w:World}{D:Nat}{v:DF}{s:Fz}{gn fn B pb m:Nat}{A E:World}{S:List Nat}(h:iZ w D v s gn fn B pb m A)(F:Kw w D v s gn gn fn)(hk:Aa S A E)(hS:∀y∈S,pb<y/\B<y/\w.heap.size<y):iZ w D v s gn fn B pb m E:=by
 have hkw:=h.kw.own hk (fun y hy=>by have:=(hS y hy).2.2;omega);exact⟨h.box.keeps hk (fun hm=>by have:=hS _ hm;omega),h.st.keeps hk (fun hm=>by have:=hS _ hm;omega),(hk.cell (p:=A_ pb 0) (Be _ _ h.pb) (fun hm=>by have:=hS _ hm;dsimp only at this;omega)).trans h.pb,F.keeps hkw,hkw⟩
theorem QQ(E:Nat)(v:DF)(s:Fz)(gn fn:Nat)(b:Bool)(hb:(Fk s.used [] s.free&&decide (s.gens.length=s.free.length+s.used.count true))=b)(w:World)(h:Kw w E v s gn gn fn):
  Calls prog 104 #[pG (some (A_ E 0))] w fun e w'=>e = pJ (pI b)/\Aa [] w w':=by
 refine(callsIn_wide (n:=9)).1 ?_;obtain⟨c0,c1,c2⟩:=h.cells;have T:gn<=1000:=by have:=h.m.sg;rw [h.lg] at this;exact this
 have aj:fn<=1000:=by have:=h.m.sf;rw [h.lf] at this;exact this
 have a1:=h.blk.lt;have D:=lH h;have HB:=lH hb;have a0:=fun W=>run_makeMap (P:=prog) 98 W;clear h hb;refine callsIn_of_wp_marks func104 rfl trivial ?_ rfl;simp only [ntmps104,Cz,Av,D4,pL,pM,Bt,Bu,Cd,BD,BH,AL];gi_wp2
 gi_loopw [14] (fun i wr=>∃k:Nat,i = pE pK k/\k<=fn/\Hi (Fk s.used [] (s.free.take k)=true)/\Hi (DV (pE .i64) wr w (s.free.take k))/\Hi (Aa [] w wr)) (fun i _=>fn - (intOf i).toNat)
 case atStart=>exact⟨0,rfl,Ba _,lH rfl,lH (DV.new w),lH ((Aa.refl [] w).alloc _)⟩
 case round=>
  obtain⟨k,rfl,hk,HP,HST,HK⟩:=hrel;obtain⟨c0,c1,c2⟩:=(D.o.keeps HK.o).cells;by_cases hlt:k<fn
  ·have i1:(0:Int)<=(k:Int):=by omega
   have i2:(k:Int)<(fn:Int):=by omega
   obtain⟨g,off,x,ha,hg,hx,hat⟩:=D.o.m.f.at_k (k:=k) (by rw [D.o.lf];exact hlt);have q0:=hat 0 (pE pK x) rfl;rw [AT,pR] at q0;rw [<- HK.o.cell (p:=A_ g (off+k)) hg bA] at q0;rw [ha] at c2 ⊢;have X:=lH hx;have ad:Hi (s.used.length=gn):=lH D.o.lu;clear hat hg hx ha;by_cases hx0:x<0
   ·obtain rfl:b=false:=by rw [<- HB.o,KN X.o (by simp [G2];omega)];rfl
    gi_wp2;exact⟨_,by simp [results,results104,go_sem],rfl,HK.o⟩
   ·obtain⟨m,rfl⟩:∃m:Nat,x=m:=⟨x.toNat,by omega⟩
    have i3:¬(m:Int)<0:=by omega
    by_cases hxu:gn<=m
    ·have i4:(gn:Int)<=(m:Int):=by omega
     obtain rfl:b=false:=by rw [<- HB.o,KN X.o (by simp [G2,ad.o];omega)];rfl
     gi_wp2;exact⟨_,by simp [results,results104,go_sem],rfl,HK.o⟩
    ·have i4:¬(gn:Int)<=(m:Int):=by omega
     have i5:(0:Int)<=(m:Int):=by omega
     have i6:(m:Int)<(gn:Int):=by omega
     obtain⟨g1,o1,u,af,hg1,hx1,hat1⟩:=D.o.m.u.at_k (k:=m) (by rw [D.o.lu];omega);have q1:=hat1 0 (pI u) rfl;rw [AT,pR] at q1;rw [<- HK.o.cell (p:=A_ g1 (o1+m)) hg1 bA] at q1;rw [af] at c1;obtain⟨y,hy⟩:=eX (decide ((m:Int)∈s.free.take k));have hlk:=ZE HST.o (m:Int);rw [hy] at hlk;have N:G2 s.used (s.free.take k) (m:Int)=(!u&&!y):=by
      unfold G2;rw [hy,ad.o,decide_eq_true i5,decide_eq_true i6,pW,AO,hx1];simp
     have G:=lH N;have HY:=lH hy;clear hat1 hg1 hx1 af N hy hx0 hxu;cases u with
     | true=>
      obtain rfl:b=false:=by rw [<- HB.o,KN X.o (by rw [G.o];rfl)];rfl
      gi_wp2;exact⟨_,by simp [results,results104,go_sem],rfl,HK.o⟩
     | false=>
      cases y with
      | true=>
       obtain rfl:b=false:=by rw [<- HB.o,KN X.o (by rw [G.o];rfl)];rfl
       gi_wp2;exact⟨_,by simp [results,results104,go_sem],rfl,HK.o⟩
      | false=>
       obtain⟨o,a2,M⟩:=Vd HST.o (m:Int) (of_decide_eq_false HY.o);have al:Hi (Fk s.used [] (s.free.take (k+1))=true):=lH (by rw [OZ X.o,HP.o,G.o];rfl);have ab:Hi (DV (pE .i64) (wr.putObj w o) w (s.free.take (k+1))):=lH (by rw [A0 X.o];exact M);have HK2:=lH (HK.o.own (Ec _ w o) bF);clear M;gi_wp2;go_roundw;case rel=>exact⟨k+1,by go_num,by omega,al,ab,HK2⟩
       case measure=>simp [intOf];omega
  ·obtain rfl:k=fn:=by omega
   have hst:=HST.o;have hp:=HP.o;rw [Ak (by rw [D.o.lf];exact Aw _)] at hst hp;have ag:b=decide (gn=k+s.used.count true):=by rw [<- HB.o,hp,D.o.lg,D.o.lf];rfl
   have J:=H8 s.used s.gens 0 (by rw [D.o.lu,D.o.lg]);have HBB:=lH ag;have ac:=lH J;have U:=lH hst;clear hst hp ag J;gi_wp2_with (fail);refine⟨trivial,(callsIn_wide.2 (SJ _ _)).mono ?_⟩;rintro e w1 ⟨rfl,hw1⟩;gi_wp2_with (fail);have hsz:w1.heap.size=wr.heap.size+2:=by rw [<- hw1];simp
   have hwr:w.heap.size<wr.heap.size:=U.o.lt;have ae:iZ w E v s gn k wr (wr+1) 0 w1:=by
    have hk2:Aa [] wr w1:=by rw [<- hw1];exact((Aa.refl [] wr).alloc _).alloc _
    refine⟨?_,U.o.keeps hk2 bA,?_,D.o.keeps (HK.o.trans hk2),HK.o.trans hk2⟩
    ·rw [<- hw1];have:=(Blk.new wr 3 #[pE pK (gn:Int)]).alloc (.cells #[pG (some (A_ E 0))] 208);simpa using this
    ·rw [<- hw1];exact(Ar _ 208 _ _ bA).cell 0
   have ak:=lH ae;clear ae hw1;refine Cc rfl bB (gf:=137) (lb:=#[pG (some (A1 wr 0))]) rfl trivial (enters_of func137 bC rfl) (SK 8 (wr+1) E v s gn k T) (fun _=>rfl)
    (fun B A=>iZ w E v s gn k wr (wr+1) B.length A) (fun _ _=>False)
    (fun B A A' h hk=>h.keeps D.o hk bF)
    (fun B A A' h hk=>h)
    (fun B A h=>⟨h.pb,h.tab⟩) ak.o
    (fun x W=>({ tmps:=#[pG (some (A_ E 0)),UD,u2,.map (some w),UD,u5,pG (some (A_ wr 0)),.map (some w),pG (some (A_ E 0)),pG (some (A_ E 0)),pG (some (A_ E 0)),pG (some (A_ E 2)),pF v.fa k v.fc,pE pK (k:Int),pE pK (k:Int),pI false,u16,u17,u18,u19,u20,u21,u22,u23,u24,u25,u26,u27,u28,u29,u30,u31,u32,u33,u34,u35,u36,u37,u38,u39,u40,u41,u42,u43,u44,u45,u46,u47,pG (some (A_ E 0)),pG (some (A_ E 0)),pG (some (A_ E 0)),pG (some (A_ E 0)),pF v.ga gn v.gc,pE pK (gn:Int),pG (some (A_ E 0)),.func (.func 137) #[] #[pG (some (A1 wr 0))],pH #[pE pK x.1,pE pK x.2],UD,UD,UD,UD,UD,UD],defers:=[] },W))
    (fun x W=>Aa.refl [] W) ?assign ?body ?done ?stop
   case assign=>
    rintro l ⟨x1,x2⟩ W K hK;simp only [RQ];gi_wp2;exact hK
   case body=>
    rintro l B ⟨x1,x2⟩ W W2 hI Y aa hk2;dsimp only at hk2 ⊢;have O:=hI.keeps D.o hk2 bF;have an:B.length+1<=gn:=by
     have h1:=Y.length_le;rw [ac.o] at h1;have h2:=List.count_le_length (a:=true) (l:=s.used);have h3:=D.o.lu;simp only [Al,Bp] at h1;omega
    have d0:=O.box.ce 0;have f0:=O.box.frozen 0;obtain⟨x,hx⟩:∃x:Int,(gn:Int) - (B.length:Nat)=x:=⟨_,rfl⟩;rw [hx] at d0;have hx1:wrap64 (x - 1)=x - 1:=by unfold wrap64;omega
    have hx2:IntKind.i64.wrap (x - 1)=x - 1:=by rw [IntKind.wrap_i64];omega
    have X:=lH hx;have F:=lH O;have ah:W.heap.size<=W2.heap.size:=hk2.size;have am:=lH ah;clear hI hk2 O hx an ah;gi_wp2;have hk4:Aa [wr.heap.size] W2 (W2.setCell (A_ wr 0) (pE pK (x - 1))):=(Aa.refl _ W2).setCell (p:=A_ wr 0) (.inl bA) _;have hkw:=F.o.kw.own hk4 bF;refine⟨hk4.size,fun y hy=>hk4.block y ?_ ?_,?_,F.o.st.keeps hk4 bI,(hk4.cell (p:=A1 wr 0) (Be _ _ F.o.pb) bA).trans F.o.pb,D.o.keeps hkw,hkw⟩
    ·simp only [Ac,Ab,or_false] at hy
     have h9:=am.o;omega
    ·simp only [Ac,Ab,or_false] at hy ⊢;omega
    ·have:=F.o.box.set_ 0 (pE pK (x - 1))
     rw [Al,Bp];rw [show(gn:Int) - ((B.length+1:Nat):Int)=x - 1 by have:=X.o;omega];exact this
   case done=>
    rintro W hI aa hK;have d0:=hI.box.ce 0;rw [ac.o] at d0;have hln:=fun ty=>ZD hI.st ty;rw [D.o.lf] at hln;obtain⟨x,hx⟩:∃x:Int,(gn:Int) - ((s.used.count true:Nat):Int)=x:=⟨_,rfl⟩;rw [hx] at d0;have ar:(x==(k:Int))=b:=by rw [HBB.o,<- hx,DI,beq_iff_eq,decide_eq_true_eq];omega
    have F:=lH hI;clear hI hx;gi_wp2;refine⟨by simp,.inl ⟨_,_,rfl,run_takeDeferred hK,?_⟩⟩;have hk4:=AG (S:=[w1.heap.size]) W (.deferred none) (l:=w1.heap.size) bA;refine⟨_,by simp [results,results104,go_sem],rfl,F.o.kw.own hk4 bF⟩
   case stop=>
    rintro B W Y hX aa hK;exact hX.elim
def QT:Array Value:=#[.func (.func 102) #[] #[],.func (.func 103) #[] #[],.func (.func 104) #[] #[]]
theorem Uo(E:Nat)(v:DF)(s:Fz)(gn un fn O:Nat)(ty:TypeId)(b:Bool)(hb:Dv s=b)(w:World)(h:Kw w E v s gn un fn)(hf:Blk w O ty QT):
  Calls prog 101 #[pG (some (A_ E 0)),pF (some (A_ O 0)) 3 3] w fun e w'=>e = pJ (pI b)/\Aa [] w w':=by
 have G:=lH h;have F:=lH hf;obtain⟨J,h1⟩:=eX (Mj gn un);obtain⟨M,h2⟩:=eX (UN s.gens);obtain⟨b3,h3⟩:=eX ((Fk s.used [] s.free&&decide (s.gens.length=s.free.length+s.used.count true)));have D:b=(J&&(M&&b3)):=by
  rw [<- hb,<- h1,<- h2,<- h3];unfold Dv Mj;rw [h.lg,h.lu];simp only [EJ]
 have HBB:=lH D;have N:=lH h1;have Y:=lH h2;have H3:=lH h3;clear h hf h1 h2 h3 hb D;go_enter func101,ntmps101;go_wp2;refine wp_loop_rounds 4 ?_;rw [rounds_succ];have T:=F.o.cell 0;simp only [QT,An,Aj] at T;go_wp2_with fail;refine(TE E v s gn un fn J N.o _ G.o).mono ?_;rintro e w1 ⟨rfl,hk1⟩;clear T;have HK1:=lH hk1;clear hk1;cases J with
 | false=>
  obtain rfl:b=false:=HBB.o;go_wp2;go_ret;exact⟨rfl,HK1.o⟩
 | true=>
  go_wp2_with fail;rw [rounds_succ];have U:=(F.o.keeps HK1.o bA).cell 1;simp only [QT,An,Aj,Ao] at U;go_wp2_with fail;refine(QR E v s gn un fn M Y.o _ (G.o.keeps HK1.o)).mono ?_;rintro e w2 ⟨rfl,rfl⟩;clear U;cases M with
  | false=>
   obtain rfl:b=false:=HBB.o;go_wp2;go_ret;exact⟨rfl,HK1.o⟩
  | true=>
   go_wp2_with fail;rw [rounds_succ];have X:=(F.o.keeps HK1.o bA).cell 2;simp only [QT,An,Aj,Ao] at X;obtain rfl:un=gn:=by
    have:=N.o;simp only [Mj,Af,decide_eq_true_eq] at this;omega
   go_wp2_with fail;refine(QQ E v s un fn b3 H3.o _ (G.o.keeps HK1.o)).mono ?_;rintro e w3 ⟨rfl,hk3⟩;clear X;have B:=lH (HK1.o.trans hk3);clear hk3;obtain rfl:b=b3:=HBB.o;cases b with
   | false=>
    go_wp2;go_ret;exact⟨rfl,B.o⟩
   | true=>
    go_wp2_with fail;rw [rounds_succ];go_wp2;go_ret;exact⟨rfl,B.o⟩
theorem DR(v:DF)(s:Fz)(gn un fn:Nat)(hg:s.gens.length=gn)(hu:s.used.length=un)(hf:s.free.length=fn)(b:Bool)(hb:Dv s=b)(w:World)(h:Dy w v s):
  Calls prog 62 #[pH (S_ v gn un fn)] w fun e w'=>e = pJ (pI b)/\Aa [] w w':=by
 have hk:=(((Aa.refl [] w).alloc (.cells (S_ v gn un fn) 26)).alloc (.cells (S_ v gn un fn) 210)).alloc (.cells QT 214);have HC:=lH (fun W (hkk:Aa [] w W) (hb1:Blk W (w+1) 210 (S_ v gn un fn)) (hb2:Blk W (w+1+1) 214 QT)=>Uo (w+1) v s gn un fn (w+1+1) 214 b hb W ⟨hb1,h.keeps hkk,hg,hu,hf⟩ hb2);have HK:=lH hk;have HB1:=lH ((Ar (w.alloc (.cells (S_ v gn un fn) 26)) 210 (S_ v gn un fn) (w+1) bA).alloc (.cells QT 214));have HB2:=lH (Ar ((w.alloc (.cells (S_ v gn un fn) 26)).alloc (.cells (S_ v gn un fn) 210)) 214 QT (w+1+1) bA);clear hk h hb hg hu hf;go_enter func62,ntmps62;go_wp2_with fail;refine(HC.o _ HK.o HB1.o HB2.o).mono ?_;rintro e w1 ⟨rfl,hk1⟩;have HK1:=lH (HK.o.trans hk1);clear hk1;go_wp2;go_ret;exact⟨rfl,HK1.o⟩
def Hr(l:Int)(L:List El):Int:=(L.getLast?.map (·.id)).getD l
def J6(met:List Int)(last:Int)(c:El):Bool:=!met.contains c.id&&decide (last<=c.id)
theorem PT:∀(A B:List El) (m:List Int) (l:Int),CT m l (A++B)=(CT m l A&&CT (m++A.map (·.id)) (Hr l A) B)
 | [],B,m,l=>by simp [CT,Hr]
 | c::A,B,m,l=>by
  have h:Hr l (c::A)=Hr c.id A:=by
   unfold Hr;rw [List.getLast?_cons];cases A.getLast?<;>rfl
  rw [AL,CT,CT,PT A B,h];simp only [CR,EJ];rw [CC];rfl
theorem cE(m:List Int)(l:Int)(c:El):CT m l [c]=J6 m l c:=by simp [CT,J6]
theorem Rj{L:List El}{k:Nat}{c:El}(h:L[k]? = some c):CT [] 0 (L.take (k+1))=(CT [] 0 (L.take k)&&J6 ((L.take k).map (·.id)) (Hr 0 (L.take k)) c):=by
 rw [A0 h,PT,cE,BH]
theorem UF{L:List El}{k:Nat}{c:El}(h:L[k]? = some c)(hb:J6 ((L.take k).map (·.id)) (Hr 0 (L.take k)) c=false):CT [] 0 L=false:=by
 have h2:=Rj h;rw [hb,Bool.and_false] at h2;rw [<- Dn (k+1) L,PT,h2,Ep]
theorem Ws{L:List El}{k:Nat}{c:El}(h:L[k]? = some c):Hr 0 (L.take (k+1))=c.id:=by
 rw [A0 h];simp [Hr]
theorem Kb(a:Option Addr)(c:Nat)(L:List El)(n:Nat)(hn:L.length=n)(hL:n<=1000000)(b:Bool)(hb:DK L=b)(w:World)(h:Hg w a c L):
  Calls prog 107 #[pF a n c] w fun e w'=>e = pJ (pI b)/\Aa [] w w':=by
 have HH:=lH h;have HN:=lH hn;have HB:=lH hb;clear h hn hb;have am:=fun W=>run_makeMap (P:=prog) 98 W;have ad:Hi (DV (pE .i64) (w.alloc (.map #[] 0)) w ([]:List Int)):=lH (DV.new w);go_enter func107,ntmps107;go_wp2;go_loopw [10,4] (fun i l wr=>∃k:Nat,i = I_ k/\k<=n/\l = I_ (Hr 0 (L.take k))/\Hi (CT [] 0 (L.take k)=true)/\Hi (DV (pE .i64) wr w ((L.take k).map (·.id)))/\Hi (Aa [] w wr)) (fun i _ _=>n - (intOf i).toNat)
 case atStart=>exact⟨0,rfl,Ba _,rfl,lH rfl,ad,lH ((Aa.refl [] w).alloc _)⟩
 case round=>
  obtain⟨k,rfl,hk,G,HP,HST,HK⟩:=hrel;obtain⟨la,M⟩:=eX (Hr 0 (L.take k));rw [M] at G;obtain rfl:=G;have af:=lH M;clear M;by_cases hlt:k<n
  ·obtain⟨g,off,⟨id,O,N,T⟩,rfl,hg,hx,hat⟩:=HH.o.at_k (k:=k) bO
   have q0:=hat 0 (I_ id) rfl;have q1:=hat 1 (Dz O) rfl;have q2:=hat 2 (I_ N) rfl;have q3:=hat 3 (I_ T) rfl;rw [AT] at q0;rw [<- HK.o.cell (p:=A_ g (off+k*4)) hg bA] at q0;rw [<- HK.o.cell (p:=A_ g (off+k*4+1)) hg bA] at q1;rw [<- HK.o.cell (p:=A_ g (off+k*4+2)) hg bA] at q2;rw [<- HK.o.cell (p:=A_ g (off+k*4+3)) hg bA] at q3;have i1:(0:Int)<=(k:Int):=bB;have i2:(k:Int)<(n:Int):=bB;have Y:=lH hx;have hk0:=(Aa.refl [] wr).alloc (.cells #[pE pK id,Dz O,I_ N,I_ T] 194);have B:=HST.o.keeps hk0 bA;have E:=Blk.new wr 194 #[pE pK id,Dz O,I_ N,I_ T];have d0:=E.ce 0;have d1:=E.ce 1;have hlk:=ZE B id;obtain⟨y2,F⟩:=eX (decide (id∈(L.take k).map (·.id)));obtain⟨y3,ah⟩:=eX (decide (id<la));rw [F] at hlk;have hst:J6 ((L.take k).map (·.id)) (Hr 0 (L.take k)) ⟨id,O,N,T⟩=(!y2&&!y3):=by
    unfold J6;rw [af.o,List.contains_eq_mem,F,<- ah]
    congr 1
    rw [<- decide_not];exact decide_eq_decide.2 bH
   have HOS:=lH hst;have HY2:=lH F;have HK0:=lH (HK.o.alloc (.cells #[pE pK id,Dz O,I_ N,I_ T] 194));have X:=lH B;have ac:=lH E;have U:Hi (w.heap.size<wr.heap.size):=lH HST.o.lt;clear hat hg hx hk0 B E F hst;cases y2 with
   | true=>
    obtain rfl:b=false:=by rw [<- HB.o];unfold DK;rw [UF Y.o lV];rfl
    go_wp2;go_ret;exact⟨rfl,HK0.o⟩
   | false=>
    cases y3 with
    | true=>
     obtain rfl:b=false:=by rw [<- HB.o];unfold DK;rw [UF Y.o lV];rfl
     go_wp2;go_ret;exact⟨rfl,HK0.o⟩
    | false=>
     obtain⟨o,an,D⟩:=Vd (X.o.keeps ((Aa.refl [] _).drew) bA) id (of_decide_eq_false HY2.o);have ag:Hi (CT [] 0 (L.take (k+1))=true):=lH (by rw [Rj Y.o,HP.o,HOS.o];rfl);have J:Hi (DV (pE .i64) ((wr.alloc (.cells #[pE pK id,Dz O,I_ N,I_ T] 194)).drew.putObj w o) w ((L.take (k+1)).map (·.id))):=lH (by rw [A0 Y.o,pO];exact D);have ae:Hi (Hr 0 (L.take (k+1))=id):=lH (Ws Y.o);have HK2:=lH (HK0.o.drew.own (Ec _ w o) bF);have e0:=(ac.o.drew.keeps (Ec _ w o) (by have:=U.o;simp only [Ac,Ab,or_false];omega)).ce 0;clear D;go_wp2;go_region;go_wp2;go_roundw;case rel=>exact⟨k+1,by go_num,by omega,by rw [ae.o],ag,J,HK2⟩
     case measure=>simp [intOf];omega
  ·obtain rfl:k=n:=bB;have aa:CT [] 0 L=true:=by
    have:=HP.o
    rwa [Ak bL] at this
   obtain⟨y,hy⟩:=eX (L.all IR);have ab:b=(decide (k<=4)&&y):=by rw [<- HB.o];unfold DK;rw [aa,hy,HN.o];rfl
   have HBB:=lH ab;have HY:=lH hy;clear aa hy ab;by_cases h10:k<=4
   ·have i3:(k:Int)<=4:=bB;obtain rfl:b=y:=by rw [HBB.o,decide_eq_true h10];rfl
    have HF:=lH (Blk.new wr 275 Vy);have HKF:=lH (HK.o.alloc (.cells Vy 275));clear h10;go_wp2_with fail;refine(Rn a c L k HN.o hL _ _ b HY.o _ (HH.o.keeps HKF.o) HF.o).mono ?_;rintro e w1 ⟨rfl,hk1⟩;have HK1:=lH (HKF.o.trans hk1);clear hk1;go_wp2;go_ret;exact⟨rfl,HK1.o⟩
   ·have i3:¬(k:Int)<=4:=bB;obtain rfl:b=false:=by rw [HBB.o,decide_eq_false h10];rfl
    clear h10;go_wp2;go_ret;exact⟨rfl,HK.o⟩
theorem Nl(s:ByteArray)(b:Bool)(hb:IK s=b)(w:World):Calls prog 105 #[Dz s] w fun e w'=>e = pJ (pI b)/\Aa [] w w':=by
 have HB:=lH hb;clear hb;by_cases h0:s=⟨#[]⟩
 ·obtain rfl:b=false:=by rw [<- HB.o];simp [IK,h0]
  subst h0;clear HB;go_enter func105,ntmps105;go_wp2;go_ret;exact⟨rfl,Aa.refl [] w⟩
 ·have hne:=Vf h0
  by_cases h1:s.size<=40
  ·obtain⟨y,hy⟩:=eX (Gi s)
   obtain rfl:b=y:=by rw [<- HB.o,<- hy,Pa];simp [IK,h0,h1]
   have B:=lH hy;have i1:(s.size:Int)<=40:=bB;have hs:s.size<=maxLen:=by unfold maxLen;omega
   clear h0 h1 hy HB;go_enter func105,ntmps105;go_wp2_with fail;refine(Od s hs b B.o _).mono ?_;rintro e w1 ⟨rfl,hk⟩;have HK:=lH hk;clear hk;go_wp2;go_ret;exact⟨by(show pJ (pI (!s.toList.isEmpty&&b))=_;rw [E9.2 hne];rfl),HK.o⟩
  ·obtain rfl:b=false:=by rw [<- HB.o];simp [IK,h1]
   have i1:¬(s.size:Int)<=40:=bB;clear h0 h1 HB;go_enter func105,ntmps105;go_wp2;go_ret;exact⟨by(show pJ (pI _)=_;simp),Aa.refl [] w⟩
theorem O0(v:TV)(seq:Int)(b:Bool)(hb:(decide (1<=v.version)&&decide (v.version<=seq))=b)(w:World):Calls prog 64 #[pH (U_ v seq)] w fun e w'=>e = pJ (pI b)/\Aa [] w w':=by
 have HK:=lH ((Aa.refl [] w).alloc (.cells (U_ v seq) 114));obtain⟨b1,h1⟩:=eX (decide (1<=v.version));rw [h1] at hb;have f1:decide (v.version≥1)=b1:=h1;clear h1;cases b1<;>simp only [Ep,DJ] at hb<;>
 ·subst hb
  go_enter func64,ntmps64;go_wp2;go_ret;exact⟨rfl,HK.o⟩
def NV(st dl:Int):Bool:=decide (1<=st)&&(decide (st<=3)&&(decide (0<=dl)&&(decide (dl<=1000000000000)&&(decide (dl=0)||decide (st=3)))))
theorem O1(v:TV)(seq:Int)(b:Bool)(hb:NV v.state v.deadline=b)(w:World):Calls prog 65 #[pH (U_ v seq)] w fun e w'=>e = pJ (pI b)/\Aa [] w w':=by
 have HK:=lH ((Aa.refl [] w).alloc (.cells (U_ v seq) 114));obtain⟨E,hst⟩:=eX v.state;obtain⟨D,B⟩:=eX v.deadline;rw [hst,B] at hb HK;rw [hst,B];clear hst B;unfold NV at hb;obtain⟨b1,h1⟩:=eX (decide (1<=E));obtain⟨J,h2⟩:=eX (decide (E<=3));obtain⟨b3,h3⟩:=eX (decide (0<=D));obtain⟨M,h4⟩:=eX (decide (D<=1000000000000));obtain⟨b5,F⟩:=eX (decide (D=0));obtain⟨b6,G⟩:=eX (decide (E=3));rw [h1,h2,h3,h4,F,G] at hb;have f1:decide (E≥1)=b1:=h1;have N:decide (D≥0)=b3:=h3;have O:(D==0)=b5:=by rw [<- F,DI];simp
 have T:(E==3)=b6:=by rw [<- G,DI];simp
 clear h1 h3 F G;cases b1 with
 | false=>
  simp only [Ep,DJ] at hb;subst hb;go_enter func65,ntmps65;go_wp2;go_ret;exact⟨rfl,HK.o⟩
 | true=>
  cases J with
  | false=>
   simp only [Ep,DJ] at hb;subst hb;go_enter func65,ntmps65;go_wp2;go_ret;exact⟨rfl,HK.o⟩
  | true=>
   cases b3 with
   | false=>
    simp only [Ep,DJ] at hb;subst hb;go_enter func65,ntmps65;go_wp2;go_ret;exact⟨rfl,HK.o⟩
   | true=>
    cases M with
    | false=>
     simp only [Ep,DJ] at hb;subst hb;go_enter func65,ntmps65;go_wp2;go_ret;exact⟨rfl,HK.o⟩
    | true=>
     simp only [Ep,DJ] at hb;cases b5<;>cases b6<;>simp only [Bool.false_or,Bool.true_or] at hb<;>
     ·subst hb
      go_enter func65,ntmps65;go_wp2;go_ret;exact⟨rfl,HK.o⟩
theorem RO(v:TV)(t:Ten)(seq:Int)(hs:t.rules.length<=1000/\t.creds.length<=1000)(b:Bool)(hb:(IK v.name&&(Ew t.rules&&DK t.creds))=b)(w:World)(h:Cj w v t):Calls prog 66 #[pH (U_ v seq)] w fun e w'=>e = pJ (pI b)/\Aa [] w w':=by
 obtain⟨G,h1⟩:=eX (IK v.name);obtain⟨J,h2⟩:=eX (Ew t.rules);obtain⟨b3,h3⟩:=eX (DK t.creds);rw [h1,h2,h3] at hb;have N:=lH (Nl v.name G h1);have O:=lH (fun W (hk:Aa [] w W)=>JU v.ra v.rc t.rules v.rl h.rl (by have:=h.rl;omega) J h2 W (h.rs.keeps hk));have T:=lH (fun W (hk:Aa [] w W)=>Kb v.ca v.cc t.creds v.cl h.cl (by have:=h.cl;omega) b3 h3 W (h.cs.keeps hk));have HB:=lH hb;have HK0:=lH ((Aa.refl [] w).alloc (.cells (U_ v seq) 114));have D:=lH (Blk.new w 114 (U_ v seq));have U:=D.o.ce 2;clear h1 h2 h3 hb h hs;go_enter func66,ntmps66;go_wp2_with fail;refine(N.o _).mono ?_;rintro e w1 ⟨rfl,hk1⟩;have HK1:=lH (HK0.o.trans hk1);have B:=D.o.keeps hk1 bA;have X:=B.ce 5;have M:=B.ce 6;have E:=lH B;clear hk1 B U;cases G with
 | false=>
  obtain rfl:b=false:=by rw [<- HB.o];rfl
  go_wp2;go_ret;exact⟨rfl,HK1.o⟩
 | true=>
  go_wp2_with fail;refine(O.o _ HK1.o).mono ?_;rintro e w2 ⟨rfl,hk2⟩;have HK2:=lH (HK1.o.trans hk2);have B:=E.o.keeps hk2 bA;clear X M;have M:=B.ce 6;clear hk2 B;cases J with
  | false=>
   obtain rfl:b=false:=by rw [<- HB.o];rfl
   go_wp2;go_ret;exact⟨rfl,HK2.o⟩
  | true=>
   obtain rfl:b=b3:=by rw [<- HB.o];rfl
   go_wp2_with fail;refine(T.o _ HK2.o).mono ?_;rintro e w3 ⟨rfl,hk3⟩;have F:=lH (HK2.o.trans hk3);clear hk3;go_wp2;go_ret;exact⟨rfl,F.o⟩
def XH:Array Value:=#[.func (.func 64) #[] #[],.func (.func 65) #[] #[],.func (.func 66) #[] #[]]
theorem eS{w:World}{v:TV}{t:Ten}(h:Cj w v t)(seq:Int):Gq seq t=((decide (1<=v.version)&&decide (v.version<=seq))&&(NV v.state v.deadline&&(IK v.name&&(Ew t.rules&&DK t.creds)))):=by
 unfold Gq EM FG Hf NV;rw [h.version,h.state,h.deadline,h.name];simp only [EJ]
theorem Uu(v:TV)(t:Ten)(seq:Int)(hs:t.rules.length<=1000/\t.creds.length<=1000)(fb:Nat)(ty:TypeId)(b:Bool)(hb:Gq seq t=b)(w:World)(h:Cj w v t)(hf:Blk w fb ty XH):Calls prog 63 #[pH (U_ v seq),pF (some (A_ fb 0)) 3 3] w fun e w'=>e = pJ (pI b)/\Aa [] w w':=by
 obtain⟨wz,hwz⟩:=eX ((w.alloc (.cells (U_ v seq) 114)));have HK0:Hi (Aa [] w wz):=lH jV;have hb0:Blk wz w 114 (U_ v seq):=by rw [<- hwz];exact Blk.new w _ _
 have hb1:Blk wz fb ty XH:=hf.keeps HK0.o bA;obtain⟨b1,h1⟩:=eX ((decide (1<=v.version)&&decide (v.version<=seq)));obtain⟨b2,h2⟩:=eX (NV v.state v.deadline);obtain⟨b3,h3⟩:=eX ((IK v.name&&(Ew t.rules&&DK t.creds)));rw [eS h seq,h1,h2,h3] at hb;have H1:=lH h1;have H2:=lH h2;have H3:=lH h3;have HB:=lH hb;have HT:=lH h;have HSZ:=lH hs;clear h1 h2 h3 hb hf h hs;have HB0:=lH hb0;have HB1:=lH hb1;clear hb0 hb1;go_enter func63,ntmps63;go_wp2;refine wp_loop_rounds 4 ?_;rw [rounds_succ];have hb0:=HB0.o;have hb1:=HB1.o;clear hwz;have T:=hb1.cell 0;have U:=hb1.cell 1;have X:=hb1.cell 2;have B:=hb0.cell 0;have D:=hb0.cell 1;have E:=hb0.cell 2;have F:=hb0.cell 3;have G:=hb0.cell 4;have J:=hb0.cell 5;have M:=hb0.cell 6;have N:=hb0.cell 7;have O:=hb0.cell 8;simp only [XH,An,Aj,Ao] at T U X B D E F G J M N O;have Y:=lH hb0;have ac:=lH hb1;clear hb0 hb1;go_wp2_with fail;refine(O0 v seq b1 H1.o _).mono ?_;rintro e w1 ⟨rfl,hk1⟩;have HK1:=lH (HK0.o.trans hk1);have hb0:=Y.out.keeps hk1 bA;have hb1:=ac.out.keeps hk1 bA;clear T U X B D E F G J M N O hk1;cases b1 with
 | false=>
  obtain rfl:b=false:=by rw [<- HB.o];simp
  go_wp2;go_ret;exact⟨rfl,HK1.o⟩
 | true=>
  go_wp2_with fail;rw [rounds_succ];have T:=hb1.cell 0;have U:=hb1.cell 1;have X:=hb1.cell 2;have B:=hb0.cell 0;have D:=hb0.cell 1;have E:=hb0.cell 2;have F:=hb0.cell 3;have G:=hb0.cell 4;have J:=hb0.cell 5;have M:=hb0.cell 6;have N:=hb0.cell 7;have O:=hb0.cell 8;simp only [XH,An,Aj,Ao] at T U X B D E F G J M N O;have aa:=lH hb0;have ad:=lH hb1;clear hb0 hb1;go_wp2_with fail;refine(O1 v seq b2 H2.o _).mono ?_;rintro e w2 ⟨rfl,hk2⟩;have HK2:=lH (HK1.o.trans hk2);have hb0:=aa.out.keeps hk2 bA;have hb1:=ad.out.keeps hk2 bA;clear T U X B D E F G J M N O hk2;cases b2 with
  | false=>
   obtain rfl:b=false:=by rw [<- HB.o];simp
   go_wp2;go_ret;exact⟨rfl,HK2.o⟩
  | true=>
   go_wp2_with fail;rw [rounds_succ];have T:=hb1.cell 0;have U:=hb1.cell 1;have X:=hb1.cell 2;have B:=hb0.cell 0;have D:=hb0.cell 1;have E:=hb0.cell 2;have F:=hb0.cell 3;have G:=hb0.cell 4;have J:=hb0.cell 5;have M:=hb0.cell 6;have N:=hb0.cell 7;have O:=hb0.cell 8;simp only [XH,An,Aj,Ao] at T U X B D E F G J M N O;have ab:=lH hb0;have ae:=lH hb1;clear hb0 hb1;go_wp2_with fail;refine(RO v t seq HSZ.o b3 H3.o _ (HT.o.keeps HK2.o)).mono ?_;rintro e w3 ⟨rfl,hk3⟩;have af:=lH (HK2.o.trans hk3);have hb0:=ab.out.keeps hk3 bA;have hb1:=ae.out.keeps hk3 bA;clear T U X B D E F G J M N O hk3;cases b3 with
   | false=>
    obtain rfl:b=false:=by rw [<- HB.o];simp
    go_wp2;go_ret;exact⟨rfl,af.o⟩
   | true=>
    go_wp2_with fail;rw [rounds_succ];obtain rfl:b=true:=by rw [<- HB.o];rfl
    go_wp2;go_ret;exact⟨rfl,af.o⟩
def tv0:TV:=⟨0,0,⟨#[]⟩,0,0,none,0,0,none,0,0,0⟩
def Mg(lv:List TV)(seq:Int)(k:Nat):Array Value:=(fun v:TV=>#[pE pK (k:Int),pH (U_ v seq)]) (lv.getD k tv0)
theorem E8{n:Nat}{B:List Nat}{x:Nat}(h:B++[x] <+: AC n):B=AC x/\x<n:=by
 have hl:B.length+1<=n:=by have:=h.length_le;simpa using this
 have h1:=List.prefix_iff_eq_take.1 h;rw [Al,Bp,List.take_range,DE hl,B3] at h1;obtain⟨h2,h3⟩:=List.append_inj h1 bA;injection h3 with h3
 subst h3;exact⟨h2,by omega⟩
theorem BZ{n k:Nat}(h:k<n):AC k++[k] <+: AC n:=by
 rw [<- B3];exact List.prefix_iff_eq_take.2 (by rw [AP,List.take_range,DE bB])
theorem FU(v:B6)(r:CJ)(gn un fn ln:Nat)(w:World):Calls prog 32 #[pH (R_ v gn un fn ln r.seq)] w fun e w'=>e = pJ (.func (.func 72) #[] #[pG (some (A_ w 0))])/\w.alloc (.cells (R_ v gn un fn ln r.seq) 29)=w':=by
 go_enter func32,ntmps32;go_wp2;go_ret;exact⟨rfl,rfl⟩
def jH(pb:Nat)(la:Option Addr)(lc ln:Nat)(lv:List TV)(seq:Int)(A:World):Prop:=A.cell? ⟨pb,3,none⟩=some (pF la ln lc)/\A.cell? ⟨pb,4,none⟩=some (pE pK seq)/\AR BE 8 A la lc lv
theorem SF(n l pb:Nat)(la:Option Addr)(lc ln:Nat)(lv:List TV)(hln:lv.length=ln)(O:ln<=1000)(seq:Int)(J Y:List Nat->World->Prop)(W:World)(hJ:PG [] J)(hV:∀z A,J z A->jH pb la lc ln lv seq A)
 (hY:∀pre x W1,J pre W1->pre++[x] <+: AC ln->YieldAt Bx (n - 1) prog l (Mg lv seq x) W1 fun e W'=>
   (e = pJ (pI true)/\J (pre++[x]) W')\/(e = pJ (pI false)/\Y (pre++[x]) W'))
 (h0:J [] W):
  CallsIn Bx n prog 72 #[.func (.yield l) #[] #[],p_ pb 0] W fun e W'=>(∃v,e = pJ v)/\
   (J (AC ln) W'\/(∃pre,pre <+: AC ln/\Y pre W')):=by
 have HV:=lH hV;have HY:=lH hY;have HST:=lH hJ;have HLN:=lH hln;have G:Hi (J (AC 0) W):=lH (by simpa using h0);obtain⟨N,F,_⟩:=hV _ _ h0;clear hV hY h0 hJ hln;have X:Fence.wide.depth.isSome=true->1<=n:=by intro h;cases h
 refine callsIn_of_wp func72 rfl trivial ?_ rfl;simp only [ntmps72,Cz,Av,D4,pL,pM,Bt,Bu,Cd,BD,BH,AL];gi_wp2;refine BW (wpIn_seq (wpIn_label ?_));gi_wp2
 gi_loopw [8] (fun i wr=>∃k:Nat,i = I_ k/\k<=ln/\Hi (J (AC k) wr)) (fun i _=>ln - (intOf i).toNat)
 case atStart=>exact⟨0,rfl,Ba _,G⟩
 case round=>
  obtain⟨k,rfl,hk,B⟩:=hrel;clear N F;by_cases hlt:k<ln
  ·have i1:(0:Int)<=(k:Int):=bB;have i2:(k:Int)<(ln:Int):=bB;obtain⟨N,F,hS⟩:=HV.o _ _ B.o;obtain⟨g1,o1,v,rfl,hg1,hx1,hat1⟩:=hS.at_k (k:=k) (by rw [HLN.o];exact hlt);have q0:=hat1 0 _ rfl;have q1:=hat1 1 _ rfl;have q2:=hat1 2 _ rfl;have q3:=hat1 3 _ rfl;have q4:=hat1 4 _ rfl;have q5:=hat1 5 _ rfl;have q6:=hat1 6 _ rfl;have q7:=hat1 7 _ rfl;rw [AT] at q0;have hk0:=(Aa.refl [] wr).alloc (.cells (T_ v) 112);have e4:=Ct F (.cells (T_ v) 112);have D:=HST.o _ _ _ B.o hk0;have hgd:lv.getD k tv0=v:=by rw [AO,hx1];rfl
   have E:=Dq (HY.o _ _ _ D (BZ hlt));rw [<- B3] at E;obtain⟨ag,tmps,assign,body,hy,hR⟩:=E;simp only [Mg,hgd] at hy;clear hS hat1 hx1 hg1 hk0 D hgd;gi_wp2;refine⟨X,?_⟩;refine hR.mono ?_;rintro e W3 ⟨g,rfl,U,hF⟩;clear hR hy N F q0 q1 q2 q3 q4 q5 q6 q7 e4;cases g with
   | false=>
    have T:=lH (hF.out rfl);clear U hF;gi_wp2;try rw [AY]
    go_end0
    exact⟨⟨_,rfl⟩,.inr ⟨_,by rw [B3];exact BZ hlt,T.out⟩⟩
   | true=>
    have M:=lH (U.out rfl);clear U hF;gi_wp2;go_roundw;case rel=>exact⟨k+1,by go_num,by omega,M⟩
    case measure=>simp [intOf];omega
  ·obtain rfl:k=ln:=bB;gi_wp2;try rw [AY]
   go_end0
   exact⟨⟨_,rfl⟩,.inl B.o⟩
theorem FV(n pb:Nat)(la:Option Addr)(lc ln:Nat)(lv:List TV)(hln:lv.length=ln)(h1000:ln<=1000)(seq:Int):
  QL Bx n prog 72 #[pG (some (A_ pb 0))] (Mg lv seq) (AC ln) (jH pb la lc ln lv seq):=fun l J Jx W hJ _ hV hY h0=>
 SF n l pb la lc ln lv hln h1000 seq J Jx W hJ hV hY h0
theorem GR{a b:ByteArray}(h:¬a=b):¬a.toList=b.toList:=fun e=>h (by
 rw [ED,ED] at e;obtain⟨⟨l⟩⟩:=a;obtain⟨⟨m⟩⟩:=b;have e2:l=m:=e;rw [e2])
theorem OX{α:Type}{p:α->Bool}{L:List α}{k:Nat}{x:α}(h:L[k]? = some x)(hf:(L.take k).find? p=none):(L.take (k+1)).find? p=if p x then some x else none:=by
 rw [A0 h,List.find?_append,hf];simp [List.find?_cons];split<;>simp_all
theorem cL{α:Type}{p:α->Bool}{L:List α}{k:Nat}{x:α}(h:L[k]? = some x)(hf:(L.take k).find? p=none)(hp:p x=true):L.find? p=some x:=by
 have e:L=L.take (k+1)++L.drop (k+1):=(Dn _ _).symm;rw [e,List.find?_append,OX h hf,hp];rfl
theorem Pj(a:Option Addr)(c:Nat)(L:List GF)(n:Nat)(hn:L.length=n)(hL:n<=1000000)(hs:∀o∈L,o.name.size<=maxLen)(B:ByteArray)(r e:Int)(hr:BM L B=(r,e))(w:World)(h:IE w a c L):
  Calls prog 119 #[pF a n c,Dz B] w fun x w'=>x = pJ (.tuple #[pE pK r,I_ e])/\Aa [] w w':=by
 have J:=lH h;have HN:=lH hn;obtain⟨b,hb⟩:=eX (G9 L);have HB:=lH hb;have HS:=lH hs;have HR:=lH hr;clear h hn hb hs hr;go_enter func119,ntmps119;go_wp2_with fail;refine(Kg a c L n HN.o hL HS.o b HB.o w J.o).mono ?_;rintro x w1 ⟨rfl,hk⟩;have HK:=lH hk;clear hk;cases b with
 | false=>
  obtain⟨rfl,rfl⟩:r=0/\e=120:=by
   have:=HR.o;unfold BM at this;rw [if_neg lT] at this;injection this with h1 h2
   exact⟨h1.symm,h2.symm⟩
  go_wp2;go_ret2;exact⟨rfl,HK.o⟩
 | true=>
  have F:(match L.find? (fun o=>o.name==B) with | some o=>(o.role,0) | none=>((0:Int),(120:Int)))=(r,e):=by
   have:=HR.o;unfold BM at this;rw [if_pos HB.o] at this;exact this
  have E:=lH F;clear F;go_wp2;go_loopw [13] (fun i wr=>∃k:Nat,i = I_ k/\k<=n/\Hi ((L.take k).find? (fun o=>o.name==B)=none)/\Hi (Aa [] w wr)) (fun i _=>n - (intOf i).toNat)
  case atStart=>exact⟨0,rfl,Ba _,lH rfl,HK⟩
  case round=>
   obtain⟨k,rfl,hk,HP,D⟩:=hrel;by_cases hlt:k<n
   ·obtain⟨g,off,⟨nm,O⟩,rfl,hg,hx,hat⟩:=J.o.at_k (k:=k) bO
    have N:=hat 0 (Dz nm) rfl;have T:=hat 1 (I_ O) rfl;rw [AT] at N;rw [<- D.o.cell (p:=A_ g (off+k*2)) hg bA] at N;rw [<- D.o.cell (p:=A_ g (off+k*2+1)) hg bA] at T;have i1:(0:Int)<=(k:Int):=bB;have i2:(k:Int)<(n:Int):=bB;have M:=lH hx;clear hat hg hx;by_cases he:nm=B
    ·subst he
     obtain⟨rfl,rfl⟩:O=r/\(0:Int)=e:=by
      have:=E.o;rw [cL M.o HP.o bA] at this;injection this with h1 h2
      exact⟨h1,h2⟩
     go_wp2;go_ret2;exact⟨rfl,D.o.alloc _⟩
    ·have hne:(nm.toList==B.toList)=false:=beq_eq_false_iff_ne.2 (GR he)
     have G:Hi ((L.take (k+1)).find? (fun o=>o.name==B)=none):=lH (by rw [OX M.o HP.o,if_neg (by simpa using he)]);clear he;go_wp2;go_roundw;case rel=>exact⟨k+1,by go_num,by omega,G,lH (D.o.alloc _)⟩
     case measure=>simp [intOf];omega
   ·obtain rfl:k=n:=bB;obtain⟨rfl,rfl⟩:r=0/\e=120:=by
     have:=E.o;have h2:=HP.o;rw [Ak bL] at h2;rw [h2] at this;injection this with h1 h2
     exact⟨h1.symm,h2.symm⟩
    go_wp2;go_ret2;exact⟨rfl,D.o⟩
structure jE(w:World)(v:B6)(gn un fn ln:Nat)(seq:Int)(name:ByteArray)(A:World):Prop where
 nb:Blk A (w.heap.size+1) 9 #[Dz name]
 c4:Blk A (w.heap.size+1+1) 3 #[pE pK 0]
 c5:Blk A (w.heap.size+1+1+1) 4 #[pI false]
 pb:Blk A (w.heap.size+1+1+1+1) 29 (R_ v gn un fn ln seq)
 kw:Aa [] w A
theorem jE.keeps{w:World}{v:B6}{gn un fn ln:Nat}{seq:Int}{name:ByteArray}{A A':World}{S:List Nat}(h:jE w v gn un fn ln seq name A)(hk:Aa S A A')(hS:∀y∈S,w.heap.size+4<y):jE w v gn un fn ln seq name A':=
 have hn:∀y,y<=w.heap.size+4->y∉S:=fun y hy hm=>by have:=hS y hm;omega
 ⟨h.nb.keeps hk (hn _ bB),h.c4.keeps hk (hn _ bB),h.c5.keeps hk (hn _ bB),h.pb.keeps hk (hn _ bB),h.kw.own hk bM⟩
structure kZ(w:World)(k:Nat)(A:World):Prop where
 c4:Blk A (w.heap.size+1+1) 3 #[pE pK (k:Int)]
 c5:Blk A (w.heap.size+1+1+1) 4 #[pI true]
 kw:Aa [] w A
theorem kZ.keeps{w:World}{k:Nat}{A A':World}{S:List Nat}(h:kZ w k A)(hk:Aa S A A')(hS:∀y∈S,w.heap.size+3<y):kZ w k A':=
 have hn:∀y,y<=w.heap.size+3->y∉S:=fun y hy hm=>by have:=hS y hm;omega
 ⟨h.c4.keeps hk (hn _ bB),h.c5.keeps hk (hn _ bB),h.kw.own hk bM⟩
def kX(lv:List TV)(name:ByteArray)(k:Nat):Prop:=∀j<k,∀t,lv[j]? = some t->t.name≠name
theorem NA{w:World}: ∀ {V:List TV} {L:List Ten} (name:ByteArray),AX w V L->kX V name V.length->C7 L name=none
 | [],[],_,_,_=>rfl
 | v::V,t::L,name,h,hn=>by
  unfold C7;rw [List.findIdx?_cons];have h1:=hn 0 bA v rfl;rw [h.1.name] at h1;rw [if_neg bR];have:=NA (V:=V) (L:=L) name h.2 (fun j hj t ht=>hn (j+1) (by simpa using hj) t (by simpa using ht));unfold C7 at this;rw [this];rfl
 | [],_::_,_,h,_=>h.elim
 | _::_,[],_,h,_=>h.elim
theorem Sp{w:World}: ∀ {V:List TV} {L:List Ten} (name:ByteArray) (k:Nat) (u:TV),AX w V L->kX V name k->V[k]? = some u->u.name=name->C7 L name=some k
 | v::V,t::L,name,0,u,h,_,hu,hn=>by
  unfold C7;rw [List.findIdx?_cons];simp only [Aj,Option.some.injEq] at hu;subst hu;rw [if_pos (by rw [<- h.1.name,hn];simp)]
 | v::V,t::L,name,k+1,u,h,hN,hu,hn=>by
  unfold C7;rw [List.findIdx?_cons];have h1:=hN 0 bB v rfl;rw [h.1.name] at h1;rw [if_neg bR];have:=Sp (V:=V) (L:=L) name k u h.2 (fun j hj t ht=>hN (j+1) bB t (by simpa using ht)) (by simpa using hu) hn;unfold C7 at this;rw [this];rfl
 | [],[],_,_,_,_,_,hu,_=>by simp at hu
 | [],_::_,_,_,_,h,_,_,_=>h.elim
 | _::_,[],_,_,_,h,_,_,_=>h.elim
theorem Pv(v:B6)(r:CJ)(gn un fn ln:Nat)(hln:v.lv.length=ln)(U:ln<=1000)(seq:Int)(hsq:r.seq=seq)(B:ByteArray)(w:World)(hl:AR BE 8 w v.la v.lc v.lv)(ht:AX w v.lv r.l):
  Calls prog 129 #[pH (R_ v gn un fn ln seq),Dz B] w fun x w'=>x = pJ (.tuple #[pE pK (((C7 r.l B).getD 0:Nat):Int),pI (C7 r.l B).isSome])/\Aa [] w w':=by
 subst hsq;obtain⟨seq,O⟩:=eX r.seq;have X:=fun W=>FU v r gn un fn ln W;rw [O] at X ⊢;refine(callsIn_wide (n:=9)).1 ?_;have HL:=lH hl;have HT:=lH ht;have HLN:=lH hln;have ad:=lH X;clear hl ht hln X O;refine callsIn_of_wp_marks func129 rfl trivial ?_ rfl;simp only [ntmps129,Cz,Av,D4,pL,pM,Bt,Bu,Cd,BD,BH,AL];gi_wp2_with fail;refine⟨trivial,(callsIn_wide.2 (ad.o _)).mono ?_⟩;rintro e w1 ⟨rfl,hw1⟩;gi_wp2_with fail;have hsz:w1.heap.size=w.heap.size+5:=by rw [<- hw1];simp
 have Y:jE w v gn un fn ln seq B w1:=by
  have hk:Aa [] w w1:=by rw [<- hw1];exact(((((Aa.refl [] w).alloc _).alloc _).alloc _).alloc _).alloc _
  refine⟨?_,?_,?_,?_,hk⟩<;>rw [<- hw1]
  ·exact(((Ar _ _ _ _ bA).alloc _).alloc _).alloc _
  ·exact((Ar _ _ _ _ bA).alloc _).alloc _
  ·exact(Ar _ _ _ _ bA).alloc _
  ·exact Ar _ _ _ _ bA
 have ab:=lH Y;clear Y hw1;refine Cc rfl bB (gf:=72) (lb:=#[pG (some (A4 w 0))]) rfl trivial (enters_of func72 bC rfl) (FV 8 (w+1+1+1+1) v.la v.lc ln v.lv HLN.o U seq) (fun _=>rfl)
  (fun E A=>kX v.lv B E.length/\jE w v gn un fn ln seq B A) (fun _ A=>∃k,C7 r.l B=some k/\kZ w k A)
  (fun E A A' h hk=>⟨h.1,h.2.keeps hk bF⟩)
  (fun E A A' h hk=>by
   obtain⟨k,h1,h2⟩:=h;exact⟨k,h1,h2.keeps hk bF⟩)
  (fun E A h=>⟨h.2.pb.cell 3,h.2.pb.cell 4,HL.o.keeps h.2.kw⟩) ⟨fun j hj=>by simp at hj,ab.o⟩
  (fun k W=>(fun u:TV=>(({ tmps:=#[pH (R_ v gn un fn ln seq),Dz B,p_ w 0,p1 w 0,p2 w 0,p3 w 0,I_ (k:Int),p_ W 0,pH (R_ v gn un fn ln seq),
     .func (.func 72) #[] #[pG (some (A4 w 0))],I_ (k:Int),pH (U_ u seq),UD,UD,UD,UD,UD,UD],defers:=[] } : Act),W.alloc (.cells (U_ u seq) 114))) (v.lv.getD k tv0))
  (fun k W=>(Aa.refl [] W).alloc _) ?assign ?body ?done ?stop
 case assign=>
  intro l k W K hK;simp only [Mg];dsimp only at hK;generalize v.lv.getD k tv0=u at hK ⊢;gi_wp2;exact hK
 case body=>
  rintro l E k W W2 ⟨hN,hI⟩ J T hk2;obtain⟨rfl,hkn⟩:=E8 J;obtain⟨u,hu⟩:∃u,v.lv[k]? = some u:=⟨_,Aq iV⟩;have hgd:v.lv.getD k tv0=u:=by rw [AO,hu];rfl
  dsimp only at hk2 ⊢;rw [hgd] at hk2 ⊢;rw [AP] at hN;have am:W.heap.size<=W2.heap.size:=by have:=hk2.size;rw [Eo] at this;omega
  have D:=(hI.keeps ((Aa.refl [] W).alloc (.cells (U_ u seq) 114)) bA).keeps hk2 bF;have hb:=(Blk.new W 114 (U_ u seq)).keeps hk2 bI;have d2:=hb.ce 2;have q1:=D.nb.ce 0;have q4:=D.c4.ce 0;have q5:=D.c5.ce 0;have f4:=D.c4.frozen 0;have f5:=D.c5.frozen 0;have M:=lH D;have HU:=lH hu;have HN:=lH hN;clear hI J hk2 D hb hgd hu hN;by_cases hnm:u.name=B
  ·have ai:(u.name.toList==B.toList)=true:=by rw [hnm];simp
   have F:Hi (C7 r.l B=some k):=lH (Sp B k u HT.o HN.o HU.o hnm);clear hnm;gi_wp2;have hk3:Aa [w.heap.size+1+1,w.heap.size+1+1+1] W2 ((W2.setCell (A2 w 0) (I_ (k:Int))).setCell (A3 w 0) (pI true)):=((Aa.refl _ W2).setCell (p:=A2 w 0) (.inl bA) _).setCell (p:=A3 w 0) (.inl bA) _;refine⟨hk3.size,fun y hy=>hk3.block y gB iT,k,F.o,?_,?_,M.o.kw.own hk3 bF⟩
   ·exact(M.o.c4.set_ 0 (I_ (k:Int))).far bA _
   ·exact(M.o.c5.far bA _).set_ 0 (pI true)
  ·have ai:(u.name.toList==B.toList)=false:=by simpa using GR hnm
   have ac:Hi (kX v.lv B (AC k++[k]).length):=lH (by
    rw [Al,AP,Bp];intro j hj t G;rcases pP j k with h | h
    ·exact HN.o j h t G
    ·obtain rfl:j=k:=bB;rw [HU.o] at G;injection G with G
     rw [<- G];exact hnm)
   clear hnm;gi_wp2;exact⟨Aw _,fun _ _=>rfl,ac.o,M.o⟩
 case done=>
  rintro W ⟨hN,hI⟩ T hK;rw [AP] at hN;have F:Hi (C7 r.l B=none):=lH (NA B HT.o (by rw [HLN.o];exact hN));have q4:=hI.c4.ce 0;have q5:=hI.c5.ce 0;have f4:=hI.c4.frozen 0;have f5:=hI.c5.frozen 0;have HI:=lH hI;clear hI hN;gi_wp2;obtain⟨WF,N⟩:=eX ((W.setCell (A2 w 0) (I_ 0)).setCell (A3 w 0) (pI false));have hk3:Aa [w.heap.size+1+1,w.heap.size+1+1+1] W WF:=by rw [<- N];exact((Aa.refl _ W).setCell (p:=A2 w 0) (.inl bA) _).setCell (p:=A3 w 0) (.inl bA) _
  have d2:Blk WF (w+1+1) 3 #[pE pK 0]:=by rw [<- N];exact(HI.o.c4.set_ 0 (I_ 0)).far bA _
  have d3:Blk WF (w+1+1+1) 4 #[pI false]:=by rw [<- N];exact(HI.o.c5.far bA _).set_ 0 (pI false)
  rw [N];have ah:WF.heap[w1.heap.size]? = some (.deferred (some [])):=(hk3.block _ bB bI).trans hK;refine⟨by simp,.inl ⟨_,_,rfl,run_takeDeferred ah,?_⟩⟩;have hk4:=AG (S:=[w1.heap.size]) WF (.deferred none) (l:=w1.heap.size) bA;have e2:=(d2.keeps hk4 bG).ce 0;have e3:=(d3.keeps hk4 bG).ce 0;refine⟨.tuple #[pE pK 0,pI false],by simp [results,results129,go_sem,e2,e3],?_⟩;rw [F.o];exact⟨rfl,(HI.o.kw.own hk3 bF).own hk4 bF⟩
 case stop=>
  rintro E W J ⟨k,aa,hX⟩ T hK;have HX:=lH hX;have F:=lH aa;clear hX aa;gi_wp2;refine⟨by simp,.inl ⟨_,_,rfl,run_takeDeferred hK,?_⟩⟩;have hk4:=AG (S:=[w1.heap.size]) W (.deferred none) (l:=w1.heap.size) bA;have e2:=(HX.o.c4.keeps hk4 bG).ce 0;have e3:=(HX.o.c5.keeps hk4 bG).ce 0;refine⟨.tuple #[pE pK (k:Int),pI true],by simp [results,results129,go_sem,e2,e3],?_⟩;rw [F.o];exact⟨rfl,HX.o.kw.own hk4 bF⟩
end
section
open Go.RowKit
theorem AR.keepsS{α:Type}{enc:α->List Value}{n:Nat}{w w':World}{a:Option Addr}{c:Nat}{xs:List α}{S:List Nat}(h:AR enc n w a c xs)(hk:Aa S w w')(hS:∀g off,a=some (A_ g off)->g∉S):AR enc n w' a c xs:=
 ⟨h.le,h.nil,fun h0=>by
  obtain⟨g,off,ha,hg,hc⟩:=h.at_ h0;exact⟨g,off,ha,BS hg hk.size,fun i hi j u hj=>(hk.cell (p:=A_ g (off+i*n+j)) hg (hS g off ha)).trans (hc i hi j u hj)⟩⟩
theorem Blk.put3{w:World}{g:Nat}{t:TypeId}{x0 x1 x2:Value}(h:Blk w g t #[x0,x1,x2])(a b c:Value):Blk (((w.setCell (A_ g 0) a).setCell (A_ g 1) b).setCell (A_ g 2) c) g t #[a,b,c]:=((h.set_ 0 a).set_ 1 b).set_ 2 c
theorem Ae(w:World)(g i:Nat)(a:Value):Aa [g] w (w.setCell (A_ g i) a):=(Aa.refl [g] w).setCell (p:=A_ g i) (.inl bA) _
theorem G5(w:World)(g:Nat)(a b c:Value):Aa [g] w (((w.setCell (A_ g 0) a).setCell (A_ g 1) b).setCell (A_ g 2) c):=((Ae w g 0 a).trans (Ae _ g 1 b)).trans (Ae _ g 2 c)
theorem DP{w:World}{B:Nat}{e:TypeId}{D:Nat}{v:Value}{n:Nat}{xs:List Value}(h:w.ownsRow B e D v n xs){x:Nat}(hx:v.ownBlock=some x):∃cs,Blk w x e cs:=by
 rcases h.2 with⟨rfl,_⟩ | ⟨g,cap,cur,rfl,_,hg,_⟩
 ·cases hx
 ·injection hx with hx
  exact⟨cur,by rw [<- hx];exact hg⟩
theorem CX{w:World}{B:Nat}{e t:TypeId}{sz:Nat}{v:Value}{n g:Nat}{xs:List Value}{cs:Array Value}(h:w.ownsRow B e sz v n xs)(hb:Blk w g t cs)(hne:e≠t):∀x,v.ownBlock=some x->x≠g:=fun x hx e1=>by
 obtain⟨c2,h2⟩:=DP h hx;subst e1;unfold Blk at hb h2;rw [h2] at hb;injection hb with hb;injection hb with _ hb _
 exact hne hb
theorem FP{w:World}{B B2:Nat}{e e2:TypeId}{sz sz2:Nat}{v v2:Value}{n n2:Nat}{xs xs2:List Value}(h:w.ownsRow B e sz v n xs)(h2:w.ownsRow B2 e2 sz2 v2 n2 xs2)(hne:e≠e2):∀x y,v.ownBlock=some x->v2.ownBlock=some y->x≠y:=fun x y hx hy=>by
 obtain⟨cs,hb⟩:=DP h2 hy;exact CX h hb hne x hx
theorem AR.of_blk{α:Type}{f:α->Value}{enc:α->List Value}(he:∀x,enc x = [f x]){w:World}{g:Nat}{t:TypeId}{L:List α}{n:Nat}(hn:L.length=n)(h:Blk w g t (L.map f).toArray):AR enc 1 w (some (A_ g 0)) n L:=
 ⟨by omega,(fun e=>by cases e),fun _=>⟨g,0,rfl,h.lt,fun i hi j u hj=>by
  rw [he] at hj;cases j with
  | succ j=>simp at hj
  | zero=>
   simp only [Aj,Option.some.injEq] at hj;rw [h.cell];simp [<- hj,hi]⟩⟩
def Ja(B:Nat)(v:DF):Prop:=(∀g o,v.ga=some ⟨g,o,none⟩->B<=g)/\(∀g o,v.ua=some ⟨g,o,none⟩->B<=g)/\(∀g o,v.fa=some ⟨g,o,none⟩->B<=g)
def Di(B:Nat)(w:World)(s:Fz)(x:Value):Prop:=∃v gn un fn,x = pH (S_ v gn un fn)/\s.gens.length=gn/\s.used.length=un/\s.free.length=fn/\Dy w v s/\Ja B v
theorem Dy.zero(w:World):Dy w ⟨none,0,none,0,none,0⟩ Ez:=⟨.none_,.none_,.none_,by decide,by decide,by decide⟩
theorem Di.zero(B:Nat)(w:World):Di B w Ez (.agg IY.k):=⟨⟨none,0,none,0,none,0⟩,0,0,0,rfl,rfl,rfl,rfl,Dy.zero w,(fun _ _ e=>by cases e),(fun _ _ e=>by cases e),(fun _ _ e=>by cases e)⟩
theorem Di.keeps{B:Nat}{w w':World}{s:Fz}{x:Value}(h:Di B w s x)(hk:Aa [] w w'):Di B w' s x:=by
 obtain⟨v,gn,un,fn,h1,h2,h3,h4,D,E⟩:=h;exact⟨v,gn,un,fn,h1,h2,h3,h4,D.keeps hk,E⟩
end
section
open Go.RowKit Go.Shelf
attribute [local go_sem] pN
attribute [local go_sem ↓] wp_at_zero wp_at_succ
theorem Nj:D1 (prog.info? 3) 1=true:=bC
def Kl(role:Int):List Int:=(B7.filter (fun v=>setsR role &&& v.2.2 != 0)).map (·.1)
theorem Wy(B D:Int):LJ B D=decide (D∈Kl B):=by
 unfold LJ Kl;rw [DI,decide_eq_true_eq,List.any_eq_true];simp only [BO,List.mem_filter,Af,beq_iff_eq];constructor
 ·rintro⟨x,h1,h2,h3⟩;exact⟨x,⟨h1,h3⟩,h2⟩
 ·rintro⟨x,⟨h1,h3⟩,h2⟩;exact⟨x,h1,h2,h3⟩
structure jJ(w:World)(role:Int)(pre:List (Int×List UInt8×Nat))(A:World):Prop where
 run:∃v,A.ownsRow (w.heap.size+4) 3 1 v (pre.map (·.1)).length ((pre.map (·.1)).flatMap Fb)∧Blk A w.heap.size 23 #[v]
 tb:Blk A (w.heap.size+1) 251 #[.func (.func 128) #[pE pK role] #[]]
 kw:Aa [] w A
 vt:Er A
theorem jJ.keeps{w:World}{B:Int}{D:List (Int×List UInt8×Nat)}{A F:World}{S:List Nat}(h:jJ w B D A)(hk:Aa S A F)(hS:∀y∈S,w.heap.size+2<=y/\y<w.heap.size+4)(hg:1<w.heap.size):jJ w B D F:=by
 obtain⟨v,h1,h2⟩:=h.run;have hn:∀y,y<w.heap.size+2->y∉S:=fun y hy hm=>by have:=hS y hm;omega
 exact⟨⟨v,Ah h1 hk (fun g E hm=>by have:=(h1.lt g E).1;have:=hS g hm;omega),h2.keeps hk (hn _ bB)⟩,h.tb.keeps hk (hn _ bB),h.kw.own hk bM,h.vt.keeps hk (hn _ bB)⟩
theorem Vu(B:Int)(w:World)(hv:Er w):Calls prog 93 #[pE pK B] w fun x w'=>∃a c,x = pJ (pF a (Kl B).length c)/\F1 w' a c (Kl B)/\Aa [] w w':=by
 refine(callsIn_wide (n:=9)).1 ?_;have U:1<w.heap.size:=Be w _ (hv 0 _ rfl);have ai:=lH hv;clear hv;refine callsIn_of_wp_marks func93 rfl trivial ?_ rfl;simp only [ntmps93,Cz,Av,D4,pL,pM,Bt,Bu,Cd,BD,BH,AL];gi_wp2_with fail;refine⟨trivial,(callsIn_wide.2 (Pz _ _ ⟨_,_,_,rfl⟩)).mono ?_⟩;rintro e w1 ⟨rfl,hw1⟩;gi_wp2_with fail;have hsz:w1.heap.size=w.heap.size+2:=by rw [<- hw1];simp
 have ab:jJ w B [] w1:=by
  have hk:Aa [] w w1:=by rw [<- hw1];exact((Aa.refl [] w).alloc _).alloc _
  refine⟨⟨pF none 0 0,BQ _ _ _ _,?_⟩,?_,hk,ai.o.keeps hk bA⟩<;>rw [<- hw1]
  ·exact(Blk.new w _ _).alloc _
  ·exact Ar _ _ _ _ bA
 have ag:=lH ab;clear ab hw1;refine Cc rfl bB (gf:=165) (lb:=#[pG (some (A1 w 0))]) rfl trivial (enters_of func165 bC rfl) (ZO 8 (w+1) B) (fun _=>rfl)
  (fun D A=>jJ w B D A) (fun _ _=>False)
  (fun D A A' h hk=>h.keeps hk bF U)
  (fun D A A' h hk=>h)
  (fun D A h=>⟨h.vt,by simpa using h.tb.cell 0⟩) ag.o
  (fun x W=>({ tmps:=#[pE pK B,UD,pF none 0 0,p_ w 0,p_ W 0,I_ B,.func (.func 128) #[pE pK B] #[],
     .func (.func 165) #[] #[pG (some (A1 w 0))],pH #[pE pK x.1,Dz ⟨x.2.1.toArray⟩,I_ (x.2.2:Nat)],UD,UD,UD,UD,UD,UD],defers:=[] },W.alloc (.cells #[pE pK x.1,Dz ⟨x.2.1.toArray⟩,I_ (x.2.2:Nat)] 253)))
  (fun x W=>(Aa.refl [] W).alloc _) ?assign ?body ?done ?stop
 case assign=>
  rintro l ⟨vn,vw,vs⟩ W K hK;simp only [Mh,My];gi_wp2;exact hK
 case body=>
  rintro l D ⟨vn,vw,vs⟩ W W2 hI J T hk2;dsimp only at hk2 ⊢;have hb:=(Blk.new W 253 #[pE pK vn,Dz ⟨vw.toArray⟩,I_ (vs:Nat)]).keeps hk2 bI;have G:=(hI.keeps ((Aa.refl [] W).alloc (.cells #[pE pK vn,Dz ⟨vw.toArray⟩,I_ (vs:Nat)] 253)) bA U).keeps hk2 bF U;obtain⟨v,hrow,F⟩:=G.run;have an:W.heap.size+1<=W2.heap.size:=by have:=hk2.size;rw [Eo] at this;exact this
  have ad:(D.map (·.1)).length<=10:=by
   have h1:=J.length_le;have h2:=List.length_filter_le (fun v:Int×List UInt8×Nat=>setsR B &&& v.2.2 != 0) B7;have h3:B7.length=10:=bE;simp only [Al,Bp,Bd] at h1 ⊢;omega
  obtain⟨g,c,W3,N,M,hk3,ac⟩:=CO (enc:=Fb) prog (t:=23) underlying23 Nj bE Eu KH hrow bB vn bB 23;have d0:=hb.ce 0;have q0:=F.ce 0;have hgeS:=AZ hrow;have E:=F.keeps hk3 (fun hm=>by have:=hgeS _ hm;omega);have q3:=E.ce 0;have f3:=E.frozen 0;have O:=lH (E.set_ 0 (pF (some (A_ g 0)) ((D.map (·.1)).length+1) c));obtain⟨m,hm⟩:=eX ((D.map (·.1)).length+1);have ah:=lH (G.tb.keeps hk3 (fun hm=>by have:=hgeS _ hm;omega));have Y:=lH (G.vt.keeps hk3 (fun hm=>by have:=hgeS _ hm;omega));have HKW:=lH (G.kw.own hk3 jW);have HROW:=lH M;have HSZ:Hi (W2.heap.size<=W3.heap.size):=lH hk3.size;have af:Hi (∀k∈[w1.heap.size,w1.heap.size+1],W3.heap[k]? = W2.heap[k]?):=lH (fun k hk=>hk3.block k mY (fun hm=>by have:=hgeS k hm;simp only [Ac,Ab,or_false] at hk;omega));have ap:=lH ac;rw [hm] at N O HROW;have HM:=lH hm;simp only [Fb] at N;clear hI J hk2 G hb hrow F ad M hk3 ac hgeS E hm;gi_wp2_with (gi_at_builtin;refine EI _ rfl _ _ 23 rfl rfl rfl N ?_);have hk4:Aa [w.heap.size] W3 (W3.setCell (A_ w 0) (pF (some (A_ g 0)) m c)):=(Aa.refl _ W3).setCell (p:=A_ w 0) (.inl bA) _;refine⟨A8 HSZ.o hk4.size,fun y hy=>(hk4.block y mV iT).trans (af.o y hy),⟨_,?_,O.o⟩,ah.o.keeps hk4 bA,HKW.o.own hk4 bF,Y.o.keeps hk4 bI⟩;have h9:=Ah HROW.o hk4 (fun g' aj hm'=>by have:=(HROW.o.lt g' aj).1;simp only [Ac,Ab,or_false] at hm';omega);rw [pO];exact h9
 case done=>
  rintro W hI T hK;rw [hsz] at hK;obtain⟨v,hrow,F⟩:=hI.run;have q0:=F.ce 0;have HROW:=lH hrow;have HKW:=lH hI.kw;clear hI hrow F;gi_wp2;refine⟨by simp,.inl ⟨_,_,rfl,run_takeDeferred hK,?_⟩⟩;have hk4:=AG (S:=[w.heap.size+2]) W (.deferred none) (l:=w.heap.size+2) bA;have X:=Ah HROW.o hk4 (fun g hg hm=>by have:=(HROW.o.lt g hg).1;simp only [Ac,Ab,or_false] at hm;omega);obtain⟨a,c,rfl,ak,_⟩:=AR.of_row Eu X;refine⟨_,by simp [results,results93,go_sem];rfl,?_⟩;exact⟨a,c,by simp [Kl],ak,HKW.o.own hk4 bF⟩
 case stop=>
  rintro D W J hX T hK;exact hX.elim
theorem U1(D B:Int)(b:Bool)(hb:LJ D B=b)(w:World)(hv:Er w):Calls prog 48 #[pE pK D,I_ B] w fun x w'=>x = pJ (pI b)/\Aa [] w w':=by
 rw [Wy] at hb;have J:=lH (Vu D w hv);obtain⟨L,hL⟩:=eX (Kl D);have E:L.length<=10:=by
  rw [<- hL];have h2:=List.length_filter_le (fun v:Int×List UInt8×Nat=>setsR D &&& v.2.2 != 0) B7;have h3:B7.length=10:=bE;unfold Kl;rw [Bd];omega
 rw [hL] at hb J;have HB:=lH hb;clear hb hv hL;go_enter func48,ntmps48;go_wp2_with fail;refine J.o.mono ?_;rintro x w1 ⟨a,c,rfl,F,hk⟩;obtain⟨n,hn⟩:=eX L.length;have HS:=lH F;have HK:=lH hk;have HN:=lH hn;rw [hn] at E ⊢;clear F hk hn;go_wp2_with fail;go_loopw [10] (fun i wr=>∃k:Nat,i = I_ k/\k<=n/\Hi (B∉L.take k)/\wr=w1) (fun i _=>n - (intOf i).toNat)
 case atStart=>exact⟨0,rfl,Ba _,lH bA,rfl⟩
 case round=>
  obtain⟨k,rfl,hk,HP,rfl⟩:=hrel;by_cases hlt:k<n
  ·obtain⟨g,off,x,rfl,hg,hx,hat⟩:=HS.o.at_k (k:=k) bO
   have N:=hat 0 (I_ x) rfl;rw [AT,pR] at N;have i1:(0:Int)<=(k:Int):=bB;have i2:(k:Int)<(n:Int):=bB;have M:=lH hx;clear hat hg hx;by_cases he:x=B
   ·have f1:(x==B)=true:=by simpa using he
    obtain rfl:b=true:=by rw [<- HB.o,<- he];exact decide_eq_true (CD M.o)
    clear he;go_wp2;go_ret;exact⟨rfl,HK.o⟩
   ·have f1:(x==B)=false:=by simpa using he
    have G:Hi (B∉L.take (k+1)):=lH (by rw [A0 M.o,AQ,Ag];exact fun h=>h.elim HP.o (fun e=>he e.symm));clear he;go_wp2;go_roundw;case rel=>exact⟨k+1,by go_num,by omega,G,trivial⟩
    case measure=>simp [intOf];omega
  ·obtain rfl:k=n:=bB;obtain rfl:b=false:=by
    rw [<- HB.o];have:=HP.o;rw [Ak bL] at this;exact decide_eq_false this
   go_wp2;go_ret;exact⟨rfl,HK.o⟩
theorem LH{t e:TypeId}{z:Value}(B:prog.underlying t=some (.slice e))(hi:(prog.info? e).map (fun i=>(i.zero,i.size,decide (i.bytes<=8)))=some (some z,1,true))(n:Nat)(hn:n<=1000)(W:World):
  (Instr.makeSlice t (I_ (n:Int)) (I_ (n:Int))).run prog W = .ok (pF (some (A_ W 0)) n n) (W.alloc (.cells (madeCells z.cells n) e)):=by
 cases hq:prog.info? e with
 | none=>rw [hq] at hi;cases hi
 | some i=>
  rw [hq] at hi;simp only [Option.map_some,Option.some.injEq,Prod.mk.injEq,decide_eq_true_eq] at hi;obtain⟨h1,h2,h3⟩:=hi;have:=He (P:=prog) t e i z B hq h1 .i64 .i64 n n (Aw _) (by have:=Nat.mul_le_mul h3 hn;omega) bB W;rw [h2,pR] at this;exact this
structure aN(w:World)(gn un fn:Nat)(used:List Bool)(free:List Int)(gens:Array Value)(tb:Nat)(W:World)(g:Nat)(ua:Option Addr)(uc:Nat)(fa:Option Addr)(fc:Nat):Prop where
 blk:Blk W tb 210 #[pF (some ⟨g,0,none⟩) gn gn,pF ua un uc,pF fa fn fc]
 gb:Blk W g 3 gens
 u:W.ownsRow w.heap.size 4 1 (pF ua un uc) un (used.flatMap JM)
 f:W.ownsRow w.heap.size 3 1 (pF fa fn fc) fn (free.flatMap Fb)
 ge:w.heap.size≤g
 te:w.heap.size≤tb
 nu:∀x,EZ (pF ua un uc)=some x→x≠g
 ne:∀x,EZ (pF fa fn fc)=some x→x≠g
 kw:Aa [] w W
theorem Bw{w:World}{B B' n:Nat}{e:TypeId}{D:Nat}{v:Value}{xs:List Value}(h:w.ownsRow B e D v n xs)(hb:B'<=B):w.ownsRow B' e D v n xs:=by
 refine⟨h.1,?_⟩;rcases h.2 with h0 | ⟨g,cap,cur,h1,h2,h3⟩
 ·exact .inl h0
 ·exact .inr ⟨g,cap,cur,h1,A8 hb h2,h3⟩
theorem dH{w WX wu wf:World}{gn un fn g bu bf tb:Nat}(htb:tb=WX.heap.size){used:List Bool}{free:List Int}{cs:Array Value}{ua fa:Option Addr}{uc fc:Nat}{wz:World}(hz:Aa [] w wz)(hkz:Aa [] wz WX)(hgb:Blk WX g 3 cs)(hge:wz.heap.size<=g)
 (hu:wu.ownsRow bu 4 1 (pF ua un uc) un (used.flatMap JM))(hub:w.heap.size<=bu)(huk:Aa [] wu WX)(hf:wf.ownsRow bf 3 1 (pF fa fn fc) fn (free.flatMap Fb))(hfb:w.heap.size<=bf)(hfk:Aa [] wf WX)(hnu:g<bu\/wu.heap.size<=g)(hne:g<bf\/wf.heap.size<=g):
  aN w gn un fn used free cs tb (WX.alloc (.cells #[pF (some (A_ g 0)) gn gn,pF ua un uc,pF fa fn fc] 210)) g ua uc fa fc/\Aa [] wz (WX.alloc (.cells #[pF (some (A_ g 0)) gn gn,pF ua un uc,pF fa fn fc] 210))/\wz.heap.size<=g:=
 by
 subst htb;have hkw:=hz.trans hkz;have ha:=(Aa.refl [] WX).alloc (.cells #[pF (some (A_ g 0)) gn gn,pF ua un uc,pF fa fn fc] 210);exact⟨⟨Blk.new WX _ _,hgb.keeps ha bA,Ah (Bw hu hub) (huk.trans ha) bA,Ah (Bw hf hfb) (hfk.trans ha) bA,A8 hz.size hge,hkw.size,fun x hx=>by have:=hu.lt x hx;omega,fun x hx=>by have:=hf.lt x hx;omega,hkw.trans ha⟩,hkz.trans ha,hge⟩
theorem P2{α:Type}(v:α):∀(l:List α) (o:Nat),o<l.length->(l.set o v).take (o+1)=l.take o++[v]/\(∀k,o<k->(l.set o v).drop k=l.drop k)
 | [],_,h=>by simp at h
 | x::l,0,_=>⟨by simp,fun k hk=>by
  obtain⟨k,rfl⟩:∃m,k=m+1:=⟨k - 1,by omega⟩;simp⟩
 | x::l,o+1,h=>by
  obtain⟨h1,h2⟩:=P2 v l o bK;refine⟨by simp [h1],fun k hk=>?_⟩;obtain⟨k,rfl⟩:∃m,k=m+1:=⟨k - 1,by omega⟩;simpa using h2 k bB
theorem Blk.setAll{g:Nat}{t:TypeId}: ∀(vs:List Value) (o:Nat) (w:World) (cs:Array Value),Blk w g t cs->o+vs.length<=cs.size->∃cs',Blk (w.setCells g o vs) g t cs'/\cs'.toList=cs.toList.take o++vs++cs.toList.drop (o+vs.length)
 | [],o,w,cs,h,_=>⟨cs,h,by simp⟩
 | v::r,o,w,cs,h,hl=>by
  simp only [Av] at hl;obtain⟨cs',h1,h2⟩:=Blk.setAll r (o+1) (w.setCell (A_ g o) v) (cs.setIfInBounds o v) (h.set_ o v) bG;refine⟨cs',h1,?_⟩;obtain⟨h3,h4⟩:=P2 v cs.toList o bG;rw [h2,Array.toList_setIfInBounds,h3,h4 _ bB,Av,show o+1+r.length=o+(r.length+1) by omega];simp
theorem VL(W:World)(g gn:Nat)(D:Array Value)(B:Blk W g 3 D)(h0:D.size=gn)(ga:Option Addr)(gc:Nat)(L:List Int)(hL:L.length=gn)(h:F1 W ga gc L):
  ∃W2,(∀ty,(E3 #[23,23] ty #[pF (some (A_ g 0)) gn gn,pF ga gn gc]).run prog W = .ok (goInt gn) W2)/\Blk W2 g 3 (L.map (pE .i64)).toArray/\Aa [g] W W2:=by
 have hs:(prog.info? 3).map (·.size)=some 1:=bC
 cases ga with
 | none=>
  obtain⟨rfl,rfl⟩:=h.isNil;subst hL;refine⟨W,fun ty=>run_copy_none (P:=prog) W 23 23 ty 3 _ _ _ _ _ _ underlying23 hs rfl,?_,Aa.refl _ W⟩;have:D=#[]:=Array.eq_empty_of_size_eq_zero (by simpa using h0);rw [this] at B;exact B
 | some p=>
  have E:=h.flat Eu;have G:∀L:List Int,L.flatMap Fb=L.map (pE .i64):=fun L=>by
   induction L with
   | nil=>rfl
   | cons x l ih=>rw [List.flatMap_cons,ih];rfl
  rw [G] at E;refine⟨W.setCells g 0 (L.map (pE .i64)),fun ty=>?_,?_,Aa.setCells (.inl bA) _ _ (Aa.refl _ W)⟩
  ·have:=run_copy_cells (P:=prog) W 23 23 ty 3 g 0 gn gn p gn gc (L.map (pE .i64)) underlying23 hs (by rw [Bd,hL];exact(Nat.min_self gn).symm) E
    (fun j hj=>by rw [AW,B.cell,Array.getElem?_eq_getElem (by rw [Bd] at hj;omega)];rfl) (fun j hj=>by rw [B.frozen]) (fun v hv=>by obtain⟨x,_,rfl⟩:=BO.1 hv;rfl)
   rw [Bd,hL] at this;exact this
  ·obtain⟨F,h1,h2⟩:=Blk.setAll (L.map (pE .i64)) 0 W D B (by rw [Bd];omega)
   have h3:F=(L.map (pE .i64)).toArray:=by
    rw [<- Array.toList_inj,h2,Bd,List.drop_of_length_le bG];simp
   rw [<- h3];exact h1
theorem I0(v:DF)(s:Fz)(gn un fn:Nat)(hg:s.gens.length=gn)(hu:s.used.length=un)(hf:s.free.length=fn)(w:World)(h:Dy w v s):
  Calls prog 166 #[pH (S_ v gn un fn)] w fun e w'=>∃tb g ua uc fa fc,e = pJ (p_ tb 0)/\aN w gn un fn s.used s.free (s.gens.map (pE .i64)).toArray tb w' g ua uc fa fc:=by
 have J:gn<=1000:=by have:=h.sg;omega
 have ab:un<=1000:=by have:=h.su;omega
 have aa:fn<=1000:=by have:=h.sf;omega
 have ak:=fun W=>LH (t:=23) (e:=3) (z:=I_ 0) underlying23 bC gn J W;obtain⟨wz,hwz⟩:=eX (w.alloc (.cells (S_ v gn un fn) 26));have hz:Aa [] w wz:=by rw [<- hwz];exact(Aa.refl [] w).alloc _
 have G:Blk wz w 26 (S_ v gn un fn):=by rw [<- hwz];exact Blk.new w _ _
 have hS:∀W,Aa [] wz W->Aa [] wz W/\W.cell? (A_ w 0)=some (pF v.ga gn v.gc)/\W.cell? (A_ w 1)=some (pF v.ua un v.uc)/\W.cell? (A_ w 2)=some (pF v.fa fn v.fc):=fun W hk=>
  ⟨hk,(G.keeps hk bA).cell 0,(G.keeps hk bA).cell 1,(G.keeps hk bA).cell 2⟩
 have HS:=lH hS;have O:=lH (fun W (hk:Aa [] wz W)=>Rb v.ua v.uc s.used un hu bB W (h.u.keeps (hz.trans hk)));have N:=lH (fun W (hk:Aa [] wz W)=>PR v.fa v.fc s.free fn hf bB W (h.f.keeps (hz.trans hk)));have HZ:=lH hz;have HM:=lH h;have HG:=lH hg;have T:Hi (w.heap.size<wz.heap.size):=lH gA;clear h hg hu hf G hz hS;go_enter func166,ntmps166;go_wp2;clear hwz;go_cut [3] (fun x wc=>∃tb g ua uc fa fc,x = p_ tb 0/\Hi (aN w gn un fn s.used s.free (madeCells #[pE pK 0] gn) tb wc g ua uc fa fc/\Aa [] wz wc/\wz.heap.size<=g))
 case first=>
  refine wp_region_held_drew (S:=(fun w':World=>Aa [] wz w'/\w'.cell? (A_ w 0)=some (pF v.ga gn v.gc)/\w'.cell? (A_ w 1)=some (pF v.ua un v.uc)/\w'.cell? (A_ w 2)=some (pF v.fa fn v.fc))) bC (by((try dsimp only);(first | exact HS.o _ ((Aa.refl [] wz).drew) | exact HS.o _ (hHeld.1.trans B) | exact HS.o _ (hHeld.1.trans D) | exact HS.o _ (hHeld.1.alloc _)))) (fun hHeld=>?_)
  repeat' (first | exact rZ | refine rX ?_ | ((first | (refine rA 3 (fun K hK=>?_) ?_;go_simp) | (refine rA 6 (fun K hK=>?_) ?_;go_simp;first | (refine(O.o _ hHeld.1).mono ?_;rintro r wb ⟨ua,uc,rfl,ad,Y,D⟩) | (refine(N.o _ hHeld.1).mono ?_;rintro r wi ⟨fa,fc,rfl,ac,U,B⟩)) | (refine rA 9 (fun K hK=>?_) ?_;go_simp;first | (refine(O.o _ hHeld.1).mono ?_;rintro r wb ⟨ua,uc,rfl,ad,Y,D⟩) | (refine(N.o _ hHeld.1).mono ?_;rintro r wi ⟨fa,fc,rfl,ac,U,B⟩)) | (refine rA 12 (fun K hK=>?_) ?_;go_simp));refine rO hK (by((try dsimp only);(first | exact HS.o _ ((Aa.refl [] wz).drew) | exact HS.o _ (hHeld.1.trans B) | exact HS.o _ (hHeld.1.trans D) | exact HS.o _ (hHeld.1.alloc _)))) fun hHeld=>?_;clear hK K) | (refine rQ 0 ?_;refine rQ 1 ?_;refine rQ 2 ?_;refine rQ 4 ?_;refine rQ 5 ?_;refine rQ 7 ?_;refine rQ 8 ?_) | (refine rQ 10 ?_;refine rQ 11 ?_) | (refine rQ 13 ?_) | refine rB [3,6,9,12] ?_ | (refine wpAnyH_done bC ?_ _;(go_wp2_with fail;go_meet;refine⟨_,_,_,_,_,_,rfl,lH (dH ?tb HZ.o ?k ?gb ?ge Y ?ub ?uk U ?fb ?fk ?nu ?ne)⟩;(case tb=>first | rfl | simp);(case k=>first | exact((Aa.refl [] wz).alloc _).drew.trans (D.trans B) | exact((Aa.refl [] wz).drew.trans D).trans (((Aa.refl [] wb).alloc _).trans B) | exact((Aa.refl [] wz).drew.trans (D.trans B)).alloc _);(case gb=>first | exact(Blk.new wz 3 _).drew.keeps (D.trans B) bA | exact(Blk.new wb 3 _).keeps B bA | exact Blk.new wi 3 _);(case ge=>(have:=HZ.o.size;have:=D.size;have:=B.size;simp at *;try omega));(case ub=>(have:=HZ.o.size;have:=D.size;have:=B.size;simp at *;try omega));(case uk=>first | exact B | exact((Aa.refl [] wb).alloc _).trans B | exact B.alloc _);(case fb=>(have:=HZ.o.size;have:=D.size;have:=B.size;simp at *;try omega));(case fk=>first | exact Aa.refl [] _ | exact(Aa.refl [] wi).alloc _);(case nu=>(have:=HZ.o.size;have:=D.size;have:=B.size;simp at *;try omega));(case ne=>(have:=HZ.o.size;have:=D.size;have:=B.size;simp at *;try omega)))))
 case rest=>
  obtain⟨tb,g,ua,uc,fa,fc,rfl,M⟩:=hcut;obtain⟨W2,aj,X,E⟩:=VL wc.drew g gn _ M.o.1.gb.drew (by simp [madeCells]) v.ga v.gc s.gens HG.o (HM.o.g.keeps M.o.1.kw.drew);have E:Aa [g] wc W2:=((Aa.refl [g] wc).drew).trans E;have t0:=M.o.1.blk.drew.ce 0;have b0:=(HS.o wc.drew M.o.2.1.drew).2.1;have hE:aN w gn un fn s.used s.free (s.gens.map (pE .i64)).toArray tb W2 g ua uc fa fc:=by
   have F:=M.o.1;have hne:tb≠g:=fun e=>by
    have h1:=F.blk;have h2:=F.gb;rw [e] at h1;unfold Blk at h1 h2;rw [h1] at h2;injection h2 with h2;injection h2 with _ h2 _
    exact absurd h2 bE
   refine⟨F.blk.keeps E aV,X,Ah F.u E (fun x hx hm=>F.nu x hx bT),Ah F.f E (fun x hx hm=>F.ne x hx bT),F.ge,F.te,F.nu,F.ne,F.kw.own E (fun y hy=>by have:=F.ge;simp only [Ac,Ab,or_false] at hy;omega)⟩
  have t2:=hE.blk.ce 0;have b2:=((E.cell (p:=A_ w 0) (Be _ _ (HS.o wc M.o.2.1).2.1) (by have h1:=M.o.2.2;have h2:=T.o;simp only [Ac,Ab,or_false];omega)).trans (HS.o wc M.o.2.1).2.1);have HE:=lH hE;clear hE X E;go_upto_region 2 with fail
  refine wp_region_held_drew (S:=(fun w':World=>w'.cell? (A_ tb 0)=some (pF (some (A_ g 0)) gn gn)/\w'.cell? (A_ w 0)=some (pF v.ga gn v.gc))) bC (by((try dsimp only);(first | exact⟨t0,b0⟩ | exact⟨t2,b2⟩))) (fun hHeld=>?_);refine rQ 0 ?_;refine rQ 1 ?_;refine rQ 2 ?_;refine rQ 3 ?_;refine rQ 4 ?_;refine rQ 5 ?_;refine rQ 6 ?_;refine rC 7 fun K hK=>?_;go_simp;refine rO hK (by((try dsimp only);(first | exact⟨t0,b0⟩ | exact⟨t2,b2⟩))) fun hHeld=>?_;clear hK K;refine wpAnyH_done bC ?_ _
  (go_wp2;go_ret;exact⟨_,_,_,_,_,_,rfl,HE.o⟩)
theorem Y5:D1 (prog.info? 65) 2=true:=bC
structure jA(w:World)(v:DF)(s:Fz)(gn fn ob tb pb:Nat)(pre:List (Int×Int))(A:World):Prop where
 run:∃u,A.ownsRow (pb+3) 65 2 u pre.length (pre.flatMap Rt)∧Blk A ob 88 #[u]
 pb:Blk A pb 208 #[pG (some ⟨tb,0,none⟩)]
 tab:Kw A tb v s gn gn fn
 kw:Aa [] w A
theorem jA.keeps{w:World}{v:DF}{s:Fz}{gn fn E F pb:Nat}{B:List (Int×Int)}{A G:World}{S:List Nat}(h:jA w v s gn fn E F pb B A)(hk:Aa S A G)(hS:∀y∈S,pb<y/\y<pb+3)(h1:E<pb)(h2:F<pb)(h3:w.heap.size<=pb)(hm:Dy w v s):jA w v s gn fn E F pb B G:=by
 obtain⟨u,J,M⟩:=h.run;have hn:∀y,y<=pb->y∉S:=fun y hy hm=>by have:=hS y hm;omega
 have hkw:=h.kw.own hk bM;exact⟨⟨u,Ah J hk (fun g D hm=>by have:=(J.lt g D).1;have:=hS g hm;omega),M.keeps hk (hn _ bB)⟩,h.pb.keeps hk (hn _ bB),⟨h.tab.blk.keeps hk (hn _ bB),hm.keeps hkw,h.tab.lg,h.tab.lu,h.tab.lf⟩,hkw⟩
theorem U0(v:DF)(s:Fz)(gn un fn:Nat)(hg:s.gens.length=gn)(hu:s.used.length=un)(hf:s.free.length=fn)(w:World)(h:Dy w v s):
  Calls prog 61 #[pH (S_ v gn un fn)] w fun e w'=>∃a c,e = pJ (pF a (Dt s).length c)/\AR Rt 2 w' a c (Dt s)/\Aa [] w w':=by
 refine(callsIn_wide (n:=9)).1 ?_;obtain⟨b,hb⟩:=eX (Dv s);have HB:=lH hb;have HM:=lH h;have HG:=lH hg;have HU:=lH hu;have HF:=lH hf;have HR:=lH (fun W (hkk:Aa [] w W)=>DR v s gn un fn hg hu hf b hb W (h.keeps hkk));have HK0:=lH ((Aa.refl [] w).alloc (.cells (S_ v gn un fn) 26));have an:=lH (Blk.new w 26 (S_ v gn un fn));clear h hg hu hf hb;refine callsIn_of_wp_marks func61 rfl trivial ?_ rfl;simp only [ntmps61,Cz,Av,D4,pL,pM,Bt,Bu,Cd,BD,BH,AL];gi_wp2_with fail;refine⟨trivial,(callsIn_wide.2 (HR.o _ HK0.o)).mono ?_⟩;rintro e w1 ⟨rfl,hk1⟩;have E:=an.o.keeps hk1 bA;have q0:=E.ce 0;have q1:=E.ce 1;have q2:=E.ce 2;have HK1:=lH (HK0.o.trans hk1);clear hk1;cases b with
 | false=>
  have D:Dt s = []:=by unfold Dt;rw [if_neg lT]
  have M:=lH D;clear D E;gi_wp2;refine⟨_,by simp [results,results61,go_sem];rfl,?_⟩;rw [M.o];exact⟨none,0,rfl,AR.none_,HK1.o⟩
 | true=>
  have D:Dt s=usedL 0 s.used s.gens:=by unfold Dt;rw [if_pos HB.o]
  obtain rfl:un=gn:=by
   have:=HB.o;unfold Dv at this;simp only [Af,decide_eq_true_eq] at this;rw [<- HU.o,<- HG.o];omega
  have M:=lH D;have X:un<=1000:=by have:=HM.o.sg;rw [HG.o] at this;exact this
  have af:=lH E;have F:=E.alloc (.cells #[pF none 0 0] 88);have d0:=F.ce 0;have d1:=F.ce 1;have d2:=F.ce 2;clear D E F;gi_wp2_with fail;clear d0 d1 d2 q0 q1 q2;refine⟨trivial,(callsIn_wide.2 (SJ _ _)).mono ?_⟩;rintro e w2 ⟨rfl,Y⟩;gi_wp2_with fail;have hsz:w2.heap.size=w1.heap.size+3:=by rw [<- Y];simp
  have hw1:w.heap.size<w1.heap.size:=by have:=HK1.o.size;have:=Be w1 _ (af.o.cell 0);exact this
  have ah:jA w v s un fn w1 (w1+1) (w1+1+1) [] w2:=by
   have hk2:Aa [] w1 w2:=by rw [<- Y];exact(((Aa.refl [] w1).alloc _).alloc _).alloc _
   refine⟨⟨pF none 0 0,BQ _ _ _ _,?_⟩,?_,⟨?_,HM.o.keeps (HK1.o.trans hk2),HG.o,HU.o,HF.o⟩,HK1.o.trans hk2⟩<;>rw [<- Y]
   ·exact((Blk.new w1 _ _).alloc _).alloc _
   ·exact Ar _ _ _ _ bA
   ·exact(Ar _ _ _ _ bA).alloc _
  have ao:=lH ah;clear ah Y;refine Cc rfl bB (gf:=137) (lb:=#[pG (some (A2 w1 0))]) rfl trivial (enters_of func137 bC rfl) (SK 8 (w1+1+1) (w1+1) v s un fn X) (fun _=>rfl)
   (fun B A=>jA w v s un fn w1 (w1+1) (w1+1+1) B A) (fun _ _=>False)
   (fun B A A' h hk=>h.keeps hk bF bB bB bB HM.o)
   (fun B A A' h hk=>h)
   (fun B A h=>⟨by simpa using h.pb.cell 0,h.tab⟩) ao.o
   (fun x W=>({ tmps:=#[pH (S_ v un un fn),p_ w 0,pF none 0 0,p_ w1 0,.func (.func 100) #[pG (some (A1 w1 0))] #[],p_ W 0,pH (S_ v un un fn),pI true,pI false,pH (S_ v un un fn),pH (S_ v un un fn),p1 w1 0,.func (.func 100) #[pG (some (A1 w1 0))] #[],.func (.func 100) #[pG (some (A1 w1 0))] #[],.func (.func 137) #[] #[pG (some (A2 w1 0))],pH #[pE pK x.1,I_ x.2],UD,UD,UD,UD,UD],defers:=[] },W.alloc (.cells #[pE pK x.1,I_ x.2] 65)))
   (fun x W=>(Aa.refl [] W).alloc _) ?assign ?body ?done ?stop
  case assign=>
   rintro l ⟨x1,x2⟩ W K hK;simp only [RQ];gi_wp2;exact hK
  case body=>
   rintro l B ⟨x1,x2⟩ W W2 hI O ad hk2;dsimp only at hk2 ⊢;have hb:=(Blk.new W 65 #[pE pK x1,I_ x2]).keeps hk2 bI;have N:=(hI.keeps ((Aa.refl [] W).alloc (.cells #[pE pK x1,I_ x2] 65)) bA bB bB bB HM.o).keeps hk2 bF bB bB bB HM.o;obtain⟨u,hrow,J⟩:=N.run;have ay:W.heap.size+1<=W2.heap.size:=by have:=hk2.size;rw [Eo] at this;exact this
   have aj:B.length<=1000:=by
    have h1:=O.length_le;rw [H8 _ _ _ (by rw [HU.o,HG.o])] at h1;have h2:=List.count_le_length (a:=true) (l:=s.used);rw [HU.o] at h2;simp only [Al,Bp] at h1;omega
   obtain⟨g,c,W3,U,T,hk3,ai⟩:=CO (enc:=Rt) prog (t:=88) underlying88 Y5 bE Ru Yn hrow bB (x1,x2) bB 88;have d0:=hb.ce 0;have d1:=hb.ce 1;have q0:=J.ce 0;have hgeS:=AZ hrow;have G:=J.keeps hk3 (fun hm=>by have:=hgeS _ hm;omega);have q3:=G.ce 0;have f3:=G.frozen 0;have aa:=lH (G.set_ 0 (pF (some (A_ g 0)) (B.length+1) c));obtain⟨m,hm⟩:=eX (B.length+1);have HPB:=lH (N.pb.keeps hk3 (fun hm=>by have:=hgeS _ hm;omega));have ab:=N.kw.own hk3 jW;have ap:=lH (N.tab.blk.keeps hk3 (fun hm=>by have:=hgeS _ hm;omega));have HKW:=lH ab;have HROW:=lH T;have HSZ:Hi (W2.heap.size<=W3.heap.size):=lH hk3.size;have am:Hi (∀k∈[w2.heap.size,w2.heap.size+1],W3.heap[k]? = W2.heap[k]?):=lH (fun k hk=>hk3.block k mY (fun hm=>by have:=hgeS k hm;simp only [Ac,Ab,or_false] at hk;omega));have a0:=lH ai;rw [hm] at U aa HROW;simp only [Rt] at U;clear hI O hk2 N hb hrow J aj T hk3 ai hgeS G hm ab;gi_wp2_with (gi_at_builtin;refine EI _ rfl _ _ 88 rfl rfl rfl U ?_);have hk4:Aa [w1.heap.size] W3 (W3.setCell (A_ w1 0) (pF (some (A_ g 0)) m c)):=(Aa.refl _ W3).setCell (p:=A_ w1 0) (.inl bA) _;have ac:=HKW.o.own hk4 bF;refine⟨A8 HSZ.o hk4.size,fun y hy=>(hk4.block y mV iT).trans (am.o y hy),⟨_,?_,aa.o⟩,HPB.o.keeps hk4 bI,⟨ap.o.keeps hk4 bI,HM.o.keeps ac,HG.o,HU.o,HF.o⟩,ac⟩;exact Ah HROW.o hk4 (fun g' aq hm'=>by have:=(HROW.o.lt g' aq).1;simp only [Ac,Ab,or_false] at hm';omega)
  case done=>
   rintro W hI ad hK;obtain⟨u,hrow,J⟩:=hI.run;have q0:=J.ce 0;have HROW:=lH hrow;have HKW:=lH hI.kw;clear hI hrow J;gi_wp2;refine⟨by simp,.inl ⟨_,_,rfl,run_takeDeferred hK,?_⟩⟩;have hk4:=AG (S:=[w2.heap.size]) W (.deferred none) (l:=w2.heap.size) bA;have ae:=Ah HROW.o hk4 (fun g hg hm=>by have:=(HROW.o.lt g hg).1;simp only [Ac,Ab,or_false] at hm;omega);obtain⟨a,c,rfl,ar,_⟩:=AR.of_row Ru ae;refine⟨_,by simp [results,results61,go_sem];rfl,?_⟩;rw [M.o];exact⟨a,c,rfl,ar,HKW.o.own hk4 bF⟩
  case stop=>
   rintro B W O hX ad hK;exact hX.elim
theorem Y4(a b x y:Int)(w:World):(binOp .eql 65 (pH #[pE pK a,I_ x]) (pH #[pE pK b,I_ y])).run prog w = .ok (pI (decide ((a,x)=(b,y)))) w:=by
 have hS:prog.underlying 65=some (.struct (prog.fieldsOf 65)):=bC;have hp:prog.stoodInHeld 65=false:=bC;rw [run_eql_struct,show(10000:Nat)=9999+1 from rfl,run_equalIn_agg w 9999 65 _ _ hS hp];simp only [CK,underlying65];go_simp;by_cases h1:a=b<;>by_cases h2:x=y<;>simp [h1,h2]
theorem L4(v:DF)(s:Fz)(gn un fn:Nat)(hg:s.gens.length=gn)(hu:s.used.length=un)(hf:s.free.length=fn)(x y:Int)(b:Bool)(hb:decide ((x,y)∈Dt s)=b)(w:World)(h:Dy w v s):
  Calls prog 174 #[pH (S_ v gn un fn),pH #[pE pK x,I_ y]] w fun e w'=>e = pJ (pI b)/\Aa [] w w':=by
 have HA:=lH (fun W (hk:Aa [] w W)=>U0 v s gn un fn hg hu hf W (h.keeps hk));have B:(Dt s).length<=1000:=by
  unfold Dt;split
  ·rename_i hs
   have h1:s.used.length=s.gens.length:=by
    unfold Dv at hs;simp only [Af,decide_eq_true_eq] at hs;omega
   rw [H8 _ _ _ h1];have h2:=List.count_le_length (a:=true) (l:=s.used);have:=h.su;omega
  ·simp
 have hgd:prog.eqGuardType prog.depth 65=false:=bC;have HK0:=lH (((Aa.refl [] w).alloc (.cells (S_ v gn un fn) 26)).alloc (.cells #[pE pK x,I_ y] 65));have O:=lH (Ar (w.alloc (.cells (S_ v gn un fn) 26)) 65 #[pE pK x,I_ y] (w+1) bA);obtain⟨L,hL⟩:=eX (Dt s);rw [hL] at hb HA B;have HB:=lH hb;clear h hg hu hf hb hL;go_enter func174,ntmps174;go_wp2_with fail;refine(HA.o _ HK0.o).mono ?_;rintro e w1 ⟨a,c,rfl,N,hk⟩;obtain⟨n,hn⟩:=eX L.length;have HS:=lH N;have HK:=lH (HK0.o.trans hk);have HN:=lH hn;have HB1:=lH (O.o.keeps hk bA);rw [hn] at B ⊢;clear N hk hn;go_wp2_with fail;go_loopw [10] (fun i wr=>∃k:Nat,i = I_ k/\k<=n/\Hi ((x,y)∉L.take k)/\Hi (Aa [] w1 wr)) (fun i _=>n - (intOf i).toNat)
 case atStart=>exact⟨0,rfl,Ba _,lH bA,lH (Aa.refl [] w1)⟩
 case round=>
  obtain⟨k,rfl,hk,HP,D⟩:=hrel;by_cases hlt:k<n
  ·obtain⟨g,off,⟨G,J⟩,rfl,hg,hx,hat⟩:=HS.o.at_k (k:=k) bO
   have X:=hat 0 (I_ G) rfl;have Y:=hat 1 (I_ J) rfl;rw [AT] at X;rw [<- D.o.cell (p:=A_ g (off+k*2)) hg bA] at X;rw [<- D.o.cell (p:=A_ g (off+k*2+1)) hg bA] at Y;have i1:(0:Int)<=(k:Int):=bB;have i2:(k:Int)<(n:Int):=bB;have hb2:=(HB1.o.keeps D.o bA).alloc (.cells #[pE pK G,I_ J] 65);have d0:=hb2.ce 0;have d1:=hb2.ce 1;have F:=Blk.new wr 65 #[pE pK G,I_ J];have e0:=F.ce 0;have e1:=F.ce 1;have M:=fun W=>Y4 G x J y W;have U:=lH hx;have HK2:=lH (D.o.alloc (.cells #[pE pK G,I_ J] 65));clear hat hg hx hb2 F;by_cases he:(G,J)=(x,y)
   ·have E:b=true:=by rw [<- HB.o,<- he];exact decide_eq_true (CD U.o)
    subst E;simp only [decide_eq_true he] at M;clear he;go_wp2;go_ret;exact⟨rfl,HK.o.trans HK2.o⟩
   ·simp only [decide_eq_false he] at M
    have T:Hi ((x,y)∉L.take (k+1)):=lH (by rw [A0 U.o,AQ,Ag];exact fun h=>h.elim HP.o (fun e=>he e.symm));clear he;go_wp2;go_roundw;case rel=>exact⟨k+1,by go_num,by omega,T,HK2⟩
    case measure=>simp [intOf];omega
  ·obtain rfl:k=n:=bB;have E:b=false:=by
    rw [<- HB.o];have:=HP.o;rw [Ak bL] at this;exact decide_eq_false this
   subst E;go_wp2;go_ret;exact⟨rfl,HK.o.trans D.o⟩
theorem KD(B F:ByteArray)(D G:Int)(E J:ByteArray)(w:World):(Op.equalIn 10000 97 (pH #[Dz B,I_ D,Dz E]) (pH #[Dz F,I_ G,Dz J])).run prog w = .ok (decide ((⟨B,D,E⟩:IA)=⟨F,G,J⟩)) w:=by
 have M:prog.underlying 97=some (.struct (prog.fieldsOf 97)):=bC;have N:prog.stoodInHeld 97=false:=bC;rw [show(10000:Nat)=9999+1 from rfl,run_equalIn_agg w 9999 97 _ _ M N];simp only [CK,underlying97];go_simp;by_cases h:B=F;rotate_left
 ·have h2:=GR h
  simp [h,h2]
 subst h;by_cases h:D=G;rotate_left
 ·simp [h]
 subst h;by_cases h:E=J;rotate_left
 ·have h2:=GR h
  simp [h,h2]
 subst h;simp
theorem aM(n:Int)(w:World):Calls prog 80 #[pE pK n] w fun e w'=>∃x,e = pJ (.tuple #[x,I_ (IU n).2])/\Di w w' (IU n).1 x/\Aa [] w w':=by
 by_cases h1:n<1\/64<n
 ·have hs:IU n=(Ez,2):=by unfold IU;rw [if_pos h1]
  rw [hs];have h0:Calls prog 80 #[pE pK n] w fun e w'=>e = pJ (.tuple #[.agg IY.k,I_ 2])/\Aa [] w w':=by
   clear hs;have hB:=lH (Blk.new w 26 IY.k);by_cases h2:n<1
   ·clear h1
    go_enter func80,ntmps80;go_wp2;exact bodyPost_ret (v:=.tuple #[.agg IY.k,I_ 2]) (by simp [results,results80,go_sem]) rfl ⟨rfl,(Aa.refl [] w).alloc _⟩
   ·have h3:64<n:=bB;have ba:1<=n:=bB;clear h1 h2;go_enter func80,ntmps80;go_wp2;exact bodyPost_ret (v:=.tuple #[.agg IY.k,I_ 2]) (by simp [results,results80,go_sem]) rfl ⟨rfl,(Aa.refl [] w).alloc _⟩
  refine h0.mono ?_;rintro e w' ⟨rfl,hk⟩;exact⟨_,rfl,Di.zero _ _,hk⟩
 ·obtain⟨m,rfl⟩:∃m:Nat,n=m:=⟨n.toNat,by omega⟩
  have i1:(1:Int)<=(m:Int):=bB;have i2:(m:Int)<=64:=bB;have hs:IU (m:Int)=(⟨D6 m 0,D6 m false,(AC m).map fun i:Nat=>(m:Int) - 1 - (i:Int)⟩,0):=by unfold IU;rw [if_neg h1];simp
  rw [hs];clear h1 hs;have bb:=fun W=>LH (t:=23) (e:=3) (z:=I_ 0) underlying23 bC m bB W;have a6:=fun W=>LH (t:=24) (e:=4) (z:=pI false) underlying24 bC m bB W;go_enter func80,ntmps80;go_wp2;obtain⟨wz,hwz⟩:=eX (w.alloc (.cells IY.k 26));have HZ:Hi (Aa [] w wz):=lH jV;have HB:Hi (Blk wz w 26 IY.k):=lH nN;have HSZ:Hi (wz.heap.size=w.heap.size+1):=lH gA;simp only [hwz];clear hwz;go_cut [4] (fun x wc=>∃B g1 G,x = p_ B 0/\Hi (Blk wc B 26 #[pF (some (A_ g1 0)) m m,pF (some (A_ G 0)) m m,pF none 0 0])/\Hi (Blk wc g1 3 (madeCells #[pE pK 0] m))/\Hi (Blk wc G 4 (madeCells #[pI false] m))/\Hi (Aa [] wz wc)/\Hi (wz.heap.size<=B/\wz.heap.size<=g1/\wz.heap.size<=G))
  case first=>
   refine wp_region_held_drew (S:=(fun _:World=>True)) bC trivial (fun hHeld=>?_)
   repeat' (first | exact rZ | refine rX ?_ | ((first | (refine rA 1 (fun K hK=>?_) ?_;go_simp) | (refine rA 3 (fun K hK=>?_) ?_;go_simp) | (refine rA 5 (fun K hK=>?_) ?_;go_simp) | (refine rA 6 (fun K hK=>?_) ?_;go_simp));refine rO hK trivial fun hHeld=>?_;clear hK K) | (refine rQ 0 ?_;refine rQ 2 ?_) | (refine rQ 4 ?_) | refine rB [1,3,5,6] ?_ | (refine wpAnyH_done bC ?_ _;(go_wp2_with fail;go_meet;exact⟨_,_,_,rfl,lH mQ,lH mQ,lH mQ,lH (by(repeat(first | exact Aa.refl _ _ | refine Aa.drew ?_ | refine Aa.alloc ?_ _ | refine Aa.setCell ?_ (.inr bA) _))),lH (by simp<;>omega)⟩)))
  case rest=>
   obtain⟨B,g1,G,rfl,HBB,ag,ah,av,ar⟩:=hcut;obtain⟨L,hL⟩:∃L:Nat->List Int,L=fun k=>(AC k).map fun i:Nat=>(m:Int) - 1 - (i:Int):=⟨_,rfl⟩;have aj:∀k,(L k).length=k:=fun k=>by rw [hL];simp
   have al:∀k,L (k+1)=L k++[(m:Int) - 1 - (k:Int)]:=fun k=>by rw [hL];simp [B3]
   have a4:Hi (∃u,Blk wc B 26 #[pF (some (A_ g1 0)) m m,pF (some (A_ G 0)) m m,u]/\wc.ownsRow wc 3 1 u 0 ((L 0).flatMap Fb)):=lH ⟨_,HBB.o,by rw [hL];simpa using BQ _ _ _ _⟩;have ad:=lH aj;have aw:=lH al;have HLE:=lH hL;clear hL aj al;have aq:Hi (B<wc.heap.size):=lH HBB.o.lt;go_wp2_with fail;go_loopw [19] (fun i wr=>∃k:Nat,i = I_ k/\k<=m/\Hi (∃u,Blk wr B 26 #[pF (some (A_ g1 0)) m m,pF (some (A_ G 0)) m m,u]/\wr.ownsRow wc 3 1 u k ((L k).flatMap Fb))/\Hi (Aa [B] wc wr)) (fun i _=>m - (intOf i).toNat)
   case atStart=>exact⟨0,rfl,Ba _,a4,lH (Aa.refl _ _)⟩
   case round=>
    obtain⟨k,rfl,hk,HR,HK⟩:=hrel;by_cases hlt:k<m
    ·obtain⟨u,hb,hrow⟩:=HR.o
     obtain⟨U,hys⟩:=eX (L k);have E:U.length=k:=by rw [<- hys];exact ad.o k
     rw [hys] at hrow;have hsn:L (k+1)=U++[(m:Int) - 1 - (k:Int)]:=by rw [aw.o,hys]
     have O:wr.ownsRow wc 3 1 u U.length (U.flatMap Fb):=by rw [E];exact hrow
     obtain⟨g,c,W3,T,D,hk3,Y⟩:=CO (enc:=Fb) prog (t:=23) underlying23 Nj bE Eu KH O HK.o.size ((m:Int) - 1 - (k:Int)) bB 23;have hgeS:=AZ hrow;have a3:=aq.o;have X:=hb.keeps hk3 (fun hm=>by have:=hgeS _ hm;omega);have q2:=hb.ce 2;have t2:=X.ce 2;have f2:=X.frozen 2;have HB4:=lH (X.set_ 2 (pF (some (A_ g 0)) (k+1) c));rw [<- hsn,ad.o (k+1),E] at D;have HROW:=lH (Ah D (Ae W3 B 2 (pF (some (A_ g 0)) (k+1) c)) (fun y hy hm=>by have:=(D.lt y hy).1;simp only [Ac,Ab,or_false] at hm;omega));have HK4:Hi (Aa [B] wc (W3.setCell (A_ B 2) (pF (some (A_ g 0)) (k+1) c))):=lH ((HK.o.trans' hk3 (fun y hy=>.inr (hgeS y hy))).trans (Ae W3 B 2 _));have hw1:IntKind.i64.wrap ((m:Int) - 1)=(m:Int) - 1:=IntWalk.i64_in _ bB;have bd:IntKind.i64.wrap ((m:Int) - 1 - (k:Int))=(m:Int) - 1 - (k:Int):=IntWalk.i64_in _ bB;have i3:(k:Int)<(m:Int):=bB;rw [E] at T;simp only [Fb] at T;clear hb hrow hys E hsn O D hk3 Y hgeS a3 X;go_wp2_with (at_builtin;refine Au _ rfl _ _ 23 rfl rfl rfl T ?_);go_roundw;case rel=>exact⟨k+1,by go_num,by omega,lH ⟨_,HB4.o,HROW.o⟩,HK4⟩
     case measure=>simp [intOf];omega
    ·obtain rfl:k=m:=bB;obtain⟨u,hb,hrow⟩:=HR.o;have ak:=HLE.o;obtain⟨U,hys⟩:=eX (L k);have E:U.length=k:=by rw [<- hys];exact ad.o k
     rw [hys] at hrow;obtain⟨a,c,rfl,hs,Y⟩:=AR.of_row Eu (show wr.ownsRow wc 3 1 u U.length (U.flatMap Fb) by rw [E];exact hrow);have hz:=ar.o;have hsz:=HSZ.o;have N:=av.o;have ab:g1≠B:=ag.o.ne_ HBB.o bE;have ac:G≠B:=ah.o.ne_ HBB.o bE;have F:=(HB.o.keeps N bA).keeps HK.o bI;have J:=F.put3 (pF (some (A_ g1 0)) k k) (pF (some (A_ G 0)) k k) (pF a k c);have M:=G5 wr w (pF (some (A_ g1 0)) k k) (pF (some (A_ G 0)) k k) (pF a k c);have e1:madeCells #[pE .i64 0] k=((D6 k (0:Int)).map (pE .i64)).toArray:=by rw [<- Array.toList_inj,toList_madeCells_one];simp
     have e2:madeCells #[pI false] k=((D6 k false).map pI).toArray:=by rw [<- Array.toList_inj,toList_madeCells_one];simp
     have ae:=ag.o.keeps HK.o (by simp only [Ac,Ab,or_false];exact ab);have af:=ah.o.keeps HK.o (by simp only [Ac,Ab,or_false];exact ac);rw [e1] at ae;rw [e2] at af;have aa:∀y,wz.heap.size<=y->y∉[w.heap.size]:=fun y hy hm=>by simp only [Ac,Ab,or_false] at hm;omega
     have hM:Dy wr ⟨some (A_ g1 0),k,some (A_ G 0),k,a,c⟩ ⟨D6 k 0,D6 k false,U⟩:=⟨AR.of_blk (fun _=>rfl) bA ae,AR.of_blk (fun _=>rfl) bA af,hs,by simp;omega,by simp;omega,by dsimp only;omega⟩;have am:Dy ((((wr.setCell (A_ w 0) (pF (some (A_ g1 0)) k k)).setCell (A_ w 1) (pF (some (A_ G 0)) k k)).setCell (A_ w 2) (pF a k c))) ⟨some (A_ g1 0),k,some (A_ G 0),k,a,c⟩ ⟨D6 k 0,D6 k false,U⟩:=
      { hM with g:=hM.g.keepsS M (fun g off e=>by injection e with e;injection e with e _ _;subst e;exact aa _ hz.2.1),u:=hM.u.keepsS M (fun g off e=>by injection e with e;injection e with e _ _;subst e;exact aa _ hz.2.2),f:=hM.f.keepsS M (fun g off e=>aa _ (by have:=(hrow.lt g (by rw [show a=_ from e];rfl)).1;have:=N.size;omega)) }
     have ai:Aa [] w (((wr.setCell (A_ w 0) (pF (some (A_ g1 0)) k k)).setCell (A_ w 1) (pF (some (A_ G 0)) k k)).setCell (A_ w 2) (pF a k c)):=
      ((HZ.o.trans N).own HK.o bF).own M bF
     have q0:=hb.ce 0;have q1:=hb.ce 1;have q2:=hb.ce 2;have r0:=J.ce 0;have r1:=J.ce 1;have r2:=J.ce 2;have c0:=F.ce 0;have c1:=F.ce 1;have c2:=F.ce 2;have f0:=F.frozen 0;have f1:=F.frozen 1;have f2:=F.frozen 2;rw [E] at q2;have ay:=lH r0;have az:=lH r1;have a0:=lH r2;have ax:=lH am;have HKF:=lH ai;have a1:Hi (U=(AC k).map fun i:Nat=>(k:Int) - 1 - (i:Int)):=lH (by rw [<- hys,ak]);have HYL:=lH E;have au:Hi (Ja w ⟨some (A_ g1 0),k,some (A_ G 0),k,a,c⟩):=lH ⟨fun g o e=>by injection e with e;injection e with e _ _;subst e;omega,fun g o e=>by injection e with e;injection e with e _ _;subst e;omega,fun g o e=>by have:=Y g o e;have:=N.size;omega⟩;clear hb hrow hys E hs Y hz hsz N ab ac F J M e1 e2 ae af aa hM am ai r0 r1 r2 ak;go_wp2_with fail;refine bodyPost_ret (v:=.tuple #[pH #[pF (some (A_ g1 0)) k k,pF (some (A_ G 0)) k k,pF a k c],I_ 0]) (by have r0:=ay.o;have r1:=az.o;have r2:=a0.o;simp [results,results80,go_sem,r0,r1,r2]) rfl ⟨_,rfl,⟨⟨some (A_ g1 0),k,some (A_ G 0),k,a,c⟩,k,k,k,rfl,by simp,by simp,by simp,?_⟩,HKF.o⟩;rw [<- a1.o];exact⟨ax.o,au.o⟩
end
end Go.Proofs.YtncebikgoleolaaGreatDoor
