/- Steps. -/
import Derived.Test.YtjieiikpolahfaaGreatDoorMaa
import Derived.Test.YtjieiikpolahfaaGreatDoorMac
import Derived.RangeFuncNested
import Derived.RangeFuncBound
import Derived.Shelf.RegionOpen
import Derived.LoopNIn
import Derived.Laws.EntriesVeiled
import Derived.Deep.RegionHeld3
import Derived.Deep.DrawnRows
import Derived.Deep.AppendLies
import Derived.Deep.Fields
import Derived.Deep.RegionLaw
import Derived.Sort.LoopGhostIn
import Derived.Deep.WholeRow
import Derived.Deep.AppendSrc
import Derived.Deep.DeepCutAuto
set_option maxRecDepth 100000
set_option maxHeartbeats 8000000
set_option linter.all false
namespace Go.Proofs.YtjieiikpolahfaaGreatDoor
open Tryz
open _root_.Go renaming undef→UD
open _root_.And renaming intro→Bl
open _root_.Array renaming getElem?_eq_some_iff→Ai,getElem?_setIfInBounds→Bj,getElem?_toList→qD,length_toList→BX,replicate_succ→Bt,replicate_zero→Bu
open _root_.Bool renaming and_assoc→EJ,and_eq_true→Af,eq_iff_iff→DI,false_and→Ep,true_and→DJ
open Builtin renaming append_→BI,zeroCells→AN
open Ending renaming returned→pJ
open Exit renaming noGoto_normal→AY
open Fence renaming wide→Bx
open Instr renaming findNow→B0,lookup→Ed,slice→AV
open IntKind renaming i64→pK
open Lib renaming run_eql_slice_nil→AK
open _root_.List renaming all_eq_true→Bm,append_assoc→CC,append_toArray→BD,cons_append→AL,eq_nil_of_length_eq_zero→Ds,filter_append→E5,flatMap_append→BY,getElem?_append_right→Ee,getElem?_cons_succ→Ao,getElem?_cons_zero→Aj,getElem?_eq_getElem→Aq,getElem?_eq_some_iff→Ad,getElem?_take→Dh,getElem?_toArray→An,getElem_mem→pS,length_append→Al,length_cons→Av,length_drop→B1,length_map→Bd,length_nil→D4,length_singleton→Bp,length_take→Ax,length_zipIdx→pZ,map_append→pO,map_cons→CR,mem_append→AQ,mem_cons_of_mem→Ca,mem_cons→Ac,mem_flatMap→E6,mem_map→BO,mem_of_getElem?→CD,mem_singleton→Ag,nil_append→BH,not_mem_nil→Ab,push_toArray→Cd,setIfInBounds_toArray→Ap,set_cons_succ→AB,set_cons_zero→AA,size_toArray→Cz,take_append_drop→Dn,take_of_length_le→Ak,take_succ_eq_append_getElem→BJ
open _root_.Nat renaming add_assoc→EA,add_zero→AT,le_refl→Aw,le_trans→A8,lt_of_lt_of_le→BS,lt_or_ge→pP,min_eq_left→DE,reduceAdd→pL,reduceSub→pM,zero_add→AW,zero_le→Ba
open Oper renaming semAt_some→pN
open _root_.Option renaming isSome_iff_exists→C6
open Result renaming andThen→Bg
open _root_.UInt8 renaming toNat_inj→DX
open Value renaming agg→pH,bool→pI,int→pE,ownBlock→EZ,pointer→pG,slice→pF,string→Dz
open World renaming alloc_heap_new→pV,block_lt_of_cell?→Be,cell?_alloc_lt→Cs,cell?_of_block→BL,ownsRow_nil→BQ,putObj_heap_other→AM,putObj_heap_same→pU,size_alloc→Eo
section
open Go.RowKit Go.Shelf
theorem BW{n:Nat}{P:Program}{Q:Exit->Act->World->Prop}{a:Act}{w:World}{c:Code}(h:c.wpIn Bx n P (Exit.noGoto Q) a w):(Code.scope c).wpIn Bx n P Q a w:=
 wpIn_wide.2 (wp_scope_straight (wpIn_wide.1 h))
theorem Dq{P:Program}{F:Fence}{n l:Nat}{args:Array Value}{W:World}{G H:World->Prop}(h:YieldAt F n P l args W fun e W'=>(e = pJ (pI true)/\G W')\/(e = pJ (pI false)/\H W')):
  YieldAt F n P l args W fun e W'=>∃g:Bool,e = pJ (pI g)/\Hi (g=true->G W')/\Hi (g=false->H W'):=by
 obtain⟨fn,tmps,assign,body,hy,hR⟩:=h;refine⟨fn,tmps,assign,body,hy,hR.mono ?_⟩;rintro e W' (⟨rfl,h⟩ | ⟨rfl,h⟩)
 ·exact⟨true,rfl,(fun _=>h:true=true->G W'),(fun h=>(by cases h):true=false->H W')⟩
 ·exact⟨false,rfl,(fun h=>(by cases h):false=true->G W'),(fun _=>h:false=false->H W')⟩
def CA(B:Nat)(W W':World):Prop:=W.heap.size<=W'.heap.size/\∀k,B<=k->k<W.heap.size->W'.heap[k]? = W.heap[k]?
theorem CA.refl(B:Nat)(W:World):CA B W W:=⟨Aw _,fun _ _ _=>rfl⟩
theorem CA.trans{B:Nat}{X Y Z:World}(h:CA B X Y)(k:CA B Y Z):CA B X Z:=
 ⟨A8 h.1 k.1,fun i hi hl=>(k.2 i hi (BS hl h.1)).trans (h.2 i hi hl)⟩
theorem CA.mono{B C:Nat}{X Y:World}(h:CA B X Y)(hc:B<=C):CA C X Y:=⟨h.1,fun i hi hl=>h.2 i (A8 hc hi) hl⟩
theorem CA.putObj{B l:Nat}(hl:l<B)(W:World)(o:Obj):CA B W (W.putObj l o):=⟨by simp,fun k hk _=>AM bB⟩
theorem CA.setCell{B:Nat}{p:Addr}(hp:p.block<B)(W:World)(v:Value):CA B W (W.setCell p v):=⟨by simp [World.setCell],fun k hk _=>Below.heap_setCell W p v k bB⟩
def eY{β:Type}(B:Nat)(J:β->World->Prop):Prop:=∀s A A',J s A->Below B A A'->J s A'
theorem eY.put{β:Type}{B:Nat}{J:β->World->Prop}(h:eY B J){s:β}{W:World}{l:Nat}(o':Obj)(hs:J s W)(hB:B<=l)(hl:l<W.heap.size):J s (W.putObj l o'):=
 h s W _ hs ((Below.refl B W).grown (grownBy_putObj' W l o') bB (fun k e=>by cases e;omega))
def ZA{α:Type}(B:Nat)(I Ix:List α->World->Prop)(xs:List α)(W:World):Exit->Act->World->Prop
 | .normal,_,W'=>CA B W W'/\I xs W'
 | .ret,_,W'=>CA B W W'/\Ix xs W'
 | _,_,_=>False
variable {F:Fence} {n:Nat} {P:Program}
theorem EI{F:Fence}{B:Nat}{P:Program}(w:World){ops:Array Oper}{rest:List Oper}{o:Oper}{a:Act}{Q:Exit->Act->World->Prop}(hgd:o.guard=none)(s x:Operand)(t:TypeId)
 (ho:o.op = .call { callee:=.builtin .append,args:=#[s,x],argTypes:=#[t,t] }){v u v':Value}{w':World}(hs:a.eval s=v)(hx:a.eval x=u)
 (hr:(BI #[t,t] o.type #[v,u]).run P w = .ok v' w')(h:wpListIn F B P ops Q rest (a.put o.dst v') w'):wpListIn F B P ops Q (o::rest) a w:=by
 refine wpListIn_plain hgd fun K hK=>?_;unfold Oper.wpIn;refine⟨by simp [Oper.about,ho,resolve,Target.leads,Sem.run_pure],?_⟩;rw [Oper.semAt_plain F _ _ lN];simp [execOp,ho,resolve,invoke,builtin,hs,hx,hr,Bg];exact hK _ _ h
theorem CA.alloc{B:Nat}{X Y:World}(h:CA B X Y)(o:Obj):CA B X (Y.alloc o):=
 ⟨A8 h.1 bA,fun k hk hl=>(Below.heap_alloc Y o k (BS hl h.1)).trans (h.2 k hk hl)⟩
theorem CA.of_keeps{S:List Nat}{B:Nat}{X Y:World}(h:Aa S X Y)(hS:∀k∈S,k<B):CA B X Y:=
 ⟨h.size,fun k hk hl=>h.block k hl (fun hm=>by have:=hS k hm;omega)⟩
def fP{α:Type}(F:Fence)(n:Nat)(P:Program)(g:Nat)(lb:Array Value)(encs:α->Array Value)(ys:List α)(V:World->Prop)(w0:World):Prop:=
 ∀(l:Nat) (J Jx:List α->World->Prop) (W:World),Below w0.heap.size w0 W->eY W.heap.size J->eY W.heap.size Jx->(∀s A,J s A->V A)->
  (∀pre x W1,J pre W1->pre++[x] <+: ys->YieldAt F (n - 1) P l (encs x) W1 fun e W'=>
   (e = pJ (pI true)/\J (pre++[x]) W'/\CA W.heap.size W1 W')\/(e = pJ (pI false)/\Jx (pre++[x]) W'))->
  J [] W->
  CallsIn F n P g (#[.func (.yield l) #[] #[]]++lb) W fun e W'=>(∃v,e = pJ v)/\(J ys W'\/(∃pre,pre <+: ys/\Jx pre W'))
variable {F:Fence} {n:Nat} {P:Program}
theorem Fn{α:Type}{g:Operand}{ps:Array Tmp}{assign body:Code}{Q:Exit->Act->World->Prop}{a:Act}{w:World}
 (a4:F.round=none)(h1:1<=n){gf:Nat}{lb:Array Value}(hg:a.eval g = .func (.func gf) #[] lb)(ao:F.fn gf)(eg:∀args w,(callFunc gf args).run P w = .ok (.enter gf args) w)
 {E:α->Array Value}{ys:List α}{V:World->Prop}{w0:World}(ak:fP F (n - 1) P gf lb E ys V w0)(hb0:Below w0 w0 w)(a1:∀x,(E x).size=ps.size)
 (I Ix:List α->World->Prop)(hI:eY w I)(X:eY w Ix)(ap:∀s A,I s A->V A)(h0:I [] w)(a₁:α->Nat->Act)(G:α->Obj)
 (M:∀(l:Nat) (x:α) (W:World) (K:Act->World->Prop),K (a₁ x W) (W.alloc (G x))->
   assign.wpIn (F.inRound l) (n - 1 - 1) P (Exit.then K (fun _ _ _=>False)) { tmps:=(ps.zip (E x)).foldl (fun t (p,v)=>t.setIfInBounds p v) a.tmps,defers:=[] } W)
 (Y:∀(l:Nat) (pre:List α) (x:α) (b:Nat) (W:World),I pre W->pre++[x] <+: ys->w.heap.size<=b->W.heap[b]? = some (G x)->body.wpIn (F.inRound l) (n - 1 - 1) P (ZA w I Ix (pre++[x]) W) (a₁ x b) W)
 (ab:∀(D:Nat) (W:World),w.heap.size<=D->I ys W->W.heap[D]? = some (.deferred (some []))->Q .normal { a with defers:={ target:=.collected D,args:=#[] } :: a.defers } W)
 (ae:∀(D:Nat) (pre:List α) (W:World),w.heap.size<=D->pre <+: ys->Ix pre W->W.heap[D]? = some (.deferred (some []))->Code.ret.wpIn F n P Q { a with defers:={ target:=.collected D,args:=#[] } :: a.defers } W):
  (Code.rangeFunc g ps assign body).wpIn F n P Q a w:=by
 refine wpIn_rangeFunc fun fn ax=>?_;rw [a4]
 let D:=w.heap.size
 let l:=w.heap.size+1
 let rec_:LoopState->Option Code->Loop:=fun st pe=>{ state:=st,pending:=pe,fn,tmps:=a.tmps,params:=ps,assign,body,defers:=D }
 let W1:=(w.alloc (.deferred (some []))).alloc (.loop (rec_ .ready none))
 have hs1:W1.heap.size=w.heap.size+2:=by simp [W1]
 have hL:W1.heap[l]? = some (.loop (rec_ .ready none)):=by
  have:=pV (w.alloc (.deferred (some []))) (.loop (rec_ .ready none))
  rwa [Eo] at this
 have hD:W1.heap[D]? = some (.deferred (some [])):=(Below.heap_alloc _ _ _ (by simp [D])).trans (pV w _);have hb1:Below w w W1:=((Below.refl _ w).alloc (Aw _) _).alloc bA _;refine⟨l,[{ target:=.collected D,args:=#[] }],W1,{ target:=.fn (.func gf) lb,args:=#[.func (.yield l) #[] #[]] },W1,gf,#[.func (.yield l) #[] #[]]++lb,W1,run_enterLoop_outer _ _ _ _ _,?_,?_,?_,fun _=>h1,?_⟩
 ·simp only [resolve,hg];simp [go_sem]
 ·intro f' ag;simp [Target.leads] at ag;subst ag;exact ao
 ·simp [invoke,go_sem,eg]
 have ad:w.heap.size<=W1.heap.size:=bB;refine(ak l
  (fun pre W=>I pre W/\W1.heap.size<=W.heap.size/\W.heap[l]? = some (.loop (rec_ .ready none))/\W.heap[D]? = some (.deferred (some [])))
  (fun pre W=>Ix pre W/\W1.heap.size<=W.heap.size/\W.heap[l]? = some (.loop (rec_ .done (some .ret)))/\W.heap[D]? = some (.deferred (some [])))
  W1 (hb0.trans (hb1.mono hb0.size))
  (fun s A A' hs T=>⟨hI s A A' hs.1 (T.mono ad),A8 hs.2.1 T.size,(T.block l bB).trans hs.2.2.1,(T.block D bB).trans hs.2.2.2⟩)
  (fun s A A' hs T=>⟨X s A A' hs.1 (T.mono ad),A8 hs.2.1 T.size,(T.block l bB).trans hs.2.2.1,(T.block D bB).trans hs.2.2.2⟩)
  (fun s A hs=>ap s A hs.1)
  ?_ ⟨hI _ _ _ h0 hb1,Aw _,hL,hD⟩).mono ?_
 ·rintro pre x W ⟨hi,hsz,hl,hd⟩ aj
  have hlt:l<W.heap.size:=bB;have ai:(W.alloc (G x)).heap[l]? = some (.loop (rec_ .ready none)):=(Below.heap_alloc _ _ _ hlt).trans hl;have av:(W.alloc (G x)).heap[D]? = some (.deferred (some [])):=(Below.heap_alloc _ _ _ bB).trans hd;have U:l<(W.alloc (G x)).heap.size:=(Ai.1 ai).1;refine⟨fn,_,assign,body,run_yield (P:=P) (args:=E x) hl (a1 x),roundIn_of_wpIn ax (M _ x W _ ⟨_,run_beginRound ai rfl,?_⟩)⟩;have az:((W.alloc (G x)).putObj l (.loop { rec_ .ready none with state:=.busy })).heap[l]? = some (.loop { rec_ .ready none with state:=.busy }):=pU U;have ar:((W.alloc (G x)).putObj l (.loop { rec_ .ready none with state:=.busy })).heap[D]? = some (.deferred (some [])):=(AM bB).trans av;have hb2:((W.alloc (G x)).putObj l (.loop { rec_ .ready none with state:=.busy })).heap[W.heap.size]? = some (G x):=(AM bB).trans (pV W (G x));have aw:CA W1 W ((W.alloc (G x)).putObj l (.loop { rec_ .ready none with state:=.busy })):=((CA.refl _ W).alloc _).trans (CA.putObj bB _ _);have ay:I pre (W.alloc (G x)):=hI _ _ _ hi ((Below.refl _ W).alloc bB _);have a6:(W.alloc (G x)).heap.size=W.heap.size+1:=bA;refine wpIn_mono (Y _ pre x _ _ (hI.put _ ay bB U) aj bB hb2) ?_;rintro e a3 O hp;have J:∀(B:Option Code),CA w ((W.alloc (G x)).putObj l (.loop { rec_ .ready none with state:=.busy })) O->
    (Instr.endRound l B).run P O = .ok (pI B.isNone) (O.putObj l (.loop (rec_ (if B.isNone then .ready else .done) B)))/\l<O.heap.size/\W1.heap.size<=O.heap.size/\
    (O.putObj l (.loop (rec_ (if B.isNone then .ready else .done) B))).heap[l]? = some (.loop (rec_ (if B.isNone then .ready else .done) B))/\
    (O.putObj l (.loop (rec_ (if B.isNone then .ready else .done) B))).heap[D]? = some (.deferred (some []))/\
    CA W1 W (O.putObj l (.loop (rec_ (if B.isNone then .ready else .done) B))):=fun B hk=>by
   have hk1:=hk.1;rw [World.putObj_size,a6] at hk1;have a0:O.heap[l]? = some (.loop { rec_ .ready none with state:=.busy }):=(hk.2 l bB (by rw [World.putObj_size];omega)).trans az;have au:O.heap[D]? = some (.deferred (some [])):=(hk.2 D bB (by rw [World.putObj_size];omega)).trans ar;exact⟨run_endRound (P:=P) B a0,by omega,by omega,pU bB,(AM bB).trans au,(aw.trans (hk.mono ad)).trans (CA.putObj bB _ _)⟩
  cases e with
  | normal=>
   obtain⟨hr,N,a5,ac,aa,ah⟩:=J none hp.1;exact⟨_,_,hr,.inl ⟨rfl,⟨hI.put _ hp.2 bB N,by simp;omega,ac,aa⟩,ah⟩⟩
  | ret=>
   obtain⟨hr,N,a5,ac,aa,ah⟩:=J (some .ret) hp.1;exact⟨_,_,hr,.inr ⟨rfl,X.put _ hp.2 bB N,by simp;omega,ac,aa⟩⟩
  | exit id=>exact hp.elim
  | goto t=>exact hp.elim
  | panic ch=>exact hp.elim
  | outgrown=>exact hp.elim
 ·rintro e W2 ⟨⟨v,rfl⟩,(⟨hi,hsz,hl,hd⟩ | ⟨pre,aq,hi,hsz,hl,hd⟩)⟩
  ·exact⟨none,_,run_endLoop (P:=P) hl (by simp [rec_]),ab D _ (Aw _) (hI.put _ hi bB bB) ((AM bB).trans hd)⟩
  ·exact⟨some .ret,_,run_endLoop (P:=P) hl (by simp [rec_]),ae D pre _ (Aw _) aq (X.put _ hi bB bB) ((AM bB).trans hd)⟩
end
section
open Go.RowKit Go.Shelf
attribute [local go_sem ↓] wp_at_zero wp_at_succ
theorem Th(b:UInt8)(h:128<=b.toNat):GM b=false:=by
 unfold GM;simp;omega
theorem Ue(s:ByteArray)(k:Nat)(h:k<s.size):(s.data.toList.take (k+1)).all GM=((s.data.toList.take k).all GM&&GM (s[k]'h)):=by
 rw [BJ bK,List.all_append];simp;rfl
theorem Pw(s:ByteArray)(k:Nat)(h:k<s.size)(hb:GM (s[k]'h)=false):Hc s=false:=by
 unfold Hc;apply Bool.eq_false_iff.2;intro B;rw [Bm] at B;have:=B (s[k]'h) (by
  have:s.data.toList[k]' bK∈s.data.toList:=pS _;exact this)
 rw [hb] at this;cases this
theorem Ff(w:World)(s:ByteArray)(k:Nat):Aa [] w (w.iter s k):=(Aa.refl [] w).alloc _
theorem Jl(s:ByteArray)(b:Bool)(hb:Hc s=b)(w:World):Calls prog 91 #[Dz s] w fun r w'=>r = pJ (pI b)/\Aa [] w w':=by
 have HB:=lH hb;clear hb;go_enter func91,ntmps91;go_wp2;go_loopw [4] (fun _ w'=>∃k:Nat,k<=s.size/\w'=w.iter s k/\Hi ((s.data.toList.take k).all GM=true)) (fun _ w'=>s.size - w'.iterPos w)
 case atStart=>exact⟨0,Ba _,rfl,lH rfl⟩
 case round=>
  obtain⟨k,hk,rfl,O⟩:=hrel;by_cases hp:k<s.size
  ·obtain⟨c,F⟩:=eX ((s[k]'hp))
   by_cases ha:c.toNat<128
   ·have G:∀B,(Instr.next (p_ w 0) true B).run prog (w.iter s k) = .ok (.tuple #[pI true,I_ k,.int .i32 c.toNat]) (w.iter s (k+1)):=fun B=>by
     have:=run_next_ascii (P:=prog) w s k B hp (by rw [F];exact ha);rw [F] at this;exact this
    have HC:=lH F;have HP:=lH hp;have J:=lH (Ue s k hp);clear F;cases hcb:GM c with
    | true=>
     have E:¬(c.toNat:Int)<32:=by unfold GM at hcb;simp at hcb;omega
     have D:¬(126:Int)<(c.toNat:Int):=by unfold GM at hcb;simp at hcb;omega
     have M:Hi ((s.data.toList.take (k+1)).all GM=true):=lH (by rw [J.o,O.o,HC.o,hcb];rfl);clear hcb;go_wp2;go_roundw;case rel=>exact⟨k+1,by omega,rfl,M⟩
     case measure=>simp;omega
    | false=>
     obtain rfl:b=false:=by rw [<- HB.o];exact Pw s k HP.o (by rw [HC.o];exact hcb)
     have N:(c.toNat:Int)<32\/(¬(c.toNat:Int)<32/\(126:Int)<(c.toNat:Int)):=by unfold GM at hcb;simp at hcb;omega
     clear hcb;rcases N with E | ⟨E,D⟩
     all_goals
      go_wp2;go_ret;exact⟨rfl,Ff w s _⟩
   ·obtain rfl:b=false:=by rw [<- HB.o];exact Pw s k hp (by rw [F];exact Th c bB)
    have T:=decode_high s k hp (by rw [F];omega);obtain⟨r,hr⟩:∃r:Nat,(Utf8.decode s k).1=r:=⟨_,rfl⟩;obtain⟨q,hq⟩:=eX (k+(Utf8.decode s k).2);have G:∀B,(Instr.next (p_ w 0) true B).run prog (w.iter s k) = .ok (.tuple #[pI true,I_ k,.int .i32 r]) (w.iter s q):=fun B=>by
     have:=run_next_any (P:=prog) w s k B hp;rw [hr,hq] at this;exact this
    have E:¬(r:Int)<32:=bB;have D:(126:Int)<(r:Int):=bB;clear F T hr hq;go_wp2;go_ret;exact⟨rfl,Ff w s _⟩
  ·obtain rfl:k=s.size:=bB;obtain rfl:b=true:=by
    rw [<- HB.o];have:=O.o
    rwa [Ak bA] at this
   have G:∀B,(Instr.next (p_ w 0) true B).run prog (w.iter s s.size)=_:=fun B=>run_next_end w s s.size B hp;go_wp2;go_ret;exact⟨rfl,Ff w s _⟩
theorem Od(s:ByteArray)(hs:s.size<=maxLen)(b:Bool)(hb:Gi s=b)(w:World):Calls prog 129 #[Dz s] w fun r w'=>r = pJ (pI b)/\Aa [] w w':=by
 have HS:=lH hs;unfold maxLen at hs;unfold Gi at hb;by_cases h:s.size<=64
 ·rw [decide_eq_true h,DJ] at hb
  have HB:=lH hb;have h1:(s.size:Int)<=64:=bB;clear hb;go_enter func129,ntmps129;go_wp2_with fail;refine(Jl s b HB.o _).mono ?_;rintro r w' ⟨rfl,hk⟩;go_wp2;go_ret;exact⟨rfl,hk⟩
 ·rw [decide_eq_false h,Ep] at hb
  subst hb;have h1:¬(s.size:Int)<=64:=bB;go_enter func129,ntmps129;go_wp2_with fail;go_ret;exact⟨rfl,Aa.refl [] w⟩
theorem Me(s:ByteArray)(hs:s.size<=maxLen)(b:Bool)(hb:Gi s=b)(w:World):Calls prog 180 #[Dz s] w fun r w'=>r = pJ (pI (!b))/\Aa [] w w':=by
 have HB:=lH hb;have HS:=lH hs;clear hb hs;go_enter func180,ntmps180;go_wp2_with fail;refine(Od s HS.o b HB.o _).mono ?_;rintro r w' ⟨rfl,hk⟩;go_wp2;go_ret;exact⟨rfl,hk⟩
def ST(w:World)(g off:Nat)(L:List ByteArray):Prop:=∀i (h:i<L.length),w.cell? ⟨g,off+i,none⟩=some (Dz L[i])
def EF(w:World)(a:Option Addr)(L:List ByteArray):Prop:=L≠[]->∃g off cs fz,a=some ⟨g,off,none⟩/\w.heap[g]? = some (.cells cs 9 fz)/\ST w g off L
def ID(w:World)(S:List Nat):Prop:=∀k∈S,∀cs fz,w.heap[k]?≠some (.cells cs 9 fz)
theorem EF.keepsS{S:List Nat}{w w':World}{a:Option Addr}{L:List ByteArray}(h:EF w a L)(hk:Aa S w w')(hS:ID w S):EF w' a L:=fun hn=>by
 obtain⟨g,off,cs,fz,ha,hg,hat⟩:=h hn;have hl:=(Ai.1 hg).1;have hgS:g∉S:=fun hm=>hS g hm cs fz hg;exact⟨g,off,cs,fz,ha,(hk.block g hl hgS).trans hg,fun i hi=>(hk.cell (p:=A_ g (off+i)) hl hgS).trans (hat i hi)⟩
theorem ID.nil(w:World):ID w []:=fun _ h=>by cases h
theorem EF.keeps{w w':World}{a:Option Addr}{L:List ByteArray}(h:EF w a L)(hk:Aa [] w w'):EF w' a L:=h.keepsS hk (ID.nil w)
theorem Nh(a:Option Addr)(c:Nat)(L:List ByteArray)(b:Bool)(hb:L.all Gi=b)(w:World)(hL:EF w a L)(F:L.length<=1000000)(hs:∀s∈L,s.size<=maxLen):
  Calls prog 219 #[pF a L.length c,.func (.func 180) #[] #[]] w fun r w'=>(∃i:Int,r = pJ (I_ i)/\(decide (0<=i) = !b))/\Aa [] w w':=by
 have HB:=lH hb;have U:=lH hL;have HS:=lH hs;obtain⟨N,hN⟩:=eX L.length;have HN:=lH hN;have Y:N<=1000000:=bB;rw [hN];clear hb hL hs hN F;go_enter func219,ntmps219;go_wp2;go_loopw [5,8] (fun _ i wr=>∃k:Nat,k<=N/\i = I_ k/\Hi ((L.take k).all Gi=true)/\Hi (Aa [] w wr)) (fun _ i _=>N - (intOf i).toNat)
 case atStart=>exact⟨0,Ba _,rfl,lH rfl,lH (Aa.refl [] w)⟩
 case round=>
  obtain⟨k,hk,rfl,O,HK⟩:=hrel;by_cases hlt:k<N
  ·have hk1:k<L.length:=by rw [HN.o];exact hlt
   obtain⟨g,off,cs,fz,rfl,E,hat⟩:=U.o gC;have hg:=(Ai.1 E).1;obtain⟨x,hx⟩:=eX (L[k]);have q1:=hat k hk1;rw [hx,<- HK.o.cell (by exact hg) bA] at q1;have i1:(0:Int)<=(k:Int):=bB;have i2:(k:Int)<(N:Int):=bB;have J:x.size<=maxLen:=HS.o x kG;have G:(L.take (k+1)).all Gi=((L.take k).all Gi&&Gi x):=by
    rw [BJ hk1,List.all_append,hx];simp
   have B:x∈L:=by rw [<- hx];exact pS _
   have HM:=lH B;have X:=lH G;have D:=lH J;clear hat hx G J B hk1 E;cases hr:Gi x with
   | true=>
    have M:Hi ((L.take (k+1)).all Gi=true):=lH (by rw [X.o,O.o,hr];rfl);have HR:=lH hr;clear hr;go_wp2_with fail;refine(Me x D.o true HR.o _).mono ?_;rintro r w2 ⟨rfl,hk2⟩;have HK2:=lH (HK.o.trans hk2);clear hk2;go_wp2;go_roundw;case rel=>exact⟨k+1,by omega,by go_num,M,HK2⟩
    case measure=>simp [intOf];omega
   | false=>
    obtain rfl:b=false:=by
     rw [<- HB.o];apply Bool.eq_false_iff.2;intro T;rw [Bm] at T;have:=T x HM.o;rw [hr] at this;cases this
    have HR:=lH hr;clear hr;go_wp2_with fail;refine(Me x D.o false HR.o _).mono ?_;rintro r w2 ⟨rfl,hk2⟩;have HK2:=lH (HK.o.trans hk2);clear hk2;go_wp2;go_ret;exact⟨⟨_,rfl,by simp⟩,HK2.o⟩
  ·obtain rfl:k=N:=bB;obtain rfl:b=true:=by
    rw [<- HB.o];have:=O.o
    rwa [Ak bL] at this
   go_wp2;go_ret;exact⟨⟨_,rfl,by simp⟩,HK.o⟩
theorem KF(a:Option Addr)(c:Nat)(L:List ByteArray)(b:Bool)(hb:L.all Gi=b)(w:World)(hL:EF w a L)(B:L.length<=1000000)(hs:∀s∈L,s.size<=maxLen):
  Calls prog 181 #[pF a L.length c,.func (.func 180) #[] #[]] w fun r w'=>r = pJ (pI (!b))/\Aa [] w w':=by
 have HB:=lH hb;have D:=lH hL;have HS:=lH hs;have HN:=lH B;clear hb hL hs B;go_enter func181,ntmps181;go_wp2_with fail;refine(Nh a c L b HB.o _ D.o HN.o HS.o).mono ?_;rintro r w' ⟨⟨i,rfl,hi⟩,hk⟩;have HK:=lH hk;clear hk;go_wp2;go_ret;exact⟨rfl,HK.o⟩
theorem Gk(a:Option Addr)(c:Nat)(L:List ByteArray)(b:Bool)(hb:Dd L=b)(w:World)(hL:EF w a L)(B:L.length<=1000000)(hs:∀s∈L,s.size<=maxLen):
  Calls prog 141 #[pF a L.length c] w fun r w'=>r = pJ (pI b)/\Aa [] w w':=by
 have D:=lH hL;have HS:=lH hs;have HN:=lH B;unfold Dd at hb;by_cases h:L.length<=64
 ·rw [decide_eq_true h,DJ] at hb
  have HB:=lH hb;have h1:(L.length:Int)<=64:=bB;clear hb hL hs;go_enter func141,ntmps141;go_wp2_with fail;refine(KF a c L b HB.o _ D.o HN.o HS.o).mono ?_;rintro r w' ⟨rfl,hk⟩;have HK:=lH hk;clear hk;go_wp2;go_ret;exact⟨by simp,HK.o⟩
 ·rw [decide_eq_false h,Ep] at hb
  subst hb;have h1:¬(L.length:Int)<=64:=bB;clear hL hs;go_enter func141,ntmps141;go_wp2_with fail;go_ret;exact⟨rfl,Aa.refl [] w⟩
end
section
open Go.RowKit Go.Shelf
attribute [local go_sem] pN
attribute [local go_sem ↓] wp_at_zero wp_at_succ
theorem ZS:(prog.info? 5).map (fun i=>(i.zero,i.size,i.bytes))=some (some (.int .u8 0),1,1):=bC
theorem Xk:(prog.info? 9).map (fun i=>(i.zero,i.size,i.bytes))=some (some (Dz ⟨#[]⟩),1,16):=bC
def Dk(l:List UInt8):ByteArray:=⟨l.toArray⟩
def FZ:Option Int->Value
 | none=>.nilIface
 | some k=>.iface 190 (pH #[pE pK k])
def Mx(x:Bool×Int):List Value:=[pI x.1,pE pK x.2]
def CU:List (Bool×Int)->Option Int
 | []=>none
 | x::l=>if x.1 then some x.2 else CU l
theorem Mb{L:List (Bool×Int)}{k:Nat}{x:Bool×Int}(h:CU (L.take k)=none)(hx:L[k]? = some x):CU (L.take (k+1))=(if x.1 then some x.2 else none):=by
 have hk:=(Ad.1 hx);obtain⟨hk1,rfl⟩:=hk;rw [BJ hk1];have:∀(l:List (Bool×Int)) (y:Bool×Int),CU l=none->CU (l++[y])=(if y.1 then some y.2 else none):=by
  intro l y;induction l with
  | nil=>intro _;rfl
  | cons z l ih=>
   intro h;unfold CU at h;split at h
   ·cases h
   ·rename_i hz
    show(if z.1 then some z.2 else CU (l++[y]))=_;rw [if_neg hz,ih h]
 exact this _ _ h
theorem T4{L:List (Bool×Int)}{k:Nat}{x:Bool×Int}(h:CU (L.take k)=none)(hx:L[k]? = some x)(hb:x.1=true):CU L=some x.2:=by
 have h1:=Mb h hx;rw [if_pos hb] at h1;have:∀(l m:List (Bool×Int)) (z:Int),CU l=some z->CU (l++m)=some z:=by
  intro l m z;induction l with
  | nil=>intro h;cases h
  | cons y l ih=>
   intro h;unfold CU at h;show(if y.1 then some y.2 else CU (l++m))=_;split at h
   ·rename_i hy;rw [if_pos hy,<- h]
   ·rename_i hy;rw [if_neg hy,ih h]
 have h2:=this _ (L.drop (k+1)) _ h1
 rwa [Dn] at h2
theorem CY(a:Option Addr)(c:Nat)(L:List (Bool×Int))(n:Nat)(hn:L.length=n)(hL:n<=1000)(R:Option Int)(hR:CU L=R)(w:World)(h:AR Mx 2 w a c L):
  Calls prog 90 #[pF a n c] w fun e w'=>e = pJ (FZ R)/\Aa [] w w':=by
 have HA:=lH h.at_;have HN:=lH hn;have HR:=lH hR;clear h hn hR;go_enter func90,ntmps90;go_wp2;go_loopw [7] (fun i wr=>∃k:Nat,i = I_ k/\k<=n/\Hi (CU (L.take k)=none)/\Hi (Aa [] w wr)) (fun i _=>n - (intOf i).toNat)
 case atStart=>exact⟨0,rfl,Ba _,lH rfl,lH (Aa.refl _ _)⟩
 case round=>
  obtain⟨k,rfl,hk,D,HK⟩:=hrel;by_cases hlt:k<n
  ·have hk1:k<L.length:=by rw [HN.o];exact hlt
   obtain⟨g,off,rfl,hg,hat⟩:=HA.o bB;obtain⟨⟨b,y⟩,hx⟩:∃x,L[k]? = some x:=⟨_,Aq hk1⟩;have B:L[k]=(b,y):=by rw [Aq hk1] at hx;injection hx
   have F:=hat k hk1 0 (pI b) (by rw [B];rfl);have G:=hat k hk1 1 (I_ y) (by rw [B];rfl);rw [AT] at F;rw [<- HK.o.cell (p:=A_ g (off+k*2)) hg bA] at F;rw [<- HK.o.cell (p:=A_ g (off+k*2+1)) hg bA] at G;have i1:(0:Int)<=(k:Int):=bB;have i2:(k:Int)<(n:Int):=bB
   cases b with
   | true=>
    have hr:=T4 D.o hx rfl;rw [HR.o] at hr;subst hr;clear hat B hx hk1 hg D;go_wp2;go_ret;exact⟨rfl,HK.o.alloc _⟩
   | false=>
    have E:Hi (CU (L.take (k+1))=none):=lH (Mb D.o hx);clear hat B hx hk1 hg D;go_wp2;go_roundw;case rel=>exact⟨k+1,by go_num,by omega,E,lH (HK.o.alloc _)⟩
    case measure=>simp [intOf];omega
  ·obtain rfl:k=n:=bB;have hr:=D.o;rw [Ak bL,HR.o] at hr;subst hr;go_wp2;go_ret;exact⟨rfl,HK.o⟩
theorem Jy(w:World)(b:Bool)(k:Int):AR Mx 2 (w.alloc (.cells #[pI b,I_ k] 183)) (some (A_ w 0)) 1 [(b,k)]:=
 ⟨by simp,(fun e=>by cases e),fun _=>⟨w,0,rfl,by simp,fun i hi j u hj=>by
  have h0:i=0:=by simpa using hi
  subst h0;have hb:=Blk.new w 183 #[pI b,I_ k];rw [hb.cell]
  match j,hj with
  | 0,hj=>simpa [Mx] using hj
  | 1,hj=>simpa [Mx] using hj
  | j+2,hj=>simp [Mx] at hj⟩⟩
theorem NM(w:World)(b b':Bool)(k k':Int):AR Mx 2 (w.alloc (.cells #[pI b,I_ k,pI b',I_ k'] 183)) (some (A_ w 0)) 2 [(b,k),(b',k')]:=
 ⟨by simp,(fun e=>by cases e),fun _=>⟨w,0,rfl,by simp,fun i hi j u hj=>by
  have hb:=Blk.new w 183 #[pI b,I_ k,pI b',I_ k'];rw [hb.cell]
  match i,hi,j,hj with
  | 0,_,0,hj=>simpa [Mx] using hj
  | 0,_,1,hj=>simpa [Mx] using hj
  | 0,_,j+2,hj=>simp [Mx] at hj
  | 1,_,0,hj=>simpa [Mx] using hj
  | 1,_,1,hj=>simpa [Mx] using hj
  | 1,_,j+2,hj=>simp [Mx] at hj
  | i+2,hi,_,_=>exact absurd hi bA⟩⟩
structure EE(w:World)(r base:Nat)(dv wv:Value)(R:Cm):Prop where
 blk:Blk w r 178 #[dv,wv]
 d:w.ownsRow base 9 1 dv R.done.length (R.done.map fun s=>Dz (Dk s))
 wd:w.ownsRow base 5 1 wv R.word.length (R.word.map fun b=>.int .u8 (b.toNat:Int))
 lt:r<base
 le:base≤w.heap.size
 ne:∀g,dv.ownBlock=some g→wv.ownBlock≠some g
 hd:R.done.length≤12
 hw:R.word.length≤65
def EE.S(r:Nat)(dv wv:Value):List Nat:=r::(dv.ownBlock.toList++wv.ownBlock.toList)
theorem ER{w:World}{base n:Nat}{e:TypeId}{sz:Nat}{v:Value}{xs:List Value}(h:w.ownsRow base e sz v n xs):∀g,v.ownBlock=some g->base<=g/\g<w.heap.size:=fun g hg=>by
 rcases h.2 with⟨rfl,_⟩ | ⟨g',cap,cur,rfl,hb,hg',_⟩
 ·cases hg
 ·simp only [EZ,Option.some.injEq] at hg
  subst hg;exact⟨hb,Blk.lt (t:=e) (cs:=cur) hg'⟩
theorem Ah{w w':World}{S:List Nat}{base n:Nat}{e:TypeId}{B:Nat}{v:Value}{xs:List Value}(h:w.ownsRow base e B v n xs)(hk:Aa S w w')(hS:∀g,v.ownBlock=some g->g∉S):w'.ownsRow base e B v n xs:=by
 refine⟨h.1,?_⟩;rcases h.2 with h0 | ⟨g,cap,cur,rfl,hb,hg,D⟩
 ·exact .inl h0
 ·exact .inr ⟨g,cap,cur,rfl,hb,(hk.block g (Blk.lt (t:=e) (cs:=cur) hg) (hS g rfl)).trans hg,D⟩
theorem EE.keeps{w w':World}{S:List Nat}{r base:Nat}{dv wv:Value}{R:Cm}(h:EE w r base dv wv R)(hk:Aa S w w')(hS:∀y∈EE.S r dv wv,y∉S):EE w' r base dv wv R:=
 ⟨h.blk.keeps hk (hS r (by simp [EE.S])),Ah h.d hk (fun g hg=>hS g (by simp [EE.S,hg])),Ah h.wd hk (fun g hg=>hS g (by simp [EE.S,hg])),h.lt,A8 h.le hk.size,h.ne,h.hd,h.hw⟩
theorem PI(r base:Nat)(dv wv:Value)(R:Cm)(b:UInt8)(hw:R.word.length<=64)(w:World)(h:EE w r base dv wv R):
  Calls prog 184 #[pG (some (A_ r 0)),.int .u8 (b.toNat:Int)] w fun e w'=>e = pJ (FZ (if 64<R.word.length+1 then some 14 else none))/\∃wv',EE w' r base dv wv' ⟨R.st,R.done,R.word++[b]⟩/\Aa (EE.S r dv wv) w w'/\(∀g,wv'.ownBlock=some g->wv.ownBlock=some g\/w.heap.size<=g):=by
 obtain⟨i0,hi,ac,ad,ae⟩:=info_parts ZS;have HH:=lH h;obtain⟨n,hn⟩:=eX R.word.length;have hrow:=h.wd;rw [hn] at hrow hw ⊢;have HRW:=lH hrow;have HN:=lH hn;have c1:=h.blk.cell 1;simp at c1;have an:=h.le;have hlt:=h.lt;have hcase:(64<n+1/\decide ((64:Int)<(n:Int)+1)=true)\/(¬64<n+1/\decide ((64:Int)<(n:Int)+1)=false):=by
  by_cases h1:64<n+1
  ·exact .inl ⟨h1,decide_eq_true bB⟩
  ·exact .inr ⟨h1,decide_eq_false bB⟩
 obtain⟨bi,G⟩:∃bi:Int,(b.toNat:Int)=bi:=⟨_,rfl⟩;have Y:=lH G;rw [G];clear h hrow hn G;rcases hcase with⟨h1,h2⟩ | ⟨h1,h2⟩
 all_goals
  simp only [h1,if_true,if_false];go_enter func184,ntmps184;go_wp2_with (at_builtin;(refine wpList_append_lies _ rfl _ _ _ bD base 5 i0 _ 1 1 underlying174 hi ac ad ae rfl bB wv n _ bD (World.ownsRow.alloc HRW.o _) (A_ w 0) 1 1 _ bD bD (World.news_of_block (heap_alloc_new _ _)) aG bB bZ bB bG (w+1) bA ?_;intro g2 B w4 E D hat aj;have O:∀j,wv.ownBlock=some j->base<=j:=(fun j hj=>(ER HRW.o j hj).1);have k4:Aa wv.ownBlock.toList w w4:=((Aa.refl _ w).alloc _).grown D (fun j hj=>.inl (by simp [hj]));have J:=HH.o.blk.keeps k4 (fun hm=>by have:=O r bT;omega);have M:=J.cell 0;have N:=J.cell 1;have f1:=J.frozen 1;simp at M N;have B4:=lH J;have K4:=lH k4;have HO:=lH E;have X:=lH hat;clear HRW c1 E D hat O k4 J));obtain⟨w5,hw5⟩:=eX (w4.setCell (A_ r 1) (pF (some (A_ g2 0)) (n+1) B));have hs5:w4.heap.size=w5.heap.size:=by rw [<- hw5];simp [World.setCell]
  have B5:Hi (Blk w5 r 178 #[dv,pF (some (A_ g2 0)) (n+1) B]):=lH (by rw [<- hw5];exact B4.out.set_ 1 _);have F:Hi (Aa [r] w4 w5):=lH (by rw [<- hw5];exact(Aa.refl [r] w4).setCell (p:=A_ r 1) (.inl bA) _);rw [hw5,hs5];clear hw5 hs5 h2 M N f1;refine(CY (some (A_ w5 0)) 1 [(_,14)] 1 rfl bB _ rfl _ (Jy w5 _ 14)).mono ?_;rintro e w6 ⟨rfl,k5⟩;have U:Hi (Aa [] w5 w6):=lH (((Aa.refl [] w5).alloc _).trans k5);clear k5;go_wp2;go_ret;have hK:Aa (EE.S r dv wv) w w6:=((K4.out.mono (fun y hy=>by simp [EE.S,AQ];exact .inr (.inr bU))).trans (F.out.mono (by simp [EE.S]))).trans (U.out.mono bA);have ab:∀g,dv.ownBlock=some g->g∉wv.ownBlock.toList:=fun g hg hm=>HH.o.ne g hg bT;have aa:∀g,dv.ownBlock=some g->g∉[r]:=fun g hg hm=>by
   have:=(ER HH.o.d g hg).1;simp only [Ag] at hm;have:=HH.o.lt;omega
  have hg2:base<=g2/\g2<w4.heap.size:=ER HO.o g2 rfl;have T:wv.ownBlock=some g2\/w.heap.size<=g2:=by rcases X.o with h | h<;>first | exact .inl h | exact .inr bB
  refine⟨rfl,pF (some (A_ g2 0)) (n+1) B,⟨B5.out.keeps U.out bA,Ah (Ah (Ah HH.o.d K4.out ab) F.out aa) U.out bA,?_,HH.o.lt,A8 HH.o.le hK.size,fun g hg he=>?_,HH.o.hd,?_⟩,hK,fun g hg=>?_⟩
  ·have h9:=Ah (Ah HO.o F.out (fun g hg hm=>by
    simp only [EZ,Option.some.injEq] at hg;simp only [Ag] at hm;have:=HH.o.lt;omega)) U.out bA
   dsimp only;rw [Al,pO,HN.o,CR,List.map_nil,Y.o];exact h9
  ·simp only [EZ,Option.some.injEq] at he
   subst he;rcases T with h | h
   ·exact HH.o.ne _ hg h
   ·have:=(ER HH.o.d _ hg).2;omega
  ·dsimp only;rw [Al,HN.o];simp;omega
  ·simp only [EZ,Option.some.injEq] at hg
   subst hg;exact T
theorem BG{P:Program}{w:World}{o:Oper}{a:Act}{K:Act->World->Prop}{Q:Exit->Act->World->Prop}(s x:Operand)(t:TypeId)
 (ho:o.op = .call { callee:=.builtin .append,args:=#[s,x],argTypes:=#[t,t] }){d:Nat}(B:o.dst=some d){v u v':Value}{w':World}(hs:a.eval s=v)(hx:a.eval x=u)
 (hr:(BI #[t,t] o.type #[v,u]).run P w = .ok v' w')(h:K (a.put (some d) v') w'):o.wp P a w K Q:=by
 rw [<- B] at h;unfold Oper.wp execOp;simp only [ho,resolve,invoke,builtin,Sem.run_bind,Sem.run_pure,Result.andThen_ok,List.map_toArray,CR,List.map_nil,hs,hx,hr];exact h
theorem Ct{w:World}{p:Addr}{v:Value}(h:w.cell? p=some v)(o:Obj):(w.alloc o).cell? p=some v:=((Aa.refl [] w).alloc o).cell (p:=p) (Be w _ h) bA |>.trans h
theorem QC{w:World}{base n:Nat}{e:TypeId}{B:Nat}{v:Value}{xs:List Value}(h:w.ownsRow base e B v (n+1) xs):∃g c,v = pF (some (A_ g 0)) (n+1) c/\base<=g/\g<w.heap.size:=by
 rcases h.2 with⟨_,h0⟩ | ⟨g,cap,cur,hv,hb,hg,_⟩
 ·omega
 ·exact⟨g,cap,hv,hb,Blk.lt (t:=e) (cs:=cur) hg⟩
theorem Re{w:World}{base:Nat}{v:Value}{l:List UInt8}(h:w.ownsRow base 5 1 v l.length (l.map fun b=>.int .u8 (b.toNat:Int))):
  (convert 174 9 v).run prog w = .ok (Dz (Dk l)) w:=by
 rcases h.2 with⟨rfl,h0⟩ | ⟨g,cap,cur,rfl,hb,hg,B,E,hs,D⟩
 ·obtain rfl:=Ds h0
  exact run_convert_bytes_nil (P:=prog) w 174 5 underlying174 underlying5 0 0 9 underlying9
 ·refine run_convert_bytes_back (P:=prog) w 174 9 5 (A_ g 0) cap l underlying174 underlying5 underlying9 (fun j hj=>?_)
  rw [BR,AW,Blk.cell (t:=5) (cs:=cur) hg];have h1:(l.map fun b=>pE .u8 (b.toNat:Int))[j]? = some (.int .u8 (l[j].toNat:Int)):=by rw [List.getElem?_map,Aq hj];rfl
  rw [<- D,Dh,if_pos bB] at h1;simpa using h1
theorem UI(r base:Nat)(dv wv:Value)(R:Cm)(hd:R.done.length<12)(st:WS)(w:World)(h:EE w r base dv wv R):
  Calls prog 185 #[pG (some (A_ r 0))] w fun e w'=>e = pJ (.tuple #[])/\∃dv',EE w' r base dv' (pF none 0 0) (R.shutW st)/\Aa (EE.S r dv wv) w w':=by
 obtain⟨i0,hi,ad,ae,af⟩:=info_parts Xk;have c0:=h.blk.cell 0;have c1:=h.blk.cell 1;simp at c0 c1;have G:(convert 174 9 wv).run prog w.drew = .ok (Dz (Dk R.word)) w.drew:=Re (World.ownsRow.drew h.wd);obtain⟨W,hW⟩:=eX ((w.drew).alloc (.cells #[Dz (Dk R.word)] 9));have kW:Aa [] w W:=by rw [<- hW];exact((Aa.refl [] w).drew).alloc _
 have bW:Blk W w 9 #[Dz (Dk R.word)]:=by rw [<- hW];exact Blk.new w.drew _ _
 have aa:W.ownsRow base 9 1 dv R.done.length (R.done.map fun s=>Dz (Dk s)):=Ah h.d kW bA;have F:(convert 174 9 wv).run prog W = .ok (Dz (Dk R.word)) W:=Re (Ah h.wd kW bA);obtain⟨v9,w9,N,D,B,-⟩:=run_append_own (P:=prog) W base 64 64 9 i0 _ 1 16 underlying64 hi ad ae af rfl bE dv R.done.length _ aa (A_ w 0) 1 1 [Dz (Dk R.word)] rfl (fun j u hj=>by
  match j,hj with
  | 0,hj=>rw [BR,bW.cell];simpa using hj) aG bZ bB (A8 h.le kW.size)
 obtain⟨O,X,rfl,ai,ak⟩:=QC D;have k9:Aa dv.ownBlock.toList w w9:=(kW.mono bA).grown B (fun j hj=>.inl (by simp [hj]));have ab:∀j,dv.ownBlock=some j->base<=j/\j<w.heap.size:=fun j hj=>ER h.d j hj;have ac:r∉dv.ownBlock.toList:=fun hm=>by have:=(ab r bT).1;have:=h.lt;omega
 have U:=h.blk.keeps k9 ac;have e0:=U.cell 0;have e1:=U.cell 1;have f0:=U.frozen 0;have f1:=U.frozen 1;simp at e0 e1;have HH:=lH h;have B9:=lH U;have K9:=lH k9;have Y:=lH D;obtain⟨wd,T⟩:=eX (Dk R.word);rw [T] at G F hW;rw [<- hW] at F;have aq:=lH T;have E:(BI #[64,64] 64 #[dv,pF (some (A_ w 0)) 1 1]).run prog ((w.drew).alloc (.cells #[Dz wd] 9)) = .ok (pF (some (A_ O 0)) (R.done.length+1) X) w9:=by rw [hW];exact N
 have J:=lH E;have ah:=lH G;have ap:=lH F;clear h hi ad ae af bW aa N D B k9 U ab ac kW hW T E G F;obtain⟨n,hn⟩:=eX (R.done.length+1);rw [hn] at J;have hK:Aa [r] w9 ((w9.setCell (A_ r 0) (pF (some (A_ O 0)) n X)).setCell (A_ r 1) (pF none 0 0)):=((Aa.refl [r] w9).setCell (p:=A_ r 0) (.inl bA) _).setCell (p:=A_ r 1) (.inl bA) _;have aj:O∉[r]:=fun hm=>by
  simp only [Ag] at hm;have:=HH.o.lt;omega
 have M:pJ (.tuple #[]) = pJ (.tuple #[])/\∃dv',EE ((w9.setCell (A_ r 0) (pF (some (A_ O 0)) n X)).setCell (A_ r 1) (pF none 0 0)) r base dv' (pF none 0 0) (R.shutW st)/\Aa (EE.S r dv wv) w ((w9.setCell (A_ r 0) (pF (some (A_ O 0)) n X)).setCell (A_ r 1) (pF none 0 0)):=by
  have hkk:Aa (EE.S r dv wv) w ((w9.setCell (A_ r 0) (pF (some (A_ O 0)) n X)).setCell (A_ r 1) (pF none 0 0)):=(K9.out.mono (fun y hy=>by simp [EE.S];exact .inr (.inl bU))).trans (hK.mono (by simp [EE.S]));refine⟨rfl,pF (some (A_ O 0)) n X,⟨(B9.out.set_ 0 _).set_ 1 _,?_,BQ _ _ _ _,HH.o.lt,A8 HH.o.le hkk.size,(fun g _ he=>by cases he),?_,by simp [Cm.shutW]⟩,hkk⟩
  ·have h9:=Ah Y.o hK (fun g hg=>by simp only [EZ,Option.some.injEq] at hg;subst hg;exact aj)
   rw [hn] at h9;simp only [Cm.shutW,Al,pO,CR,List.map_nil];rw [show R.done.length + [R.word].length=n from hn];exact h9
  ·simp only [Cm.shutW,Al,Bp];omega
 have HFIN:=lH M;clear M hK hn ai ak;go_enter func185,ntmps185;go_wp2;have G:=ah.o;have d0:=Ct c0 (.cells #[Dz wd] 9);have d1:=Ct c1 (.cells #[Dz wd] 9)
 go_region_law (refine BG _ _ 64 bD bD bD bD J.o ?_)
 all_goals
  go_wp2
  go_end0
  exact⟨rfl,HFIN.o.2⟩
structure SV where
 cur:Int
 ia:Option Addr
 il:Nat
 ic:Nat
 used:Int
def SV.cells(s:SV):List Value:=[pE pK s.cur,pF s.ia s.il s.ic,pE pK s.used]
def SV.arr(s:SV):Array Value:=#[pE pK s.cur,pF s.ia s.il s.ic,pE pK s.used]
structure Cy(w:World)(a:Option Addr)(c:Nat)(xs:List ByteArray):Prop where
 le:xs.length≤c
 at_:EF w a xs
 small:xs.length≤1000000
 size:∀x∈xs,x.size≤maxLen
 nil:a=none→c=0
theorem Cy.keepsS{S:List Nat}{w w':World}{a:Option Addr}{c:Nat}{xs:List ByteArray}(h:Cy w a c xs)(hk:Aa S w w')(hS:ID w S):Cy w' a c xs:=⟨h.le,h.at_.keepsS hk hS,h.small,h.size,h.nil⟩
theorem Cy.keeps{w w':World}{a:Option Addr}{c:Nat}{xs:List ByteArray}(h:Cy w a c xs)(hk:Aa [] w w'):Cy w' a c xs:=⟨h.le,h.at_.keeps hk,h.small,h.size,h.nil⟩
def F3(w:World)(a:Option Addr)(V:List SV):Prop:=V≠[]->∃g off cs fz,a=some ⟨g,off,none⟩/\w.heap[g]? = some (.cells cs 147 fz)/\∀i (h:i<V.length),
 w.cell? ⟨g,off+i*3,none⟩=some (pE pK V[i].cur)/\w.cell? ⟨g,off+i*3+1,none⟩=some (.slice V[i].ia V[i].il V[i].ic)/\w.cell? ⟨g,off+i*3+2,none⟩=some (pE pK V[i].used)
theorem F3.keepsS{S:List Nat}{w w':World}{a:Option Addr}{V:List SV}(h:F3 w a V)(hk:Aa S w w')(hS:∀k∈S,∀(cs:Array Value) (fz:Nat×Nat),w.heap[k]?≠some (Obj.cells cs 147 fz)):F3 w' a V:=fun hn=>by
 obtain⟨g,off,cs,fz,ha,hb,hat⟩:=h hn;have hg:=(Ai.1 hb).1;have hgS:g∉S:=fun hm=>hS g hm cs fz hb;exact⟨g,off,cs,fz,ha,(hk.block g hg hgS).trans hb,fun i hi=>by
  obtain⟨h0,h1,h2⟩:=hat i hi;exact⟨(hk.cell (p:=A_ g (off+i*3)) hg hgS).trans h0,(hk.cell (p:=A_ g (off+i*3+1)) hg hgS).trans h1,(hk.cell (p:=A_ g (off+i*3+2)) hg hgS).trans h2⟩⟩
theorem F3.keeps{w w':World}{a:Option Addr}{V:List SV}(h:F3 w a V)(hk:Aa [] w w'):F3 w' a V:=h.keepsS hk (fun _ h=>by cases h)
def Oh(w:World)(v:SV)(s:Sn):Prop:=v.cur=s.cur/\v.used=s.used/\v.il=s.items.length/\Cy w v.ia v.ic s.items
def Mt(w:World):List SV->List Sn->Prop
 | [],[]=>True
 | v::V,s::L=>Oh w v s/\Mt w V L
 | _,_=>False
theorem Oh.keeps{w w':World}{v:SV}{s:Sn}(h:Oh w v s)(hk:Aa [] w w'):Oh w' v s:=⟨h.1,h.2.1,h.2.2.1,h.2.2.2.keeps hk⟩
theorem Oh.keepsS{S:List Nat}{w w':World}{v:SV}{s:Sn}(h:Oh w v s)(hk:Aa S w w')(hS:ID w S):Oh w' v s:=⟨h.1,h.2.1,h.2.2.1,h.2.2.2.keepsS hk hS⟩
theorem Mt.keepsS{S:List Nat}{w w':World}(hk:Aa S w w')(hS:ID w S):∀ {V:List SV} {L:List Sn},Mt w V L->Mt w' V L
 | [],[],_=>trivial
 | _::_,_::_,h=>⟨h.1.keepsS hk hS,Mt.keepsS hk hS h.2⟩
 | [],_::_,h=>h.elim
 | _::_,[],h=>h.elim
theorem Mt.keeps{w w':World}(hk:Aa [] w w'):∀ {V:List SV} {L:List Sn},Mt w V L->Mt w' V L
 | [],[],_=>trivial
 | _::_,_::_,h=>⟨h.1.keeps hk,Mt.keeps hk h.2⟩
 | [],_::_,h=>h.elim
 | _::_,[],h=>h.elim
theorem Mt.len{w:World}: ∀ {V:List SV} {L:List Sn},Mt w V L->V.length=L.length
 | [],[],_=>rfl
 | _::_,_::_,h=>by rw [Av,Av,Mt.len h.2]
 | [],_::_,h=>h.elim
 | _::_,[],h=>h.elim
theorem Mt.get{w:World}: ∀ {V:List SV} {L:List Sn},Mt w V L->∀(i:Nat) (h:i<V.length) (h':i<L.length),Oh w V[i] L[i]
 | _::_,_::_,h,0,_,_=>h.1
 | _::_,_::_,h,i+1,h1,h2=>Mt.get h.2 i bR kC
theorem Mt.app{w:World}: ∀ {V V':List SV} {L L':List Sn},Mt w V L->Mt w V' L'->Mt w (V++V') (L++L')
 | [],_,[],_,_,h=>h
 | _::_,_,_::_,_,h,h'=>⟨h.1,Mt.app h.2 h'⟩
 | [],_,_::_,_,h,_=>h.elim
 | _::_,_,[],_,h,_=>h.elim
theorem Mt.drop{w:World}: ∀ {V:List SV} {L:List Sn} (k:Nat),Mt w V L->Mt w (V.drop k) (L.drop k)
 | _,_,0,h=>h
 | [],[],_+1,_=>trivial
 | _::_,_::_,k+1,h=>Mt.drop k h.2
 | [],_::_,_+1,h=>h.elim
 | _::_,[],_+1,h=>h.elim
theorem Mt.erase{w:World}: ∀ {V:List SV} {L:List Sn} (k:Nat),Mt w V L->Mt w (V.eraseIdx k) (L.eraseIdx k)
 | [],[],_,_=>trivial
 | _::_,_::_,0,h=>h.2
 | _::_,_::_,k+1,h=>⟨h.1,Mt.erase k h.2⟩
 | [],_::_,_,h=>h.elim
 | _::_,[],_,h=>h.elim
structure BP(w:World)(a:Option Addr)(c:Nat)(V:List SV)(p:Po):Prop where
 le:V.length≤c
 small:V.length≤1000000
 row:F3 w a V
 mt:Mt w V p.l
theorem BP.keeps{w w':World}{a:Option Addr}{c:Nat}{V:List SV}{p:Po}(h:BP w a c V p)(hk:Aa [] w w'):BP w' a c V p:=⟨h.le,h.small,h.row.keeps hk,h.mt.keeps hk⟩
theorem Hv(a:Option Addr)(n c:Nat)(next:Int)(w:World):
  Calls prog 140 #[pH #[pF a n c,I_ next]] w fun r w'=>r = pJ (.func (.func 179) #[] #[pG (some (A_ w 0))])/\w.alloc (.cells #[pF a n c,I_ next] 170)=w':=by
 go_enter func140,ntmps140;go_wp2;go_ret;exact⟨rfl,rfl⟩
def Mf(x:SV×Nat):Array Value:=#[pE pK (x.2:Int),pH #[pE pK x.1.cur,(pF x.1.ia x.1.il x.1.ic),pE pK x.1.used]]
theorem aE(V:List SV)(k:Nat)(h:k<V.length):V.zipIdx.take (k+1)=V.zipIdx.take k++[(V[k],k)]:=by
 rw [BJ bK];simp
theorem MB{V:List SV}{B:List (SV×Nat)}{x:SV×Nat}(h:B++[x] <+: V.zipIdx):∃hk:B.length<V.length,B=V.zipIdx.take B.length/\x=(V[B.length],B.length):=by
 obtain⟨t,D⟩:=h;have hl:=congrArg List.length D;simp only [Al,Av,D4,pZ] at hl;have hk:B.length<V.length:=bB;refine⟨hk,?_,?_⟩
 ·rw [<- D,CC,List.take_left]
 ·have h1:V.zipIdx[B.length]? = some x:=by rw [<- D];simp
  rw [Aq (by simpa using hk)] at h1;simpa using(Option.some.inj h1).symm
theorem WY(n l pb:Nat)(a:Option Addr)(c:Nat)(V:List SV)(hV:V.length<=1000000)(J Jx:List (SV×Nat)->World->Prop)(W:World)(hJ:eY W J)(hR:∀s A,J s A->F3 A a V)
 (hY:∀pre x W1,J pre W1->pre++[x] <+: V.zipIdx->YieldAt Bx (n - 1) prog l (Mf x) W1 fun e W'=>
   (e = pJ (pI true)/\J (pre++[x]) W'/\CA W W1 W')\/(e = pJ (pI false)/\Jx (pre++[x]) W'))
 (hF:W.cell? (A_ pb 0)=some (pF a V.length c))(h0:J [] W):
  CallsIn Bx n prog 179 #[.func (.yield l) #[] #[],p_ pb 0] W fun e W'=>(∃v,e = pJ v)/\
   (J V.zipIdx W'\/(∃pre,pre <+: V.zipIdx/\Jx pre W')):=by
 have HJ:=lH hJ;have HR:=lH hR;have HY:=lH hY;have O:=lH h0;obtain⟨N,hN⟩:=eX V.length;have HN:=lH hN;rw [hN] at hF hV;clear hJ hR hY h0 hN;have Y:Fence.wide.depth.isSome=true->1<=n:=by intro h;cases h
 refine callsIn_of_wp func179 rfl trivial ?_ rfl;simp only [ntmps179,Cz,Av,D4,pL,pM,Bt,Bu,Cd,BD,BH,AL];gi_wp2;refine BW (wpIn_seq (wpIn_label ?_));gi_wp2
 gi_loopw [9] (fun i wr=>∃k:Nat,i = I_ k/\k<=N/\Hi (J (V.zipIdx.take k) wr)/\W.heap.size<=wr.heap.size) (fun i _=>N - (intOf i).toNat)
 case atStart=>exact⟨0,rfl,Ba _,O,Aw _⟩
 case round=>
  obtain⟨k,rfl,hk,B,hsz⟩:=hrel;by_cases hlt:k<N
  ·have hk1:k<V.length:=by rw [HN.o];exact hlt
   obtain⟨g,off,ag,ah,rfl,-,hat⟩:=HR.o _ _ B.o gC;obtain⟨x,hx⟩:=eX (V[k]);have q1:=hat k hk1;rw [hx] at q1;obtain⟨p0,p1,p2⟩:=q1;have i1:(0:Int)<=(k:Int):=bB;have i2:(k:Int)<(N:Int):=bB;have hz:=aE V k hk1;rw [hx] at hz;have F:J (V.zipIdx.take k) (wr.alloc (.cells #[pE pK x.cur,(pF x.ia x.il x.ic),I_ x.used] 147)):=HJ.o _ _ _ B.o ((Below.refl _ wr).alloc hsz _);have M:=Dq (HY.o _ (x,k) _ F (by rw [<- hz];exact List.take_prefix _ _));rw [<- hz] at M;obtain⟨fn,tmps,assign,body,hy,hR⟩:=M;simp only [Mf] at hy;have hb:=Blk.new wr 147 #[pE pK x.cur,(pF x.ia x.il x.ic),I_ x.used];have d0:=hb.cell 0;have d1:=hb.cell 1;have d2:=hb.cell 2;have HZ:=lH hz;clear hat hx hz F hb hk1;gi_wp2;refine⟨Y,?_⟩;refine hR.mono ?_;rintro e W3 ⟨g,rfl,X,hF⟩;clear hR hy;cases g with
   | false=>
    have U:=lH (hF.out rfl);clear X hF;gi_wp2;try rw [AY]
    go_end0
    exact⟨⟨_,rfl⟩,.inr ⟨V.zipIdx.take (k+1),List.take_prefix _ _,U.out⟩⟩
   | true=>
    obtain⟨D,E⟩:=X.out rfl;have T:=lH D;have G:W.heap.size<=W3.heap.size:=by have:=E.1;rw [Eo] at this;omega
    clear X hF D E;gi_wp2;go_roundw;case rel=>exact⟨k+1,by go_num,by omega,T,G⟩
    case measure=>simp [intOf];omega
  ·obtain rfl:k=N:=bB;gi_wp2;try rw [AY]
   go_end0
   refine⟨⟨_,rfl⟩,.inl ?_⟩;have:=B.o
   rwa [Ak (by rw [pZ,HN.o];exact Aw _)] at this
theorem Hw(n pb:Nat)(a:Option Addr)(c:Nat)(V:List SV)(hV:V.length<=1000000)(w:World)(hF:w.cell? (A_ pb 0)=some (pF a V.length c)):
  fP Bx n prog 179 #[pG (some (A_ pb 0))] Mf V.zipIdx (fun A=>F3 A a V) w:=fun l J Jx W hW hJ _ hR hY h0=>
 WY n l pb a c V hV J Jx W hJ hR hY ((BL (a:=A_ pb 0) (hW.block pb (Be w _ hF))).trans hF) h0
inductive oP|mk (A:SV)
abbrev N_:=oP.mk
instance(A:SV):CoeDep oP (N_ A) (Array Value):=⟨#[pE pK A.cur,.slice A.ia A.il A.ic,pE pK A.used]⟩
theorem Df{B:Nat}{A A':World}{g:Nat}{ty:TypeId}{cs:Array Value}(h:Blk A g ty cs)(hg:g<B)(hb:Below B A A'):Blk A' g ty cs:=(hb.block _ hg).trans h
theorem Ar(W:World)(t:TypeId)(cs:Array Value)(n:Nat)(hn:W.heap.size=n):Blk (W.alloc (.cells cs t)) n t cs:=by
 subst hn;exact Blk.new W t cs
theorem TL(l:List Sn)(s:Sn):EQ (l++[s])=s.used:=by simp [EQ]
def Nt(l:List (SV×Nat)):Int:=(l.getLast?.map (·.1.used)).getD 0
theorem TN(l:List (SV×Nat))(x:SV×Nat):Nt (l++[x])=x.1.used:=by simp [Nt]
theorem Wr{w:World}{V:List SV}{L:List Sn}(h:Mt w V L):Nt V.zipIdx=EQ L:=by
 have hl:=h.len;unfold Nt EQ;rcases Nat.eq_zero_or_pos L.length with h0 | h0
 ·obtain rfl:=Ds h0
  obtain rfl:=Ds (hl.trans h0);rfl
 ·rw [List.getLast?_eq_getElem?,List.getLast?_eq_getElem?,pZ]
  have h1:V.length - 1<V.length:=bB;have h2:L.length - 1<L.length:=bB;rw [Aq bR,Aq h2];simp only [List.getElem_zipIdx,Option.map_some,Option.getD_some];have:=h.get (V.length - 1) h1 bB;rw [this.2.1]
  congr 2
  omega
theorem YO(a:Option Addr)(c:Nat)(next:Int)(V:List SV)(hV:V.length<=1000000)(w:World)(hR:F3 w a V)(u:Int)(hu:Nt V.zipIdx=u):
  Calls prog 242 #[pH #[pF a V.length c,I_ next]] w fun r w'=>r = pJ (I_ u)/\Aa [] w w':=by
 refine(callsIn_wide (n:=9)).1 ?_;have HU:=lH hu;have HR:=lH hR;obtain⟨N,hN⟩:=eX V.length;have HN:=lH hN;rw [hN] at hV ⊢;clear hu hR hN;refine callsIn_of_wp_marks func242 rfl trivial ?_ rfl;simp only [ntmps242,Cz,Av,D4,pL,pM,Bt,Bu,Cd,BD,BH,AL];gi_wp2_with fail;refine⟨trivial,(callsIn_wide.2 (Hv _ _ _ _ _)).mono ?_⟩;rintro e w1 ⟨rfl,rfl⟩;gi_wp2_with fail;obtain⟨W0,B⟩:=eX ((((w.alloc (.cells #[pF a N c,I_ next] 170)).alloc (.cells #[pE pK 0] 3)).alloc (.cells #[pF a N c,I_ next] 170)));have O:W0.heap.size=w.heap.size+3:=by rw [<- B];simp
 have J:Below w w W0:=by
  rw [<- B];exact(((Below.refl _ w).alloc (Aw _) _).alloc bA _).alloc bG _
 have T:Blk W0 (w+1) 3 #[pE pK 0]:=by
  rw [<- B];exact(Ar _ _ _ _ bA).alloc _
 have U:W0.cell? (A2 w 0)=some (pF a V.length c):=by
  rw [<- B,HN.o];exact(Ar _ 170 _ _ bA).cell 0
 rw [B];clear B;refine Fn rfl bB (gf:=179) (lb:=#[pG (some (A2 w 0))]) rfl trivial (enters_of func179 bC rfl) (Hw 8 (w+1+1) a c V lR W0 U) (Below.refl _ _) (fun _=>rfl)
  (fun E A=>Below w w A/\Blk A (w+1) 3 #[pE pK (Nt E)]) (fun _ _=>False)
  (fun s A X h hb=>⟨h.1.trans (hb.mono bB),Df h.2 bB hb⟩) (fun s A X h hb=>h)
  (fun s A h=>HR.o.keeps (Aa.of_below h.1 [])) ⟨J,T⟩
  (fun x b=>{ tmps:=#[pH #[pF a N c,I_ next],p_ w 0,I_ 0,p1 w 0,UD,p_ b 0,pH #[pF a N c,I_ next],.func (.func 179) #[] #[pG (some (A2 w 0))],I_ (x.2:Int),pH (N_ x.1),UD,UD,UD],defers:=[] })
  (fun x=>.cells (N_ x.1) 147) ?assign ?body ?done ?stop
 case assign=>
  intro l x W K hK;unfold Mf;gi_wp2;exact hK
 case body=>
  rintro l E x b W ⟨G,F⟩ _ hb M;have hb2:Blk W b 147 (N_ x.1):=M;have d2:=hb2.cell 2;have e1:W.cell? (A1 w 0)=some (I_ (Nt E)):=F.cell 0;have f1:=F.frozen 0;have HB:=lH G;have HC:=lH F;clear G F hb2 M;gi_wp2;refine⟨CA.setCell (p:=A1 w 0) bH W _,HB.o.setCell (p:=A1 w 0) bH _,?_⟩;rw [TN];exact HC.o.set_ 0 _
 case done=>
  rintro D W hD ⟨G,F⟩ hK;have Y:w.heap.size<=D:=bB;rw [HU.o] at F;have e1:W.cell? (A1 w 0)=some (I_ u):=F.cell 0;have HB:=lH G;clear G F O J T U;gi_wp2;refine⟨by simp,.inl ⟨_,_,rfl,run_takeDeferred hK,?_⟩⟩;exact⟨_,results_tmp rfl _ _ _,rfl,Aa.of_below (HB.o.trans (belowK_b (n₀:=w.heap.size) (w:=w) (Aw _) _ D _ _ bB hK rfl rfl)) []⟩
 case stop=>
  rintro D E W _ _ h _;exact h.elim
end
section
open Go.RowKit Go.MapKept
def DV{α:Type}(kv:α->Value)(A:World)(b:Nat)(met:List α):Prop:=∃es c,A.heap[b]? = some (.map es c)/\es.toList.map (fun e=>(e.key,e.val))=met.map fun m=>(kv m,pI true)
structure X4{α:Type}[DecidableEq α](kv:α→Value)(d:TypeDesc):Prop where
 same:∀k m,Instr.sameNow d (kv k) (kv m)=some (decide (k=m))
 key:∀k,IsKey d (kv k)
theorem KQ:X4 (pE .i64) (.int .i64):=⟨fun k m=>by simp [Instr.sameNow,BEq.beq],fun _=>rfl⟩
theorem RZ:X4 Dz .string:=⟨fun k m=>by
 obtain⟨r,h1,h2⟩:=sameNow_of_keys (d:=.string) (a:=Dz k) (b:=Dz m) trivial trivial;rw [h1]
 congr 1
 rw [DI,h2,decide_eq_true_eq];constructor
 ·intro h;injection h
 ·rintro rfl;rfl,fun _=>trivial⟩
section
variable {α:Type} [DecidableEq α] {kv:α->Value} {d:TypeDesc} {P:Program} {t kt et:TypeId} {A A':World} {b:Nat} {met:List α}
theorem LN(hk:X4 kv d)(k:α):∀(es:List MapEntry) (met:List α) (i:Nat),es.map (fun e=>(e.key,e.val))=met.map (fun m=>(kv m,pI true))->
  (k∈met/\∃j,B0 d (kv k) es i=some (some (j,pI true)))\/(k∉met/\B0 d (kv k) es i=some none)
 | [],[],_,_=>.inr ⟨by simp,rfl⟩
 | e::es,m::met,i,h=>by
  rw [CR,CR] at h;injection h with h1 h2
  injection h1 with hkey hv
  have hs:=hk.same k m;by_cases hkm:k=m
  ·subst hkm
   exact .inl ⟨by simp,i,by simp [B0,hkey,hv,hs]⟩
  ·rcases LN hk k es met (i+1) h2 with⟨h3,j,h4⟩ | ⟨h3,h4⟩
   ·exact .inl ⟨Ca _ h3,j,by simp [B0,hkey,hs,hkm,h4]⟩
   ·exact .inr ⟨by simp [h3,hkm],by simp [B0,hkey,hs,hkm,h4]⟩
 | [],_::_,_,h=>by cases h
 | _::_,[],_,h=>by cases h
theorem DV.look(h:DV kv A b met)(hk:X4 kv d)(hm:P.underlying t=some (.map kt et))(B:P.underlying kt=some d)(hz:(zeroValue et).run P A = .ok (pI false) A)(k:α):
  (Ed t (.map (some b)) (kv k) false).run P A = .ok (pI (decide (k∈met))) A:=by
 obtain⟨D,c,hb,he⟩:=h;rcases LN hk k D.toList met 0 he with⟨h1,j,h2⟩ | ⟨h1,h2⟩
 ·rw [(DD hm B hb (hk.key k) h2).2,decide_eq_true h1]
 ·rw [(EW hm B hb (hk.key k) h2 hz).2,decide_eq_false h1]
theorem DV.update(h:DV kv A b met)(hk:X4 kv d)(hm:P.underlying t=some (.map kt et))(D:P.underlying kt=some d)(k:α)(hn:k∉met):
  ∃o,(Instr.mapUpdate t (.map (some b)) (kv k) (pI true)).run P A = .ok () (A.putObj b o)/\DV kv (A.putObj b o) b (met++[k]):=by
 obtain⟨B,c,hb,he⟩:=h;rcases LN hk k B.toList met 0 he with⟨h1,_⟩ | ⟨_,h2⟩
 ·exact absurd h1 hn
 ·refine⟨_,DA hm D hb (hk.key k) h2,_,_,pU (Ai.1 hb).1,?_⟩
  simp [he]
end
section
variable {α:Type} {kv:α->Value} {A A':World} {b:Nat} {met:List α}
theorem DV.new(A:World):DV kv (A.alloc (.map #[] 0)) A []:=⟨#[],0,heap_alloc_new A _,rfl⟩
theorem DV.lt(h:DV kv A b met):b<A.heap.size:=by obtain⟨B,c,h1,_⟩:=h;exact(Ai.1 h1).1
theorem DV.keeps{S:List Nat}(h:DV kv A b met)(hk:Aa S A A')(hn:b∉S):DV kv A' b met:=by
 obtain⟨B,c,h1,h2⟩:=h;exact⟨B,c,(hk.block _ (Ai.1 h1).1 hn).trans h1,h2⟩
theorem Ec(A:World)(b:Nat)(o:Obj):Aa [b] A (A.putObj b o):=
 ⟨rfl,rfl,rfl,by simp,fun k _ hn=>AM (fun e=>hn (by simp [e]))⟩
end
end
section
open Go.RowKit Go.Shelf
def PG{β:Type}(S:List Nat)(J:β->World->Prop):Prop:=∀s A A',J s A->Aa S A A'->J s A'
def QL{α:Type}(F:Fence)(n:Nat)(P:Program)(g:Nat)(lb:Array Value)(encs:α->Array Value)(ys:List α)(V:World->Prop):Prop:=
 ∀(l:Nat) (J Jx:List α->World->Prop) (W:World),PG [] J->PG [] Jx->(∀s A,J s A->V A)->
  (∀pre x W1,J pre W1->pre++[x] <+: ys->YieldAt F (n - 1) P l (encs x) W1 fun e W'=>
   (e = pJ (pI true)/\J (pre++[x]) W')\/(e = pJ (pI false)/\Jx (pre++[x]) W'))->
  J [] W->
  CallsIn F n P g (#[.func (.yield l) #[] #[]]++lb) W fun e W'=>(∃v,e = pJ v)/\(J ys W'\/(∃pre,pre <+: ys/\Jx pre W'))
def Jw{α:Type}(B:Nat)(I Ix:List α->World->Prop)(xs:List α)(W:World):Exit->Act->World->Prop
 | .normal,_,W'=>W.heap.size<=W'.heap.size/\(∀k∈[B,B+1],W'.heap[k]? = W.heap[k]?)/\I xs W'
 | .ret,_,W'=>W.heap.size<=W'.heap.size/\(∀k∈[B,B+1],W'.heap[k]? = W.heap[k]?)/\Ix xs W'
 | _,_,_=>False
theorem AG{S:List Nat}{l:Nat}(W:World)(o:Obj)(hl:l∈S):Aa S W (W.putObj l o):=
 ⟨rfl,rfl,rfl,by simp,fun k _ hn=>AM (fun e=>hn (e▸hl))⟩
variable {F:Fence} {n:Nat} {P:Program}
theorem Cc{α:Type}{g:Operand}{ps:Array Tmp}{assign body:Code}{Q:Exit->Act->World->Prop}{a:Act}{w:World}
 (az:F.round=none)(h1:1<=n){gf:Nat}{lb:Array Value}(hg:a.eval g = .func (.func gf) #[] lb)(am:F.fn gf)(eg:∀args w,(callFunc gf args).run P w = .ok (.enter gf args) w)
 {G:α->Array Value}{ys:List α}{V:World->Prop}(ai:QL F (n - 1) P gf lb G ys V)(ay:∀x,(G x).size=ps.size)
 (I Ix:List α->World->Prop)(hI:PG [w.heap.size,w.heap.size+1] I)(T:PG [w.heap.size,w.heap.size+1] Ix)(an:∀s A,I s A->V A)(h0:I [] w)(E:α->World->Act×World)
 (M:∀x W,Aa [] W (E x W).2)
 (N:∀(l:Nat) (x:α) (W:World) (K:Act->World->Prop),K (E x W).1 (E x W).2->
   assign.wpIn (F.inRound l) (n - 1 - 1) P (Exit.then K (fun _ _ _=>False)) { tmps:=(ps.zip (G x)).foldl (fun t (p,v)=>t.setIfInBounds p v) a.tmps,defers:=[] } W)
 (U:∀(l:Nat) (pre:List α) (x:α) (W W2:World),I pre W->pre++[x] <+: ys->w.heap.size+2<=W.heap.size->Aa [w.heap.size,w.heap.size+1] (E x W).2 W2->body.wpIn (F.inRound l) (n - 1 - 1) P (Jw w I Ix (pre++[x]) W2) (E x W).1 W2)
 (Y:∀(W:World),I ys W->w.heap.size+2<=W.heap.size->W.heap[w.heap.size]? = some (.deferred (some []))->Q .normal { a with defers:={ target:=.collected w,args:=#[] } :: a.defers } W)
 (ac:∀(pre:List α) (W:World),pre <+: ys->Ix pre W->w.heap.size+2<=W.heap.size->W.heap[w.heap.size]? = some (.deferred (some []))->Code.ret.wpIn F n P Q { a with defers:={ target:=.collected w,args:=#[] } :: a.defers } W):
  (Code.rangeFunc g ps assign body).wpIn F n P Q a w:=by
 refine wpIn_rangeFunc fun fn au=>?_;rw [az]
 let D:=w.heap.size
 let l:=w.heap.size+1
 let rec_:LoopState->Option Code->Loop:=fun st pe=>{ state:=st,pending:=pe,fn,tmps:=a.tmps,params:=ps,assign,body,defers:=D }
 let W1:=(w.alloc (.deferred (some []))).alloc (.loop (rec_ .ready none))
 have hs1:W1.heap.size=w.heap.size+2:=by simp [W1]
 have hL:W1.heap[l]? = some (.loop (rec_ .ready none)):=by
  have:=pV (w.alloc (.deferred (some []))) (.loop (rec_ .ready none))
  rwa [Eo] at this
 have hD:W1.heap[D]? = some (.deferred (some [])):=(Below.heap_alloc _ _ _ (by simp [D])).trans (pV w _);have hk1:Aa [w.heap.size,w.heap.size+1] w W1:=((Aa.refl _ w).alloc _).alloc _;refine⟨l,[{ target:=.collected D,args:=#[] }],W1,{ target:=.fn (.func gf) lb,args:=#[.func (.yield l) #[] #[]] },W1,gf,#[.func (.yield l) #[] #[]]++lb,W1,run_enterLoop_outer _ _ _ _ _,?_,?_,?_,fun _=>h1,?_⟩
 ·simp only [resolve,hg];simp [go_sem]
 ·intro f' ae;simp [Target.leads] at ae;subst ae;exact am
 ·simp [invoke,go_sem,eg]
 have a0:∀ {k:Nat},k<w.heap.size+2->k<W1.heap.size:=fun hk=>by omega
 refine(ai l
  (fun pre W=>I pre W/\W1.heap.size<=W.heap.size/\W.heap[l]? = some (.loop (rec_ .ready none))/\W.heap[D]? = some (.deferred (some [])))
  (fun pre W=>Ix pre W/\W1.heap.size<=W.heap.size/\W.heap[l]? = some (.loop (rec_ .done (some .ret)))/\W.heap[D]? = some (.deferred (some [])))
  W1
  (fun s A A' hs hk=>⟨hI s A A' hs.1 (hk.mono bA),A8 hs.2.1 hk.size,(hk.block l lS bA).trans hs.2.2.1,(hk.block D lS bA).trans hs.2.2.2⟩)
  (fun s A A' hs hk=>⟨T s A A' hs.1 (hk.mono bA),A8 hs.2.1 hk.size,(hk.block l lS bA).trans hs.2.2.1,(hk.block D lS bA).trans hs.2.2.2⟩)
  (fun s A hs=>an s A hs.1) ?_ ⟨hI _ _ _ h0 hk1,Aw _,hL,hD⟩).mono ?_
 ·rintro pre x W ⟨hi,hsz,hl,hd⟩ af
  have hlt:l<W.heap.size:=bB;have ax:(E x W).2.heap[l]? = some (.loop (rec_ .ready none)):=((M x W).block l hlt bA).trans hl;have ar:(E x W).2.heap[D]? = some (.deferred (some [])):=((M x W).block D bB bA).trans hd;have a5:=(M x W).size;have ah:l<(E x W).2.heap.size:=bB;refine⟨fn,_,assign,body,run_yield (P:=P) (args:=G x) hl (ay x),roundIn_of_wpIn au (N _ x W _ ⟨_,run_beginRound ax rfl,?_⟩)⟩;have av:((E x W).2.putObj l (.loop { rec_ .ready none with state:=.busy })).heap[l]? = some (.loop { rec_ .ready none with state:=.busy }):=pU ah;have ap:((E x W).2.putObj l (.loop { rec_ .ready none with state:=.busy })).heap[D]? = some (.deferred (some [])):=(AM bB).trans ar;refine wpIn_mono (U _ pre x W _ hi af bB (AG _ _ (by simp [l]))) ?_;rintro e a3 O hp;have J:∀(B:Option Code),((E x W).2.putObj l (.loop { rec_ .ready none with state:=.busy })).heap.size<=O.heap.size->(∀k∈[w.heap.size,w.heap.size+1],O.heap[k]? = ((E x W).2.putObj l (.loop { rec_ .ready none with state:=.busy })).heap[k]?)->
    (Instr.endRound l B).run P O = .ok (pI B.isNone) (O.putObj l (.loop (rec_ (if B.isNone then .ready else .done) B)))/\l<O.heap.size/\W1.heap.size<=O.heap.size/\
    (O.putObj l (.loop (rec_ (if B.isNone then .ready else .done) B))).heap[l]? = some (.loop (rec_ (if B.isNone then .ready else .done) B))/\
    (O.putObj l (.loop (rec_ (if B.isNone then .ready else .done) B))).heap[D]? = some (.deferred (some [])):=fun B ab hk=>by
   rw [World.putObj_size] at ab;have aw:O.heap[l]? = some (.loop { rec_ .ready none with state:=.busy }):=(hk l (by simp [l])).trans av;have aq:O.heap[D]? = some (.deferred (some [])):=(hk D (by simp [D])).trans ap;exact⟨run_endRound (P:=P) B aw,by omega,by omega,pU bB,(AM bB).trans aq⟩
  cases e with
  | normal=>
   obtain⟨hr,ag,ab,aa,X⟩:=J none hp.1 hp.2.1;exact⟨_,_,hr,.inl ⟨rfl,hI _ _ _ hp.2.2 (AG _ _ (by simp [l])),by simp;omega,aa,X⟩⟩
  | ret=>
   obtain⟨hr,ag,ab,aa,X⟩:=J (some .ret) hp.1 hp.2.1;exact⟨_,_,hr,.inr ⟨rfl,T _ _ _ hp.2.2 (AG _ _ (by simp [l])),by simp;omega,aa,X⟩⟩
  | exit id=>exact hp.elim
  | goto t=>exact hp.elim
  | panic ch=>exact hp.elim
  | outgrown=>exact hp.elim
 ·rintro e W2 ⟨⟨v,rfl⟩,(⟨hi,hsz,hl,hd⟩ | ⟨pre,ao,hi,hsz,hl,hd⟩)⟩
  ·exact⟨none,_,run_endLoop (P:=P) hl (by simp [rec_]),Y _ (hI _ _ _ hi (AG _ _ (by simp [l]))) bG ((AM bB).trans hd)⟩
  ·exact⟨some .ret,_,run_endLoop (P:=P) hl (by simp [rec_]),ac pre _ ao (T _ _ _ hi (AG _ _ (by simp [l]))) bG ((AM bB).trans hd)⟩
end
section
open Go.RowKit Go.Shelf
attribute [local go_sem] pN
attribute [local go_sem ↓] wp_at_zero wp_at_succ
def eJ(r sb:Nat):WS->Value
 | .bet=>.func (.func 89) #[pG (some ⟨r,0,none⟩)] #[]
 | .bare=>.func (.func 143) #[pG (some ⟨r,0,none⟩)] #[]
 | .quo=>.func (.func 142) #[pG (some ⟨r,0,none⟩)] #[]
 | .shut=>.func (.func 220) #[] #[pG (some ⟨sb,0,none⟩)]
 | .esc=>.func (.func 221) #[] #[pG (some ⟨sb,0,none⟩)]
def oZ:WS->Nat
 | .bet=>89
 | .bare=>143
 | .quo=>142
 | .shut=>220
 | .esc=>221
def oY(r sb:Nat)(b:UInt8)(e:Bool):WS->Array Value
 | .bet=>#[pG (some ⟨r,0,none⟩),.int .u8 (b.toNat:Int),pI e]
 | .bare=>#[pG (some ⟨r,0,none⟩),.int .u8 (b.toNat:Int),pI e]
 | .quo=>#[pG (some ⟨r,0,none⟩),.int .u8 (b.toNat:Int),pI e]
 | .shut=>#[.int .u8 (b.toNat:Int),pI e,pG (some ⟨sb,0,none⟩)]
 | .esc=>#[.int .u8 (b.toNat:Int),pI e,pG (some ⟨sb,0,none⟩)]
def iS(w:World)(r sb:Nat)(base:Nat):WS->Prop
 | .shut=>Blk w sb 173 #[pG (some ⟨r,0,none⟩)]/\base<=sb
 | .esc=>Blk w sb 173 #[pG (some ⟨r,0,none⟩)]/\base<=sb
 | _=>True
def IG(r base:Nat)(S:List Nat)(w:World)(res:Except Int Cm)(x:Ending)(w':World):Prop:=match res with
 | .error k=>(∃v,x = pJ (.tuple #[v,FZ (some k)]))/\Aa S w w'
 | .ok R'=>∃dv' wv' sb',x = pJ (.tuple #[eJ r sb' R'.st,.nilIface])/\EE w' r base dv' wv' R'/\iS w' r sb' base R'.st/\Aa S w w'
theorem K2(b k:UInt8):(((b.toNat:Int))==((k.toNat:Nat):Int))=decide (b=k):=by
 rw [DI,beq_iff_eq,decide_eq_true_eq];constructor
 ·intro h;exact DX.1 bB
 ·rintro rfl;rfl
theorem XO(r base:Nat)(dv wv:Value)(R:Cm)(b:UInt8)(e:Bool)(J:R.done.length<12)(w:World)(h:EE w r base dv wv R)(F:e=true\/b=32):
  Calls prog 143 #[pG (some (A_ r 0)),.int .u8 (b.toNat:Int),pI e] w (IG r base (EE.S r dv wv) w (.ok (R.shutW .bet))):=by
 have HH:=lH h;have D:e=true\/(e=false/\((b.toNat:Int)==32)=true):=by
  cases e with
  | true=>exact .inl rfl
  | false=>exact .inr ⟨rfl,(K2 b 32).trans (by simpa using F)⟩
 obtain⟨bi,B⟩:∃bi:Int,(b.toNat:Int)=bi:=⟨_,rfl⟩;rw [B] at D ⊢;clear h F B;rcases D with rfl | ⟨rfl,G⟩
 all_goals
  go_enter func143,ntmps143;go_wp2_with fail;refine(UI r base dv wv R J .bet _ HH.o).mono ?_;rintro x w' ⟨rfl,E,hR,hk⟩;have HR:=lH hR;have HK:=lH hk;clear hR hk;go_wp2;go_ret2;exact⟨E,pF none 0 0,0,rfl,HR.o,trivial,HK.o⟩
theorem Vz(r base:Nat)(dv wv:Value)(b:UInt8)(w:World)(D:b=34):
  Calls prog 143 #[pG (some (A_ r 0)),.int .u8 (b.toNat:Int),pI false] w (IG r base (EE.S r dv wv) w (.error 12)):=by
 subst D;have e1:((UInt8.toNat 34:Nat):Int)=34:=rfl;rw [e1];go_enter func143,ntmps143;go_wp2_with fail;refine(CY (some (A_ w 0)) 2 [(true,12),(false,13)] 2 rfl bB (some 12) rfl _ (NM w true false 12 13)).mono ?_;rintro x w' ⟨rfl,B⟩;have HK:=lH (((Aa.refl [] w).alloc _).trans B);clear B;simp only [FZ];go_wp2;go_ret2;exact⟨⟨_,rfl⟩,HK.o.mono bA⟩
theorem V4(r base:Nat)(dv wv:Value)(b:UInt8)(w:World)(D:b=92):
  Calls prog 143 #[pG (some (A_ r 0)),.int .u8 (b.toNat:Int),pI false] w (IG r base (EE.S r dv wv) w (.error 13)):=by
 subst D;have e1:((UInt8.toNat 92:Nat):Int)=92:=rfl;rw [e1];go_enter func143,ntmps143;go_wp2_with fail;refine(CY (some (A_ w 0)) 2 [(false,12),(true,13)] 2 rfl bB (some 13) rfl _ (NM w false true 12 13)).mono ?_;rintro x w' ⟨rfl,B⟩;have HK:=lH (((Aa.refl [] w).alloc _).trans B);clear B;simp only [FZ];go_wp2;go_ret2;exact⟨⟨_,rfl⟩,HK.o.mono bA⟩
def XC(R:Cm)(st:WS)(b:UInt8):Except Int Cm:=if 64<R.word.length+1 then .error 14 else .ok ⟨st,R.done,R.word++[b]⟩
theorem MG{r base:Nat}{dv wv:Value}{R:Cm}{st:WS}{b:UInt8}{w w1 w':World}{wv':Value}(sb:Nat)(hk1:Aa [] w w1)(hS:st = .bare\/st = .quo)(h:EE w' r base dv wv' ⟨R.st,R.done,R.word++[b]⟩)(hk:Aa (EE.S r dv wv) w1 w'):
  IG r base (EE.S r dv wv) w (XC R st b) (pJ (.tuple #[eJ r sb st,FZ (if 64<R.word.length+1 then some 14 else none)])) w':=by
 have hkk:Aa (EE.S r dv wv) w w':=(hk1.mono bA).trans hk;unfold XC;by_cases hc:64<R.word.length+1
 ·rw [if_pos hc,if_pos hc]
  exact⟨⟨_,rfl⟩,hkk⟩
 ·rw [if_neg hc,if_neg hc]
  refine⟨dv,wv',sb,rfl,⟨h.blk,h.d,h.wd,h.lt,h.le,h.ne,h.hd,h.hw⟩,?_,hkk⟩;rcases hS with rfl | rfl<;>trivial
theorem XN(r base:Nat)(dv wv:Value)(R:Cm)(b:UInt8)(hw:R.word.length<=64)(w:World)(h:EE w r base dv wv R)(h1:b≠32)(h2:b≠34)(h3:b≠92):
  Calls prog 143 #[pG (some (A_ r 0)),.int .u8 (b.toNat:Int),pI false] w (IG r base (EE.S r dv wv) w (XC R .bare b)):=by
 have HH:=lH h;have f1:((b.toNat:Int)==32)=false:=(K2 b 32).trans bR;have U:((b.toNat:Int)==34)=false:=(K2 b 34).trans kC;have X:((b.toNat:Int)==92)=false:=(K2 b 92).trans (by simpa using h3);have D:=(fun W hW=>PI r base dv wv R b hw W hW);have B:=(fun M T wv' (hk1:Aa [] w M) h hk=>MG (r:=r) (base:=base) (dv:=dv) (wv:=wv) (R:=R) (b:=b) (w:=w) (w1:=M) (w':=T) (wv':=wv') (st:=.bare) 0 hk1 (.inl rfl) h hk);obtain⟨er,J⟩:∃er:Option Int,(if 64<R.word.length+1 then some 14 else none)=er:=⟨_,rfl⟩;rw [J] at D B;have E:=lH D;have F:=lH B;clear D B J;obtain⟨bi,G⟩:∃bi:Int,(b.toNat:Int)=bi:=⟨_,rfl⟩;rw [G] at f1 U X E ⊢;clear h h1 h2 h3 G;go_enter func143,ntmps143;go_wp2_with fail;refine(CY (some (A_ w 0)) 2 [(false,12),(false,13)] 2 rfl bB none rfl _ (NM w false false 12 13)).mono ?_;rintro x w1 ⟨rfl,N⟩;have HK:=lH (((Aa.refl [] w).alloc _).trans N);clear N;simp only [FZ];go_wp2_with fail;refine(E.o _ (HH.o.keeps HK.o bA)).mono ?_;rintro x w2 ⟨rfl,wv',hR,hk,-⟩;have O:=lH (F.o _ _ _ HK.o hR hk);clear hR hk;go_wp2;go_ret2;exact O.o
theorem QV(r base:Nat)(dv wv:Value)(R:Cm)(b:UInt8)(e:Bool)(B:R.done.length<12)(hw:R.word.length<=64)(w:World)(h:EE w r base dv wv R):
  Calls prog 143 #[pG (some (A_ r 0)),.int .u8 (b.toNat:Int),pI e] w (IG r base (EE.S r dv wv) w (R.bareS b e)):=by
 unfold Cm.bareS;by_cases hc:e=true\/b=32
 ·rw [if_pos hc];exact XO r base dv wv R b e B w h hc
 ·rw [if_neg hc]
  obtain rfl:e=false:=by cases e with | true=>exact absurd (.inl rfl) hc | false=>rfl
  by_cases h2:b=34
  ·rw [if_pos h2];exact Vz r base dv wv b w h2
  ·rw [if_neg h2]
   by_cases h3:b=92
   ·rw [if_pos h3];exact V4 r base dv wv b w h3
   ·rw [if_neg h3];exact XN r base dv wv R b hw w h (fun e=>hc (.inr e)) h2 h3
theorem QX(r base:Nat)(dv wv:Value)(R:Cm)(b:UInt8)(e:Bool)(hs:R.st = .bet)(hd:R.done.length<=12)(hw:R.word.length<=64)(w:World)(h:EE w r base dv wv R):
  Calls prog 89 #[pG (some (A_ r 0)),.int .u8 (b.toNat:Int),pI e] w (IG r base (EE.S r dv wv) w (R.step b e)):=by
 have D:R.step b e=if e=true\/b=32 then .ok R else if R.done.length=12 then .error 15 else if b=34 then .ok ⟨.quo,R.done,R.word⟩ else R.bareS b false:=by unfold Cm.step;rw [hs]
 rw [D];have HH:=lH h;have U:=h.blk.cell 0;simp at U;obtain⟨n,hn⟩:=eX R.done.length;have M:(∃a c,dv = pF a n c):=by
  rw [<- hn];rcases h.d.2 with⟨rfl,h0⟩ | ⟨g,c,cur,rfl,_⟩
  ·exact⟨none,0,by rw [h0]⟩
  ·exact⟨_,_,rfl⟩
 obtain⟨da,dc,rfl⟩:=M;have HS:=lH hs;rw [hn] at hd ⊢;have HN:=lH hn;clear D hs hn;by_cases hc:e=true\/b=32
 ·rw [if_pos hc]
  have F:e=true\/(e=false/\((b.toNat:Int)==32)=true):=by
   cases e with
   | true=>exact .inl rfl
   | false=>exact .inr ⟨rfl,(K2 b 32).trans (by simpa using hc)⟩
  obtain⟨bi,B⟩:∃bi:Int,(b.toNat:Int)=bi:=⟨_,rfl⟩;rw [B] at F ⊢;clear h hc B U;rcases F with rfl | ⟨rfl,aa⟩
  all_goals
   go_enter func89,ntmps89;go_wp2;go_ret2;exact⟨_,wv,0,by rw [HS.o];rfl,HH.o,by rw [HS.o];trivial,Aa.refl _ _⟩
 ·rw [if_neg hc]
  obtain rfl:e=false:=by cases e with | true=>exact absurd (.inl rfl) hc | false=>rfl
  have f1:((b.toNat:Int)==32)=false:=(K2 b 32).trans (by simpa using hc);by_cases h12:n=12
  ·rw [if_pos h12]
   subst h12;obtain⟨bi,B⟩:∃bi:Int,(b.toNat:Int)=bi:=⟨_,rfl⟩;rw [B] at f1 ⊢;clear h hc B;go_enter func89,ntmps89;go_wp2;go_ret2;exact⟨⟨_,rfl⟩,Aa.refl _ _⟩
  ·rw [if_neg h12]
   have f12:((n:Int)==12)=false:=by simpa using(show ¬(n:Int)=12 by omega)
   by_cases h34:b=34
   ·rw [if_pos h34]
    have J:((b.toNat:Int)==34)=true:=(K2 b 34).trans (by simpa using h34);obtain⟨bi,B⟩:∃bi:Int,(b.toNat:Int)=bi:=⟨_,rfl⟩;rw [B] at f1 J ⊢;clear h hc B h34 h12;go_enter func89,ntmps89;go_wp2;go_ret2;exact⟨_,wv,0,rfl,⟨HH.o.blk,HH.o.d,HH.o.wd,HH.o.lt,HH.o.le,HH.o.ne,HH.o.hd,HH.o.hw⟩,trivial,Aa.refl _ _⟩
   ·rw [if_neg h34]
    have J:((b.toNat:Int)==34)=false:=(K2 b 34).trans (by simpa using h34);have hb:=QV r base (pF da n dc) wv R b false (by have:=HN.o;omega) hw w h;obtain⟨N,E⟩:=eX (R.bareS b false);rw [E] at hb ⊢;have HB:=lH hb;obtain⟨bi,B⟩:∃bi:Int,(b.toNat:Int)=bi:=⟨_,rfl⟩;rw [B] at f1 J HB ⊢;clear h hc B h34 h12 hb E;go_enter func89,ntmps89;go_wp2_with fail;refine HB.o.mono ?_;intro x w' hx;cases N with
    | error k=>
     obtain⟨⟨v,rfl⟩,hk⟩:=hx;have HK:=lH hk;clear hk;go_wp2;go_ret2;exact⟨⟨_,rfl⟩,HK.o⟩
    | ok R'=>
     obtain⟨G,T,O,rfl,h1,h2,h3⟩:=hx;have X:=lH h1;have H2:=lH h2;have Y:=lH h3;clear h1 h2 h3;go_wp2;go_ret2;exact⟨G,T,O,rfl,X.o,H2.o,Y.o⟩
theorem EE.S_lt{w:World}{r base:Nat}{dv wv:Value}{R:Cm}(h:EE w r base dv wv R):∀y∈EE.S r dv wv,y<w.heap.size:=fun y hy=>by
 simp only [EE.S,Ac,AQ,Option.mem_toList] at hy;rcases hy with rfl | hy | hy
 ·exact h.blk.lt
 ·exact(h.d.lt y hy).2
 ·exact(h.wd.lt y hy).2
theorem ZH(r base:Nat)(dv wv:Value)(R:Cm)(B:R.done.length<12)(w:World)(h:EE w r base dv wv R):
  Calls prog 182 #[pG (some (A_ r 0))] w fun e w'=>e = pJ (eJ r w .shut)/\Blk w' w 173 #[pG (some (A_ r 0))]/\∃dv',EE w' r base dv' (pF none 0 0) (R.shutW .shut)/\Aa (EE.S r dv wv) w w':=by
 have HH:=lH h;have HB:=lH (Blk.new w 173 #[pG (some (A_ r 0))]);have HK:=lH ((Aa.refl [] w).alloc (.cells #[pG (some (A_ r 0))] 173));clear h;go_enter func182,ntmps182;go_wp2_with fail;refine(UI r base dv wv R B .shut _ (HH.o.keeps HK.o bA)).mono ?_;rintro x w' ⟨rfl,dv',hR,hk⟩;have HR:=lH hR;have HB2:=lH (HB.o.keeps hk (fun hm=>by have:=HH.o.S_lt _ hm;omega));have HK2:=lH ((HK.o.mono bA).trans hk);clear hR hk;go_wp2;go_ret;exact⟨rfl,HB2.o,dv',HR.o,HK2.o⟩
theorem Ty(r:Nat)(w:World):
  Calls prog 183 #[pG (some (A_ r 0))] w fun e w'=>e = pJ (eJ r w .esc)/\Blk w' w 173 #[pG (some (A_ r 0))]/\Aa [] w w':=by
 have HB:=lH (Blk.new w 173 #[pG (some (A_ r 0))]);have HK:=lH ((Aa.refl [] w).alloc (.cells #[pG (some (A_ r 0))] 173));go_enter func183,ntmps183;go_wp2;go_ret;exact⟨rfl,HB.o,HK.o⟩
theorem WW(r base sb:Nat)(dv wv:Value)(R:Cm)(b:UInt8)(e:Bool)(hs:R.st = .shut)(w:World)(h:EE w r base dv wv R)(hb:Blk w sb 173 #[pG (some (A_ r 0))]):
  Calls prog 220 #[.int .u8 (b.toNat:Int),pI e,p_ sb 0] w (IG r base (EE.S r dv wv) w (R.step b e)):=by
 have B:R.step b e=if e=false/\b≠32 then .error 12 else .ok ⟨.bet,R.done,R.word⟩:=by unfold Cm.step;rw [hs]
 rw [B];have HH:=lH h;have D:=hb.cell 0;simp at D;have hcase:(e=false/\b≠32)\/(e=true)\/(e=false/\b=32):=by cases e<;>by_cases E:b=32<;>simp [E]
 rcases hcase with⟨rfl,E⟩ | rfl | ⟨rfl,rfl⟩
 ·rw [if_pos ⟨rfl,E⟩]
  have f1:((b.toNat:Int) != 32)=true:=by rw [bne,show((b.toNat:Int)==32)=false from(K2 b 32).trans (by simpa using E)];rfl
  obtain⟨bi,F⟩:∃bi:Int,(b.toNat:Int)=bi:=⟨_,rfl⟩;rw [F] at f1 ⊢;clear h hb B hs E F;go_enter func220,ntmps220;go_wp2_with fail
  go_region_held3 (fun w'=>w'.cell? (A_ sb 0)=some (p_ r 0)/\Aa [] w w') (first | exact⟨D,((Aa.refl [] w).drew)⟩ | exact⟨(Aa.refl [] w).drew.alloc _ |>.cellsV _ _ D,((Aa.refl [] w).drew).alloc _⟩ | exact⟨hkk.cellsV _ _ D,hkk⟩) (first | (go_at_call 90;refine(CY (some (A_ w 0)) 1 [(true,12)] 1 rfl bB (some 12) rfl _ (Jy w.drew true 12)).mono ?_;rintro e w1 ⟨rfl,hk⟩;have hkk:=(((Aa.refl [] w).drew).alloc _).trans hk;simp only [FZ]))
  all_goals
   have HK:=lH hkk;clear hkk hk D;go_wp2;go_ret2;exact⟨⟨_,rfl⟩,HK.o.mono bA⟩
 ·rw [if_neg bA]
  obtain⟨bi,F⟩:∃bi:Int,(b.toNat:Int)=bi:=⟨_,rfl⟩;rw [F];clear h hb B hs F;go_enter func220,ntmps220;go_wp2_with fail;refine wp_region_held_drew (S:=(fun w':World=>w'.cell? (A_ sb 0)=some (p_ r 0)/\Aa [] w w')) bC (by((try dsimp only);(first | exact⟨D,((Aa.refl [] w).drew)⟩ | exact⟨(Aa.refl [] w).drew.alloc _ |>.cellsV _ _ D,((Aa.refl [] w).drew).alloc _⟩ | exact⟨hkk.cellsV _ _ D,hkk⟩))) (fun hHeld=>?_)
  repeat' (first | exact rZ | refine rX ?_ | ((first | (refine rA 1 (fun K hK=>?_) ?_;go_simp) | (refine rA 9 (fun K hK=>?_) ?_;go_simp) | (refine rA 10 (fun K hK=>?_) ?_;go_simp;refine(CY (some (A_ w 0)) 1 [(false,12)] 1 rfl bB none rfl _ (Jy w.drew false 12)).mono ?_;rintro e w1 ⟨rfl,hk⟩;have hkk:=(((Aa.refl [] w).drew).alloc _).trans hk;simp only [FZ]));refine rO hK (by((try dsimp only);(first | exact⟨D,((Aa.refl [] w).drew)⟩ | exact⟨(Aa.refl [] w).drew.alloc _ |>.cellsV _ _ D,((Aa.refl [] w).drew).alloc _⟩ | exact⟨hkk.cellsV _ _ D,hkk⟩))) fun hHeld=>?_;clear hK K) | (refine rQ 0 ?_;refine rQ 2 ?_;refine rQ 3 ?_;refine rQ 4 ?_;refine rN 5 ?_;refine rN 6 ?_;refine rQ 7 ?_;refine rQ 8 ?_) | (refine rQ 11 ?_;refine rQ 12 ?_) | refine rB [1,9,10] ?_ | (refine wpAnyH_done bC ?_ _;(have HK:=lH hkk;clear hkk hk D;go_wp2;go_ret2;have hR:=HH.o.keeps HK.o bA;exact⟨dv,wv,0,rfl,⟨hR.blk,hR.d,hR.wd,hR.lt,hR.le,hR.ne,hR.hd,hR.hw⟩,trivial,HK.o.mono bA⟩)))
 ·rw [if_neg bA]
  have e1:((UInt8.toNat 32:Nat):Int)=32:=rfl;rw [e1];clear h hb B hs;go_enter func220,ntmps220;go_wp2_with fail
  go_region_held3 (fun w'=>w'.cell? (A_ sb 0)=some (p_ r 0)/\Aa [] w w') (first | exact⟨D,((Aa.refl [] w).drew)⟩ | exact⟨(Aa.refl [] w).drew.alloc _ |>.cellsV _ _ D,((Aa.refl [] w).drew).alloc _⟩ | exact⟨hkk.cellsV _ _ D,hkk⟩) (first | (go_at_call 90;refine(CY (some (A_ w 0)) 1 [(false,12)] 1 rfl bB none rfl _ (Jy w.drew false 12)).mono ?_;rintro e w1 ⟨rfl,hk⟩;have hkk:=(((Aa.refl [] w).drew).alloc _).trans hk;simp only [FZ]))
  all_goals
   have HK:=lH hkk;clear hkk hk D;go_wp2;go_ret2;have hR:=HH.o.keeps HK.o bA;exact⟨dv,wv,0,rfl,⟨hR.blk,hR.d,hR.wd,hR.lt,hR.le,hR.ne,hR.hd,hR.hw⟩,trivial,HK.o.mono bA⟩
theorem V7{w:World}{g g':Nat}{t t':TypeId}{cs cs':Array Value}(h:Blk w g t cs)(h':w.heap[g']? = some (.cells cs' t' (0,0)))(hne:t≠t'):g≠g':=Blk.ne_ h (show Blk w g' t' cs' from h') hne
theorem EE.S_ne{w:World}{r base:Nat}{dv wv:Value}{R:Cm}(h:EE w r base dv wv R){sb:Nat}{cs:Array Value}(hb:Blk w sb 173 cs):sb∉EE.S r dv wv:=fun hm=>by
 have row:∀ {e:TypeId} {sz k:Nat} {v:Value} {xs:List Value},w.ownsRow base e sz v k xs->173≠e->v.ownBlock≠some sb:=fun hr hne he=>by
  rcases hr.2 with⟨rfl,_⟩ | ⟨g,c,cur,rfl,_,hg,_⟩
  ·cases he
  ·simp only [EZ,Option.some.injEq] at he
   subst he;exact V7 hb hg hne rfl
 simp only [EE.S,Ac,AQ,Option.mem_toList] at hm;rcases hm with hm | hm | hm
 ·exact Blk.ne_ hb h.blk bE hm
 ·exact row h.d bE hm
 ·exact row h.wd bE hm
theorem Rx(r base sb:Nat)(dv wv:Value)(R:Cm)(b:UInt8)(e:Bool)(hs:R.st = .esc)(hw:R.word.length<=64)(w:World)(h:EE w r base dv wv R)(hb:Blk w sb 173 #[pG (some (A_ r 0))]):
  Calls prog 221 #[.int .u8 (b.toNat:Int),pI e,p_ sb 0] w (IG r base (EE.S r dv wv) w (R.step b e)):=by
 have B:R.step b e=if e=true\/(b≠34/\b≠92) then .error 13 else XC R .quo b:=by unfold Cm.step;rw [hs];rfl
 rw [B];have HH:=lH h;have HB:=lH hb;by_cases hc:e=true\/(b≠34/\b≠92)
 ·rw [if_pos hc]
  have F:e=true\/(e=false/\((b.toNat:Int) != 34)=true/\((b.toNat:Int) != 92)=true):=by
   cases e with
   | true=>exact .inl rfl
   | false=>
    rcases hc with h1 | ⟨h1,h2⟩
    ·cases h1
    ·exact .inr ⟨rfl,by rw [bne,show((b.toNat:Int)==34)=false from(K2 b 34).trans bR];rfl,by rw [bne,show((b.toNat:Int)==92)=false from(K2 b 92).trans kC];rfl⟩
  obtain⟨bi,E⟩:∃bi:Int,(b.toNat:Int)=bi:=⟨_,rfl⟩;rw [E] at F ⊢;clear h hb B hs hc E;rcases F with rfl | ⟨rfl,f1,f2⟩
  all_goals
   go_enter func221,ntmps221;go_wp2_with fail;refine(CY (some (A_ w 0)) 1 [(true,13)] 1 rfl bB (some 13) rfl _ (Jy w true 13)).mono ?_;rintro x w1 ⟨rfl,X⟩;have HK:=lH (((Aa.refl [] w).alloc _).trans X);clear X;simp only [FZ];go_wp2;go_ret2;exact⟨⟨_,rfl⟩,HK.o.mono bA⟩
 ·rw [if_neg hc]
  obtain rfl:e=false:=by cases e with | true=>exact absurd (.inl rfl) hc | false=>rfl
  have F:(((b.toNat:Int) != 34)=false)\/(((b.toNat:Int) != 34)=true/\((b.toNat:Int) != 92)=false):=by
   by_cases h34:b=34
   ·exact .inl (by rw [bne,show((b.toNat:Int)==34)=true from(K2 b 34).trans (by simpa using h34)];rfl)
   ·have M:b=92:=by
     apply Classical.byContradiction;intro M;exact hc (.inr ⟨h34,M⟩)
    exact .inr ⟨by rw [bne,show((b.toNat:Int)==34)=false from(K2 b 34).trans (by simpa using h34)];rfl,by rw [bne,show((b.toNat:Int)==92)=true from(K2 b 92).trans (by simpa using M)];rfl⟩
  have D:=(fun W hW=>PI r base dv wv R b hw W hW);have B:=(fun W1 W' wv' (hk1:Aa [] w W1) h hk=>MG (r:=r) (base:=base) (dv:=dv) (wv:=wv) (R:=R) (b:=b) (w:=w) (w1:=W1) (w':=W') (wv':=wv') (st:=.quo) 0 hk1 (.inr rfl) h hk);obtain⟨er,U⟩:∃er:Option Int,(if 64<R.word.length+1 then some 14 else none)=er:=⟨_,rfl⟩;rw [U] at D B;have G:=lH D;have J:=lH B;obtain⟨bi,E⟩:∃bi:Int,(b.toNat:Int)=bi:=⟨_,rfl⟩;rw [E] at F G ⊢;clear h hb D B U hc E hs;rcases F with f1 | ⟨f1,f2⟩
  all_goals
   go_enter func221,ntmps221;go_wp2_with fail;refine(CY (some (A_ w 0)) 1 [(false,13)] 1 rfl bB none rfl _ (Jy w false 13)).mono ?_;rintro x w1 ⟨rfl,X⟩;have HK:=lH (((Aa.refl [] w).alloc _).trans X);clear X;simp only [FZ];have c0:w1.cell? (A_ sb 0)=some (p_ r 0):=(HB.o.keeps HK.o bA).cell 0;have O:=(HH.o.keeps HK.o bA);have N:=(HB.o.keeps HK.o bA);have HN:=lH (O.S_ne N);have Y:=lH O;have HB1:=lH N;clear O N;go_wp2_with fail
   go_region_held3 (fun w'=>w'.cell? (A_ sb 0)=some (p_ r 0)) (first | exact c0 | exact T) (first | (go_at_call 184;refine(G.o _ (Y.o.keeps ((Aa.refl [] w1).drew) bA)).mono ?_;rintro x w2 ⟨rfl,wv',hR,hk,-⟩;have T:w2.cell? (A_ sb 0)=some (p_ r 0):=(HB1.o.keeps (S:=EE.S r dv wv) ((Aa.refl _ w1).drew.trans hk) HN.o).cell 0))
   all_goals
    have HF:=lH (J.o _ _ _ (HK.o.trans ((Aa.refl [] w1).drew)) hR hk);clear hR hk c0 T;go_wp2;go_ret2;exact HF.o
def Sd(k:Int)(f:Nat)(n:Nat):MapEntry:={ key:=.int .u8 k,val:=.func (.func f) #[] #[],born:=n }
def Gb:Array MapEntry:=#[Sd 34 182 0,Sd 92 183 1]
theorem Sf(es:Array MapEntry)(c:Nat)(k:Int)(f:Nat)(hf:B0 (.int .u8) (.int .u8 k) es.toList 0=some none)(w:World):
  (Instr.mapUpdate 320 (.map (some w)) (.int .u8 k) (.func (.func f) #[] #[])).run prog (w.alloc (.map es c)) = .ok () (w.alloc (.map (es.push (Sd k f c)) (c+1))):=
 Fh underlying320 underlying5 rfl hf
theorem Se(k:Int)(f i:Nat)(hf:B0 (.int .u8) (.int .u8 k) Gb.toList 0=some (some (i,.func (.func f) #[] #[])))(w:World):
  (Ed 320 (.map (some w)) (.int .u8 k) true).run prog (w.alloc (.map Gb 2)) = .ok (.tuple #[.func (.func f) #[] #[],pI true]) (w.alloc (.map Gb 2)):=
 (DD underlying320 underlying5 (heap_alloc_new w _) bS hf).1
theorem W8(k:Int)(h1:¬k=34)(h2:¬k=92)(w:World):
  (Ed 320 (.map (some w)) (.int .u8 k) true).run prog (w.alloc (.map Gb 2)) = .ok (.tuple #[.nilFunc,pI false]) (w.alloc (.map Gb 2)):=by
 have hz:(zeroValue 318).run prog (w.alloc (.map Gb 2)) = .ok .nilFunc (w.alloc (.map Gb 2)):=bC;exact(EW underlying320 underlying5 (heap_alloc_new w _) bS (by simp [Gb,Sd,B0,Instr.sameNow,beq_eq_false_iff_ne.2 h1,beq_eq_false_iff_ne.2 h2]) hz).1
theorem jR(b k:UInt8)(h:(b.toNat:Int)=((k.toNat:Nat):Int)):b=k:=DX.1 bB
theorem Uh(r base:Nat)(dv wv:Value)(R:Cm)(b:UInt8)(e:Bool)(hs:R.st = .quo)(Y:R.done.length<12)(hw:R.word.length<=64)(w:World)(h:EE w r base dv wv R):
  Calls prog 142 #[pG (some (A_ r 0)),.int .u8 (b.toNat:Int),pI e] w (IG r base (EE.S r dv wv) w (R.step b e)):=by
 have B:R.step b e=if e=true then .error 12 else if b=34 then .ok (R.shutW .shut) else if b=92 then .ok ⟨.esc,R.done,R.word⟩ else XC R .quo b:=by unfold Cm.step;rw [hs];rfl
 rw [B];clear B;have HH:=lH h;cases e with
 | true=>
  rw [if_pos rfl];obtain⟨bi,F⟩:∃bi:Int,(b.toNat:Int)=bi:=⟨_,rfl⟩;rw [F];clear h hs F;go_enter func142,ntmps142;go_wp2;go_ret2;exact⟨⟨_,rfl⟩,Aa.refl _ _⟩
 | false=>
  rw [if_neg bE];have hm:=fun W=>run_makeMap (P:=prog) 320 W;have p1:=Sf #[] 0 34 182 rfl w;have p2:=Sf #[Sd 34 182 0] 1 92 183 rfl w;simp only [Cd,BH,AL,pL] at p1 p2;have D:=lH ((Aa.refl [] w).alloc (.map Gb 2));by_cases h34:b=34
  ·subst h34
   rw [if_pos rfl];have e1:((UInt8.toNat 34:Nat):Int)=34:=rfl;rw [e1];have G:=Se 34 182 0 rfl w;unfold Gb at G;have HS:=lH (ZH r base dv wv R Y _ (HH.o.keeps D.o bA));clear h hs;go_enter func142,ntmps142;go_wp2_with fail;refine HS.o.mono ?_;rintro x w' ⟨rfl,hb,O,hR,hk⟩;rw [Eo] at hb;have HB:=lH hb;have HR:=lH hR;have HK:=lH hk;have HLE:Hi (base<=w.heap.size+1):=lH (by have:=HH.o.le;omega);clear hb hR hk p1 p2 G;go_wp2;go_ret2;exact⟨O,pF none 0 0,_,rfl,HR.o,⟨HB.o,HLE.o⟩,(D.o.mono bA).trans HK.o⟩
  ·rw [if_neg h34]
   by_cases h92:b=92
   ·subst h92
    rw [if_pos rfl];have e1:((UInt8.toNat 92:Nat):Int)=92:=rfl;rw [e1];have G:=Se 92 183 1 rfl w;unfold Gb at G;clear h hs h34;go_enter func142,ntmps142;go_wp2_with fail;refine(Ty r _).mono ?_;rintro x w' ⟨rfl,hb,hk⟩;rw [Eo] at hb;have HB:=lH hb;have HK:=lH (D.o.trans hk);have HLE:Hi (base<=w.heap.size+1):=lH (by have:=HH.o.le;omega);clear hb hk p1 p2 G;go_wp2;go_ret2;have hR:=HH.o.keeps HK.o bA;exact⟨dv,wv,_,rfl,⟨hR.blk,hR.d,hR.wd,hR.lt,hR.le,hR.ne,hR.hd,hR.hw⟩,⟨HB.o,HLE.o⟩,HK.o.mono bA⟩
   ·rw [if_neg h92]
    have G:=W8 (b.toNat:Int) (fun e=>h34 (jR b 34 e)) (fun e=>h92 (jR b 92 e)) w;unfold Gb at G;have E:=(fun W hW=>PI r base dv wv R b hw W hW);have B:=(fun T X wv' (hk1:Aa [] w T) h hk=>MG (r:=r) (base:=base) (dv:=dv) (wv:=wv) (R:=R) (b:=b) (w:=w) (w1:=T) (w':=X) (wv':=wv') (st:=.quo) 0 hk1 (.inr rfl) h hk);obtain⟨er,N⟩:∃er:Option Int,(if 64<R.word.length+1 then some 14 else none)=er:=⟨_,rfl⟩;rw [N] at E B;have J:=lH E;have M:=lH B;obtain⟨bi,F⟩:∃bi:Int,(b.toNat:Int)=bi:=⟨_,rfl⟩;rw [F] at G J ⊢;clear h hs h34 h92 E B N F;go_enter func142,ntmps142;go_wp2_with fail;refine(J.o _ (HH.o.keeps D.o bA)).mono ?_;rintro x w2 ⟨rfl,wv',hR,hk,-⟩;have U:=lH (M.o _ _ _ D.o hR hk);clear hR hk p1 p2 G;go_wp2;go_ret2;exact U.o
structure RF(R:Cm):Prop where
 done:R.done.length≤12
 word:R.word.length≤64
 room:R.st≠.bet→R.st≠.shut→R.done.length<12
theorem iN(r base sb:Nat)(dv wv:Value)(R:Cm)(b:UInt8)(e:Bool)(hf:RF R)(w:World)(h:EE w r base dv wv R)(hm:iS w r sb base R.st):
  Calls prog (oZ R.st) (oY r sb b e R.st) w (IG r base (EE.S r dv wv) w (R.step b e)):=by
 have hw:=hf.word;cases hs:R.st with
 | bet=>exact QX r base dv wv R b e hs hf.done hw w h
 | bare=>
  have:=QV r base dv wv R b e (hf.room bV bV) hw w h;have B:R.step b e=R.bareS b e:=by unfold Cm.step;rw [hs]
  rw [B];exact this
 | quo=>exact Uh r base dv wv R b e hs (hf.room bV bV) hw w h
 | shut=>rw [hs] at hm;exact WW r base sb dv wv R b e hs w h hm.1
 | esc=>rw [hs] at hm;exact Rx r base sb dv wv R b e hs hw w h hm.1
def PD(s:ByteArray):List (UInt8×Bool):=(s.data.toList.map fun b=>(b,false))++[((0:UInt8),true)]
def RT(x:UInt8×Bool):Array Value:=#[.int .u8 (x.1.toNat:Int),pI x.2]
theorem A0{α:Type}{L:List α}{k:Nat}{x:α}(h:L[k]? = some x):L.take (k+1)=L.take k++[x]:=by
 obtain⟨hk,rfl⟩:=Ad.1 h;exact BJ hk
theorem aD(s:ByteArray)(k:Nat)(h:k<s.size):(PD s).take (k+1)=(PD s).take k++[(s[k],false)]:=by
 refine A0 ?_;have h2:k<s.data.toList.length:=by rw [BX];exact h
 unfold PD;rw [List.getElem?_append_left kC,List.getElem?_map,Aq h2];rfl
theorem aC(s:ByteArray):(PD s).take s.size++[((0:UInt8),true)]=PD s:=by
 unfold PD;rw [List.take_left' (by rw [Bd,BX];rfl)]
theorem VG(s:ByteArray)(w:World):
  Calls prog 92 #[Dz s] w fun r w'=>r = pJ (.func (.func 144) #[] #[pG (some (A_ w 0))])/\w.alloc (.cells #[Dz s] 9)=w':=by
 go_enter func92,ntmps92;go_wp2;go_ret;exact⟨rfl,rfl⟩
theorem VF(n l pb:Nat)(s:ByteArray)(hs:s.size<=1000000)(J X:List (UInt8×Bool)->World->Prop)(W:World)(hV:∀z A,J z A->A.cell? (A_ pb 0)=some (Dz s))
 (Y:∀pre x W1,J pre W1->pre++[x] <+: PD s->YieldAt Bx (n - 1) prog l (RT x) W1 fun e W'=>
   (e = pJ (pI true)/\J (pre++[x]) W')\/(e = pJ (pI false)/\X (pre++[x]) W'))
 (h0:J [] W):
  CallsIn Bx n prog 144 #[.func (.yield l) #[] #[],p_ pb 0] W fun e W'=>(∃v,e = pJ v)/\
   (J (PD s) W'\/(∃pre,pre <+: PD s/\X pre W')):=by
 have HV:=lH hV;have U:=lH Y;have O:=lH h0;have d0:=hV _ _ h0;clear hV Y h0;have N:Fence.wide.depth.isSome=true->1<=n:=by intro h;cases h
 have hw1:wrap64 ((s.size:Int)+1)=(s.size:Int)+1:=by unfold wrap64;omega
 refine callsIn_of_wp func144 rfl trivial ?_ rfl;simp only [ntmps144,Cz,Av,D4,pL,pM,Bt,Bu,Cd,BD,BH,AL];gi_wp2;refine BW (wpIn_seq (wpIn_label ?_));gi_wp2
 gi_loopw [7] (fun i wr=>∃k:Nat,i = I_ k/\k<=s.size/\Hi (J ((PD s).take k) wr)) (fun i _=>s.size+1 - (intOf i).toNat)
 case atStart=>exact⟨0,rfl,Ba _,O⟩
 case round=>
  obtain⟨k,rfl,hk,F⟩:=hrel;have d1:=HV.o _ _ F.o;have i1:(0:Int)<=(k:Int):=bB;have i3:(k:Int)<(s.size:Int)+1:=bB;by_cases hlt:k<s.size
  ·have i2:(k:Int)<(s.size:Int):=bB;have i4:((k:Int)==(s.size:Int))=false:=by simp;omega
   have hz:=aD s k hlt;have B:(PD s).take k++[(s[k],false)] <+: PD s:=by rw [<- hz];exact List.take_prefix _ _
   have D:=Dq (U.o _ _ _ F.o B);rw [<- hz] at D;obtain⟨fn,tmps,assign,body,hy,hR⟩:=D;simp only [RT] at hy;have HZ:=lH hz;clear hz B;gi_wp2;refine⟨N,?_⟩;refine hR.mono ?_;rintro e W3 ⟨g,rfl,M,hF⟩;clear hR hy;cases g with
   | false=>
    have G:=lH (hF.out rfl);clear M hF;gi_wp2;try rw [AY]
    go_end0
    exact⟨⟨_,rfl⟩,.inr ⟨(PD s).take (k+1),List.take_prefix _ _,G.out⟩⟩
   | true=>
    have E:=lH (M.out rfl);clear M hF;gi_wp2;go_roundw;case rel=>exact⟨k+1,by go_num,by omega,E⟩
    case measure=>simp [intOf];omega
  ·obtain rfl:k=s.size:=bB;have i4:((s.size:Int)==(s.size:Int))=true:=bA;have hz:=aC s;have B:(PD s).take s.size++[((0:UInt8),true)] <+: PD s:=by rw [hz];exact List.prefix_refl _
   have D:=Dq (U.o _ _ _ F.o B);rw [hz] at D;obtain⟨fn,tmps,assign,body,hy,hR⟩:=D;have T:(_:Prop):=hy;simp only [RT] at hy;have e0:((UInt8.toNat 0:Nat):Int)=0:=rfl;rw [e0] at hy;clear hz B T;gi_wp2;refine⟨N,?_⟩;refine hR.mono ?_;rintro e W3 ⟨g,rfl,M,hF⟩;clear hR hy;cases g with
   | false=>
    have G:=lH (hF.out rfl);clear M hF;gi_wp2;try rw [AY]
    go_end0
    exact⟨⟨_,rfl⟩,.inr ⟨PD s,List.prefix_refl _,G.out⟩⟩
   | true=>
    have E:=lH (M.out rfl);clear M hF;gi_wp2;try rw [AY]
    go_end0
    exact⟨⟨_,rfl⟩,.inl E.o⟩
theorem VH(n pb:Nat)(s:ByteArray)(hs:s.size<=1000000):
  QL Bx n prog 144 #[pG (some (A_ pb 0))] RT (PD s) (fun A=>A.cell? (A_ pb 0)=some (Dz s)):=fun l J Jx W _ _ hV hY h0=>
 VF n l pb s hs J Jx W hV hY h0
end
section
open Go.RowKit
theorem Blk.row{w:World}{g:Nat}{t:TypeId}{old:Array Value}(h:Blk w g t old)(cs:Array Value):Blk (w.setRow g cs) g t cs:=setRow_heap w g old cs t (0,0) h
theorem Br(w:World)(g:Nat)(cs:Array Value):Aa [g] w (w.setRow g cs):=
 ⟨rfl,rfl,rfl,by simp,fun i _ hn=>setRow_other w g i cs (fun e=>hn (by simp [e]))⟩
variable {P:Program}
theorem Ay{ops:Array Oper}{rest:List Oper}{op:Oper}{a:Act}{w:World}{Q:Exit->Act->World->Prop}(hgd:op.guard=none)(ty:TypeId)(x:Operand)(ho:op.op = .load ty x)
 (b o:Nat)(hx:a.eval x = p_ b o)(cs:Array Value)(d:TypeDesc)(hc:w.rangeAt b o cs.toList)
 (hu:P.underlying ty=some d)(hd:d.isRow=true)(hi:(P.info? ty).map (·.size)=some cs.toList.length)
 (h:wpList P ops Q rest (a.put op.dst (.agg cs)) w):wpList P ops Q (op::rest) a w:=
 wpList_load_mid hgd ty x ho b o hx cs.toList d hc hu hd hi (by rw [Array.toArray_toList];exact h)
theorem Blk.rng{w:World}{g:Nat}{t:TypeId}{cs:Array Value}(h:Blk w g t cs)(o:Nat)(ds:Array Value)(hd:∀j v,ds.toList[j]? = some v->cs[o+j]? = some v):w.rangeAt g o ds.toList:=fun j v hv=>by
 rw [h.cell];exact hd j v hv
theorem AS{fn:Func}{p u:Tmp}{ty:TypeId}(h:fn.results=#[.cell p ty,.tmp u])(tmps:Array Value)(w:World)(g:Nat)(t:TypeId)(cs:Array Value)(d:TypeDesc)(y:Value)
 (hp:tmps.getD p UD = p_ g 0)(hy:tmps.getD u UD=y)(hb:Blk w g t cs)(hu:P.underlying ty=some d)(B:(match d with | .struct _ | .array _ _=>true | _=>false)=true)(hi:(P.info? ty).map (·.size)=some cs.size):
  (results fn tmps).run P w = .ok (.tuple #[.agg cs,y]) w:=by
 rw [results_cell_tmp h,hp,hy];simp [asAddr,run_loadVar_row w g t ty cs (0,0) d hb hu B hi,Bg]
theorem Fy{F:Fence}{D:Nat}{ops:Array Oper}{rest:List Oper}{B:Oper}{a:Act}{w:World}{Q:Exit->Act->World->Prop}(hgd:B.guard=none)(ty:TypeId)(x:Operand)(ho:B.op = .load ty x)
 (b o:Nat)(hx:a.eval x = p_ b o)(cs:Array Value)(d:TypeDesc)(E:w.rangeAt b o cs.toList)
 (hu:P.underlying ty=some d)(G:d.isRow=true)(hi:(P.info? ty).map (·.size)=some cs.toList.length)
 (h:wpListIn F D P ops Q rest (a.put B.dst (.agg cs)) w):wpListIn F D P ops Q (B::rest) a w:=by
 refine wpListIn_plain hgd fun K hK=>?_;unfold Oper.wpIn;refine⟨by simp [Oper.about,ho],?_⟩;rw [Oper.semAt_plain F _ _ lN];have hr:=run_loadAt_mid (P:=P) w b o ty cs.toList d E hu G hi;rw [Array.toArray_toList] at hr;simp [execOp,ho,hx,hr,Bg];exact hK _ _ h
theorem Fi{F:Fence}{E:Nat}{ops:Array Oper}{rest:List Oper}{o:Oper}{a:Act}{w:World}{Q:Exit->Act->World->Prop}(hgd:o.guard=none)(ty:TypeId)(x y:Operand)(ho:o.op = .store ty x y)
 (g:Nat)(cells:Array Value)(hx:a.eval x = p_ g 0)(hy:a.eval y = .agg cells)
 (t:TypeId)(B:Array Value)(hg:w.heap[g]? = some (.cells B t (0,0)))(hi:(P.info? ty).map (·.size)=some cells.size)
 (D:B.size=cells.size)(h1:cells.all (·.oneCell')=true)
 (h:wpListIn F E P ops Q rest (a.put o.dst UD) (w.setRow g cells)):wpListIn F E P ops Q (o::rest) a w:=by
 refine wpListIn_plain hgd fun K hK=>?_;unfold Oper.wpIn;refine⟨by simp [Oper.about,ho],?_⟩;rw [Oper.semAt_plain F _ _ lN];have hr:=run_storeVar_row (P:=P) w g t ty B cells hg hi D h1;simp [execOp,ho,hx,hy,Instr.storeAt,Instr.sureAddr,hr,Bg];exact hK _ _ h
end
section
open Go
theorem Uv{l n:Nat}{P:Program}{o:Oper}{a:Act}{next B:Act->World->Prop}{Q:Exit->Act->World->Prop}(hn:∀a w,next a w->B a w):
  ∀(r:Result Next),o.upon P a next Q r->o.uponIn (Fence.wide.inRound l) n P a B Q r:=by
 intro r h;cases r with
 | ok v w=>
  cases v with
  | value v=>exact hn _ _ h
  | skip=>exact hn _ _ h
  | defer d=>exact hn _ _ h
  | enter f args=>
   refine⟨(fun e=>by cases e),CallsIn.inRound l (callsIn_wide.2 (Calls.mono h ?_))⟩;intro e w' he;cases e with
   | returned v=>exact hn _ _ he
   | panicked ch=>exact he
   | outgrown=>exact he
  | row row args=>
   refine⟨(fun e=>by cases e),fun c cs _=>?_⟩;obtain⟨v,w',hr,hs⟩:=h c cs;exact⟨v,w',hn _ _ hr,stepsIn_wide.2 hs⟩
  | _=>exact h.elim
 | halt x w=>
  cases x<;>first | exact h | exact h.elim
theorem GW{l n:Nat}{P:Program}{ops:Array Oper}{Q:Exit->Act->World->Prop}(hd:∀(i:Nat) (o:Oper),ops[i]? = some o->∀c,o.op≠Op.defer c)(hQ:∀a w,¬Q .outgrown a w):
  ∀(is:List Nat) (a:Act) (w:World),wpOps P ops Q is a w->wpOpsIn (Fence.wide.inRound l) n P ops Q is a w
 | [],_,_,h=>h
 | i::is,a,w,h=>by
  unfold wpOps at h;unfold wpOpsIn;split at h
  ·rename_i h0
   simp only [h0];exact GW hd hQ is a w h
  ·rename_i o h0
   simp only [h0];split at h
   ·rename_i hw
    rw [if_pos hw];rcases h with h | ⟨_,a',w',h⟩
    ·refine⟨fun _ _=>trivial,?_⟩
     show o.uponIn _ n P a _ Q ((o.semAt (some l) a.eval).run P w);rw [pN l _ _ (hd i o h0)];exact Uv (fun a w=>GW hd hQ is a w) _ h
    ·exact absurd h (hQ a' w')
   ·rename_i hw
    rw [if_neg hw];exact⟨fun _ _=>trivial,GW hd hQ is _ w h⟩
def Q0(ops:Array Oper):Bool:=ops.toList.all fun(o:Oper)=>match o.op with | Op.defer _=>false | _=>true
theorem KS{ops:Array Oper}(h:Q0 ops=true):∀(i:Nat) (o:Oper),ops[i]? = some o->∀c,o.op≠Op.defer c:=fun i o ho c hc=>by
 have h1:=Bm.1 h o (by
  rw [<- qD] at ho;exact CD ho)
 rw [hc] at h1;cases h1
theorem BA{l n:Nat}{P:Program}{ops:Array Oper}{Q:Exit->Act->World->Prop}{S:World->Prop}{id:Nat}{a:Act}{w:World}(hm:P.follows .mixedOrders=true)(hd:Q0 ops=true)(hQ:∀a w,¬Q .outgrown a w)(hS:S w.drew)
 (h:S w.drew->wpAnyH P .any ops Q S ops.size (Array.replicate ops.size false) a w.drew):(Code.region id ops true).wpIn (Fence.wide.inRound l) n P Q a w:=
 wpIn_region_draw fun t=>by
  simp only [Region.schedule,hm,Bool.true_or,if_true];exact GW (KS hd) hQ _ _ _ (wpAny_sound ops.size t _ a _ (wpAny_of_held _ _ _ _ (h hS)))
theorem Xl{n:Nat}{P:Program}{o:Oper}{a:Act}{next B:Act->World->Prop}{Q:Exit->Act->World->Prop}(hn:∀a w,next a w->B a w):
  ∀(r:Result Next),o.upon P a next Q r->o.uponIn Bx n P a B Q r:=by
 intro r h;cases r with
 | ok v w=>
  cases v with
  | value v=>exact hn _ _ h
  | skip=>exact hn _ _ h
  | defer d=>exact hn _ _ h
  | enter f args=>
   refine⟨(fun e=>by cases e),callsIn_wide.2 (Calls.mono h ?_)⟩;intro e w' he;cases e with
   | returned v=>exact hn _ _ he
   | panicked ch=>exact he
   | outgrown=>exact he
  | row row args=>
   refine⟨(fun e=>by cases e),fun c cs _=>?_⟩;obtain⟨v,w',hr,hs⟩:=h c cs;exact⟨v,w',hn _ _ hr,stepsIn_wide.2 hs⟩
  | _=>exact h.elim
 | halt x w=>
  cases x<;>first | exact h | exact h.elim
theorem I8{n:Nat}{P:Program}{ops:Array Oper}{Q:Exit->Act->World->Prop}(hd:∀(i:Nat) (o:Oper),ops[i]? = some o->∀c,o.op≠Op.defer c)(hQ:∀a w,¬Q .outgrown a w):
  ∀(is:List Nat) (a:Act) (w:World),wpOps P ops Q is a w->wpOpsIn Bx n P ops Q is a w
 | [],_,_,h=>h
 | i::is,a,w,h=>by
  unfold wpOps at h;unfold wpOpsIn;split at h
  ·rename_i h0
   simp only [h0];exact I8 hd hQ is a w h
  ·rename_i o h0
   simp only [h0];split at h
   ·rename_i hw
    rw [if_pos hw];rcases h with h | ⟨_,a',w',h⟩
    ·refine⟨fun _ _=>trivial,?_⟩
     show o.uponIn _ n P a _ Q ((o.semAt Fence.wide.round a.eval).run P w);rw [Oper.semAt_plain Bx _ _ (hd i o h0)];exact Xl (fun a w=>I8 hd hQ is a w) _ h
    ·exact absurd h (hQ a' w')
   ·rename_i hw
    rw [if_neg hw];exact⟨fun _ _=>trivial,I8 hd hQ is _ w h⟩
def YX(Q:Exit->Act->World->Prop):Exit->Act->World->Prop
 | .normal,a,w=>Q .normal a w
 | _,_,_=>False
theorem I6{n:Nat}{P:Program}{ops:Array Oper}{Q:Exit->Act->World->Prop}{S:World->Prop}{id:Nat}{a:Act}{w:World}(hm:P.follows .mixedOrders=true)(hd:Q0 ops=true)(hS:S w.drew)
 (h:S w.drew->wpAnyH P .any ops (YX Q) S ops.size (Array.replicate ops.size false) a w.drew):(Code.region id ops true).wpIn Bx n P Q a w:=
 wpIn_mono (Q:=YX Q) (wpIn_region_draw fun t=>by
  simp only [Region.schedule,hm,Bool.true_or,if_true];exact I8 (KS hd) (fun _ _ h=>h) _ _ _ (wpAny_sound ops.size t _ a _ (wpAny_of_held _ _ _ _ (h hS)))) (fun e a w h=>by
  cases e<;>first | exact h | exact h.elim)
end
section
open Go.RowKit Go.Shelf
attribute [local go_sem] pN
attribute [local go_sem ↓] wp_at_zero wp_at_succ
theorem DZ{W:World}{D rb:Nat}{t:TypeId}{v:Value}(h:Blk W rb t #[v])(hne:rb≠D):(W.putObj D (.deferred none)).cell? (A_ rb 0)=some v:=
 Blk.cell (show Blk (W.putObj D (.deferred none)) rb t #[v] from(AM hne).trans h) 0
theorem SM(L:List Sn)(k:Nat)(h:k<L.length):Fx (L.take (k+1))=(Fx (L.take k)&&Dd L[k].items):=by
 unfold Fx;rw [BJ h,List.all_append];simp
theorem Uy(L:List Sn)(k:Nat)(h:k<L.length)(hb:Dd L[k].items=false):Fx L=false:=by
 apply Bool.eq_false_iff.2;intro B;unfold Fx at B;rw [Bm] at B;have:=B L[k] (pS _);rw [hb] at this;cases this
theorem Ki:∀(A B:List Sn) (last:Int),BV last (A++B)=(BV last A&&BV ((A.getLast?.map (·.used)).getD last) B)
 | [],B,last=>by simp [BV]
 | s::A,B,last=>by
  rw [AL,BV,BV,Ki A B s.used,EJ]
  congr 2
  rw [List.getLast?_cons];cases A.getLast?<;>rfl
theorem Lc(L:List Sn)(k:Nat)(h:k<L.length):BV 0 (L.take (k+1))=(BV 0 (L.take k)&&Hy (EQ (L.take k)) L[k]):=by
 rw [BJ h,Ki]
 congr 1
 simp [BV,EQ]
theorem S9(L:List Sn)(k:Nat)(h:k<L.length)(hb:Hy (EQ (L.take k)) L[k]=false):BV 0 L=false:=by
 have e:L=L.take (k+1)++L.drop (k+1):=(Dn _ _).symm;rw [e,Ki,Lc L k h,hb];simp
def L7(l:List Sn):List Int:=l.map (·.cur)
theorem JV(next:Int):∀(A B:List Sn) (met:List Int),CS next met (A++B)=(CS next met A&&CS next (met++L7 A) B)
 | [],B,met=>by simp [CS,L7]
 | s::A,B,met=>by
  rw [AL,CS,CS,JV next A B,EJ];simp [L7]
theorem LW(next:Int)(L:List Sn)(k:Nat)(h:k<L.length):CS next [] (L.take (k+1))=(CS next [] (L.take k)&&JZ next (L7 (L.take k)) L[k]):=by
 rw [BJ h,JV];simp [CS]
theorem SY(next:Int)(L:List Sn)(k:Nat)(h:k<L.length)(hb:JZ next (L7 (L.take k)) L[k]=false):CS next [] L=false:=by
 have e:L=L.take (k+1)++L.drop (k+1):=(Dn _ _).symm;rw [e,JV,LW next L k h,hb];simp
theorem Uz{L:List Sn}{k:Nat}{s:Sn}(h:L[k]? = some s):Fx (L.take (k+1))=(Fx (L.take k)&&Dd s.items):=by
 obtain⟨hk,rfl⟩:=Ad.1 h;exact SM L k hk
theorem Xq{L:List Sn}{k:Nat}{s:Sn}(h:L[k]? = some s)(hb:Dd s.items=false):Fx L=false:=by
 obtain⟨hk,rfl⟩:=Ad.1 h;exact Uy L k hk hb
theorem SA{L:List Sn}{k:Nat}{s:Sn}(h:L[k]? = some s):BV 0 (L.take (k+1))=(BV 0 (L.take k)&&Hy (EQ (L.take k)) s):=by
 obtain⟨hk,rfl⟩:=Ad.1 h;exact Lc L k hk
theorem NS{L:List Sn}{k:Nat}{s:Sn}(h:L[k]? = some s)(hb:Hy (EQ (L.take k)) s=false):BV 0 L=false:=by
 obtain⟨hk,rfl⟩:=Ad.1 h;exact S9 L k hk hb
theorem SZ(next:Int){L:List Sn}{k:Nat}{s:Sn}(h:L[k]? = some s):CS next [] (L.take (k+1))=(CS next [] (L.take k)&&JZ next (L7 (L.take k)) s):=by
 obtain⟨hk,rfl⟩:=Ad.1 h;exact LW next L k hk
theorem Vx(next:Int){L:List Sn}{k:Nat}{s:Sn}(h:L[k]? = some s)(hb:JZ next (L7 (L.take k)) s=false):CS next [] L=false:=by
 obtain⟨hk,rfl⟩:=Ad.1 h;exact SY next L k hk hb
theorem Rg(a:Option Addr)(c:Nat)(p:Po)(n:Nat)(hn:p.l.length=n)(hl:n<=1000000)(b:Bool)(hb:Hk p=b)(w:World):
  Calls prog 85 #[pH #[pF a n c,I_ p.next]] w fun r w'=>r = pJ (pI b)/\Aa [] w w':=by
 unfold Hk at hb;rw [hn] at hb;obtain⟨x,hx⟩:=eX p.next;rw [hx] at hb ⊢;clear hx hn;have HB:=lH hb;clear hb;by_cases h1:1<=x
 ·by_cases h2:x<=1000000000000
  ·by_cases h3:n<=3
   ·obtain rfl:b=true:=by rw [<- HB.o];simp [h1,h2,h3]
    have B:(n:Int)<=3:=bB;go_enter func85,ntmps85;go_wp2;go_ret;exact⟨rfl,(Aa.refl [] w).alloc _⟩
   ·obtain rfl:b=false:=by rw [<- HB.o];simp;omega
    have B:¬(n:Int)<=3:=bB;go_enter func85,ntmps85;go_wp2;go_ret;exact⟨rfl,(Aa.refl [] w).alloc _⟩
  ·obtain rfl:b=false:=by rw [<- HB.o];simp;omega
   go_enter func85,ntmps85;go_wp2;go_ret;exact⟨rfl,(Aa.refl [] w).alloc _⟩
 ·obtain rfl:b=false:=by rw [<- HB.o];simp;omega
  go_enter func85,ntmps85;go_wp2;go_ret;exact⟨rfl,(Aa.refl [] w).alloc _⟩
theorem PO(a:Option Addr)(c:Nat)(next:Int)(V:List SV)(L:List Sn)(hV:V.length<=1000000)(w:World)(hR:F3 w a V)(hM:Mt w V L)(B:Bool)(G:Fx L=B):
  Calls prog 88 #[pH #[pF a V.length c,I_ next]] w fun r w'=>r = pJ (pI B)/\Aa [] w w':=by
 refine(callsIn_wide (n:=9)).1 ?_;have HBB:=lH G;have HR:=lH hR;have HM:=lH hM;obtain⟨N,hN⟩:=eX V.length;have HN:=lH hN;rw [hN] at hV ⊢;clear G hR hM hN;refine callsIn_of_wp_marks func88 rfl trivial ?_ rfl;simp only [ntmps88,Cz,Av,D4,pL,pM,Bt,Bu,Cd,BD,BH,AL];gi_wp2_with fail;refine⟨trivial,(callsIn_wide.2 (Hv _ _ _ _ _)).mono ?_⟩;rintro e w1 ⟨rfl,rfl⟩;gi_wp2_with fail;obtain⟨W0,F⟩:=eX ((((w.alloc (.cells #[pF a N c,I_ next] 170)).alloc (.cells #[pI false] 4)).alloc (.cells #[pF a N c,I_ next] 170)));have aa:W0.heap.size=w.heap.size+3:=by rw [<- F];simp
 have O:Below w w W0:=by
  rw [<- F];exact((((Below.refl _ w).alloc (Aw _) _).alloc aW _).alloc aW _)
 have b1:Blk W0 (w+1) 4 #[pI false]:=by
  rw [<- F];exact((Ar _ _ _ _ bA).alloc _)
 have bp:W0.cell? (A2 w 0)=some (pF a V.length c):=by
  rw [<- F,HN.o];exact(Ar _ 170 _ _ bA).cell 0
 rw [F];clear F;try clear hmm
 refine Fn rfl bB (gf:=179) (lb:=#[pG (some (A2 w 0))]) rfl trivial (enters_of func179 bC rfl) (Hw 8 (w+1+1) a c V lR W0 bp) (Below.refl _ _) (fun _=>rfl)
  (fun E A=>Below w w A/\Blk A (w+1) 4 #[pI false]/\Fx (L.take E.length)=true) (fun E A=>Below w w A/\Blk A (w+1) 4 #[pI false]/\Fx L=false)
  (fun s A A' h hb=>⟨h.1.trans (hb.mono bB),Df h.2.1 bB hb,h.2.2⟩) (fun s A A' h hb=>⟨h.1.trans (hb.mono bB),Df h.2.1 bB hb,h.2.2⟩)
  (fun s A h=>HR.o.keeps (Aa.of_below h.1 [])) ⟨O,b1,rfl⟩
  (fun x b=>{ tmps:=#[pH #[pF a N c,I_ next],p_ w 0,p1 w 0,UD,p_ b 0,pH #[pF a N c,I_ next],.func (.func 179) #[] #[pG (some (A2 w 0))],I_ (x.2:Int),pH (N_ x.1),UD,UD,UD,UD],defers:=[] })
  (fun x=>.cells (N_ x.1) 147) ?assign ?body ?done ?stop
 case assign=>
  intro l x W K hK;unfold Mf;gi_wp2;exact hK
 case body=>
  rintro l E x b W ⟨G,hI⟩ M hb ac;obtain⟨hk,al,rfl⟩:=MB M;obtain⟨k,hkk⟩:=eX E.length;have hkL:k<L.length:=by rw [<- HM.o.len,<- hkk];exact hk
  have U:=HM.o.get E.length hk lU;obtain⟨y,hy⟩:=eX (V[E.length]);obtain⟨s,hs⟩:=eX (L[k]);have hm:Oh w y s:=by
   simp only [hkk] at U hy;rw [hy,hs] at U;exact U
  clear U;have hb2:Blk W b 147 (N_ y):=by
   have:=ac;simp only [hy] at this;exact this
  simp only [hy];have J:(E++[(y,E.length)]).length=k+1:=by rw [Al,hkk];rfl
  rw [hy] at M;clear ac;have HS:Hi (L[k]? = some s):=lH kF;have aj:=lH J;have ai:=lH hkk;have hs1:w.heap.size+3<=W0.heap.size:=bB;clear hs J al hk M hkL hy hkk aa O bp;have HW:=lH (hm.2.2.2.keeps (Aa.of_below G []));have ad:=hm.2.2.1;have d1:=hb2.cell 1;obtain⟨Y,X⟩:=hI;have HI:=lH X;have HB:=lH G;have HC:=lH Y;have ah:=lH ad;clear hm G Y X hb2 ad;have ao:=HW.o.small;rw [ah.o] at d1;cases hq:Dd s.items with
  | true=>
   have HQ:=lH hq;clear hq;gi_wp2_with fail;refine⟨trivial,(callsIn_wide.2 (Gk _ _ s.items true HQ.o _ HW.o.at_ HW.o.small HW.o.size)).mono ?_⟩;rintro e w2 ⟨rfl,hk⟩;gi_wp2;refine⟨CA.of_keeps hk bA,HB.o.trans (hk.below HB.o.size bA),HC.o.keeps hk bA,?_⟩;rw [aj.o,Uz HS.o,HQ.o,<- ai.o,HI.o];rfl
  | false=>
   have HQ:=lH hq;clear hq;gi_wp2_with fail;refine⟨trivial,(callsIn_wide.2 (Gk _ _ s.items false HQ.o _ HW.o.at_ HW.o.small HW.o.size)).mono ?_⟩;rintro e w2 ⟨rfl,hk⟩;have T:=HC.o.keeps hk bA;have e1:w2.cell? (A1 w 0)=some (pI false):=T.cell 0;have f1:=T.frozen 0;have ag:=lH T;have HK2:=lH hk;clear hk T;gi_wp2;exact⟨(CA.of_keeps HK2.o bA).trans (CA.setCell (p:=A1 w 0) bH _ _),(HB.o.trans (HK2.o.below HB.o.size bA)).setCell (p:=A1 w 0) bH _,ag.o.set_ 0 _,Xq HS.o HQ.o⟩
 case done=>
  rintro D W hD ⟨G,hI⟩ hK;have ak:w.heap.size+3<=D:=bB;have ae:V.zipIdx.length=L.length:=by rw [pZ];exact HM.o.len
  obtain rfl:B=true:=by rw [<- HBB.o];have:=hI.2;rwa [ae,Ak (Aw _)] at this
  have Y:=hI.1;have e1:W.cell? (A1 w 0)=some (pI false):=Y.cell 0;have f1:=Y.frozen 0;have HC:=lH (Y.set_ 0 (pI true));have HB:=lH (G.setCell (p:=A1 w 0) bH (pI true));have ab:(W.setCell (A1 w 0) (pI true)).heap[D]? = some (.deferred (some [])):=by
   rw [Below.heap_setCell _ _ _ _ bH];exact hK
  clear hI Y G hK aa O ae;gi_wp2;refine⟨by simp,.inl ⟨_,_,rfl,run_takeDeferred ab,?_⟩⟩;have q1:=DZ HC.o (D:=D) bB;have q1:_=some (pI true):=q1;refine⟨pI true,by simp [results,results88,go_sem,q1],rfl,Aa.of_below (HB.o.trans (belowK_b (n₀:=w.heap.size) (w:=w) (Aw _) _ D _ _ bB ab rfl rfl)) []⟩
 case stop=>
  rintro D E W hD _ ⟨G,c2,hx⟩ hK;have ak:w.heap.size+3<=D:=bB;obtain rfl:B=false:=by rw [<- HBB.o];exact hx
  have HB:=lH G;clear G aa O;gi_wp2;refine⟨by simp,.inl ⟨_,_,rfl,run_takeDeferred hK,?_⟩⟩;have q1:=DZ c2 (D:=D) bB;refine⟨pI false,by simp [results,results88,go_sem,q1],rfl,Aa.of_below (HB.o.trans (belowK_b (n₀:=w.heap.size) (w:=w) (Aw _) _ D _ _ bB hK rfl rfl)) []⟩
def GK(A:World)(b:Nat)(met:List Int):Prop:=∃es c,A.heap[b]? = some (.map es c)/\es.toList.map (fun e=>(e.key,e.val))=met.map fun m=>(pE .i64 m,pI true)
theorem NQ(k:Int):∀(es:List MapEntry) (met:List Int) (i:Nat),es.map (fun e=>(e.key,e.val))=met.map (fun m=>(pE .i64 m,pI true))->
  (met.contains k=true/\∃j,B0 (.int .i64) (I_ k) es i=some (some (j,pI true)))\/(met.contains k=false/\B0 (.int .i64) (I_ k) es i=some none)
 | [],[],_,_=>.inr ⟨rfl,rfl⟩
 | e::es,m::met,i,h=>by
  rw [CR,CR] at h;injection h with h1 h2
  injection h1 with hk hv
  by_cases hkm:k=m
  ·subst hkm
   exact .inl ⟨by simp,i,by simp [B0,hk,hv,Instr.sameNow]⟩
  ·have hn:(k==m)=false:=by simp [hkm]
   rcases NQ k es met (i+1) h2 with⟨h3,j,h4⟩ | ⟨h3,h4⟩
   ·exact .inl ⟨by rw [List.contains_cons,h3];simp,j,by simp [B0,hk,Instr.sameNow,hn,h4]⟩
   ·exact .inr ⟨by rw [List.contains_cons,h3];simp [hkm],by simp [B0,hk,Instr.sameNow,hn,h4]⟩
 | [],_::_,_,h=>by cases h
 | _::_,[],_,h=>by cases h
theorem GK.look{A:World}{b:Nat}{B:List Int}(h:GK A b B)(k:Int):(Ed 107 (.map (some b)) (I_ k) false).run prog A = .ok (pI (B.contains k)) A:=by
 obtain⟨D,c,hb,he⟩:=h;have hz:(zeroValue 4).run prog A = .ok (pI false) A:=bC;rcases NQ k D.toList B 0 he with⟨h1,j,h2⟩ | ⟨h1,h2⟩
 ·rw [(DD underlying107 underlying3 hb bS h2).2,h1]
 ·rw [(EW underlying107 underlying3 hb bS h2 hz).2,h1]
theorem GK.update{A:World}{b:Nat}{B:List Int}(h:GK A b B)(k:Int)(hk:B.contains k=false):∃o,(Instr.mapUpdate 107 (.map (some b)) (I_ k) (pI true)).run prog A = .ok () (A.putObj b o)/\GK (A.putObj b o) b (B++[k]):=by
 obtain⟨D,c,hb,he⟩:=h;rcases NQ k D.toList B 0 he with⟨h1,_⟩ | ⟨_,h2⟩
 ·rw [hk] at h1;cases h1
 ·refine⟨_,DA underlying107 underlying3 hb bS h2,_,_,pU (Ai.1 hb).1,?_⟩
  simp [he]
theorem GK.low{B:Nat}{A E:World}{b:Nat}{D:List Int}(h:GK A b D)(hg:b<B)(hb:Below B A E):GK E b D:=by
 obtain⟨F,c,h1,h2⟩:=h;exact⟨F,c,(hb.block _ hg).trans h1,h2⟩
theorem TM{L:List Sn}{k:Nat}{s:Sn}(h:L[k]? = some s):EQ (L.take (k+1))=s.used:=by
 obtain⟨hk,rfl⟩:=Ad.1 h;rw [BJ hk,TL]
theorem Yf{L:List Sn}{k:Nat}{s:Sn}(h:L[k]? = some s):L7 (L.take (k+1))=L7 (L.take k)++[s.cur]:=by
 obtain⟨hk,rfl⟩:=Ad.1 h;unfold L7;rw [BJ hk,pO];rfl
theorem Om(a:Option Addr)(c:Nat)(next:Int)(V:List SV)(L:List Sn)(hV:V.length<=1000000)(w:World)(hR:F3 w a V)(hM:Mt w V L)(B:Bool)(M:BV 0 L=B):
  Calls prog 87 #[pH #[pF a V.length c,I_ next]] w fun r w'=>r = pJ (pI B)/\Aa [] w w':=by
 refine(callsIn_wide (n:=9)).1 ?_;have HBB:=lH M;have HR:=lH hR;have HM:=lH hM;obtain⟨N,hN⟩:=eX V.length;have HN:=lH hN;rw [hN] at hV ⊢;clear M hR hM hN;refine callsIn_of_wp_marks func87 rfl trivial ?_ rfl;simp only [ntmps87,Cz,Av,D4,pL,pM,Bt,Bu,Cd,BD,BH,AL];gi_wp2_with fail;refine⟨trivial,(callsIn_wide.2 (Hv _ _ _ _ _)).mono ?_⟩;rintro e w1 ⟨rfl,rfl⟩;gi_wp2_with fail;obtain⟨W0,G⟩:=eX (((((w.alloc (.cells #[pF a N c,I_ next] 170)).alloc (.cells #[pI false] 4)).alloc (.cells #[pE pK 0] 3)).alloc (.cells #[pF a N c,I_ next] 170)));have af:W0.heap.size=w.heap.size+4:=by rw [<- G];simp
 have Y:Below w w W0:=by
  rw [<- G];exact(((((Below.refl _ w).alloc (Aw _) _).alloc aW _).alloc aW _).alloc aW _)
 have b1:Blk W0 (w+1) 4 #[pI false]:=by
  rw [<- G];exact(((Ar _ _ _ _ bA).alloc _).alloc _)
 have b3:Blk W0 (w+1+1) 3 #[pE pK 0]:=by
  rw [<- G];exact((Ar _ _ _ _ bA).alloc _)
 have bp:W0.cell? (A3 w 0)=some (pF a V.length c):=by
  rw [<- G,HN.o];exact(Ar _ 170 _ _ bA).cell 0
 rw [G];clear G;try clear hmm
 refine Fn rfl bB (gf:=179) (lb:=#[pG (some (A3 w 0))]) rfl trivial (enters_of func179 bC rfl) (Hw 8 (w+1+1+1) a c V lR W0 bp) (Below.refl _ _) (fun _=>rfl)
  (fun E A=>Below w w A/\Blk A (w+1) 4 #[pI false]/\Blk A (w+1+1) 3 #[pE pK (EQ (L.take E.length))]/\BV 0 (L.take E.length)=true) (fun E A=>Below w w A/\Blk A (w+1) 4 #[pI false]/\BV 0 L=false)
  (fun s A A' h hb=>⟨h.1.trans (hb.mono bB),Df h.2.1 bB hb,Df h.2.2.1 bB hb,h.2.2.2⟩) (fun s A A' h hb=>⟨h.1.trans (hb.mono bB),Df h.2.1 bB hb,h.2.2⟩)
  (fun s A h=>HR.o.keeps (Aa.of_below h.1 [])) ⟨Y,b1,b3,rfl⟩
  (fun x b=>{ tmps:=#[pH #[pF a N c,I_ next],p_ w 0,p1 w 0,p2 w 0,UD,p_ b 0,pH #[pF a N c,I_ next],.func (.func 179) #[] #[pG (some (A3 w 0))],I_ (x.2:Int),pH (N_ x.1),UD,UD,UD,UD,UD,UD,UD,UD,UD,UD,UD],defers:=[] })
  (fun x=>.cells (N_ x.1) 147) ?assign ?body ?done ?stop
 case assign=>
  intro l x W K hK;unfold Mf;gi_wp2;exact hK
 case body=>
  rintro l E x b W ⟨M,hI⟩ T hb aj;obtain⟨hk,ar,rfl⟩:=MB T;obtain⟨k,hkk⟩:=eX E.length;have hkL:k<L.length:=by rw [<- HM.o.len,<- hkk];exact hk
  have aa:=HM.o.get E.length hk lU;obtain⟨y,hy⟩:=eX (V[E.length]);obtain⟨s,hs⟩:=eX (L[k]);have hm:Oh w y s:=by
   simp only [hkk] at aa hy;rw [hy,hs] at aa;exact aa
  clear aa;have hb2:Blk W b 147 (N_ y):=by
   have:=aj;simp only [hy] at this;exact this
  simp only [hy];have O:(E++[(y,E.length)]).length=k+1:=by rw [Al,hkk];rfl
  rw [hy] at T;clear aj;have HS:Hi (L[k]? = some s):=lH kF;have ag:=lH O;have ac:=lH hkk;have hs1:w.heap.size+4<=W0.heap.size:=bB;clear hs O ar hk T hkL hy hkk af Y bp;have al:=hm.2.1;obtain⟨X,c3,ab⟩:=hI;obtain⟨u,hu⟩:=eX y.used;obtain⟨la,ae⟩:=eX (EQ (L.take E.length));rw [ae] at c3;have d2:W.cell? (A_ b 2)=some (I_ u):=by rw [<- hu];exact hb2.cell 2
  have e1:W.cell? (A1 w 0)=some (pI false):=X.cell 0;have f1:=X.frozen 0;have e3:W.cell? (A2 w 0)=some (I_ la):=c3.cell 0;have f3:=c3.frozen 0;have HI:=lH ab;have HB:=lH M;have HC:=lH X;have ao:=lH c3;have ad:=lH ae;have U:Hi (u=s.used):=lH (by rw [<- hu];exact al);have HU:=lH hu;clear hm M X c3 ab hb2 al ae hu;by_cases hq1:u<la
  ·have F:Hy la s=false:=by unfold Hy;rw [<- U.o];simp;omega
   have J:=lH F;clear F;gi_wp2;exact⟨CA.setCell (p:=A1 w 0) bH _ _,HB.o.setCell (p:=A1 w 0) bH _,HC.o.set_ 0 _,NS HS.o (by rw [<- ac.o,ad.o];exact J.o)⟩
  ·by_cases hq2:1000000000000<u
   ·have F:Hy la s=false:=by unfold Hy;rw [<- U.o];simp;omega
    have J:=lH F;clear F;gi_wp2;exact⟨CA.setCell (p:=A1 w 0) bH _ _,HB.o.setCell (p:=A1 w 0) bH _,HC.o.set_ 0 _,NS HS.o (by rw [<- ac.o,ad.o];exact J.o)⟩
   ·have ak:Hy la s=true:=by unfold Hy;rw [<- U.o];simp;omega
    have ap:=lH ak;clear ak;gi_wp2;refine⟨CA.setCell (p:=A2 w 0) bH _ _,HB.o.setCell (p:=A2 w 0) bH _,HC.o.far (p:=A2 w 0) bH _,?_,?_⟩
    ·rw [ag.o,TM HS.o,<- U.o];exact ao.o.set_ 0 _
    ·rw [ag.o,SA HS.o,<- ac.o,ad.o,ap.o,HI.o];rfl
 case done=>
  rintro D W hD ⟨M,hI⟩ hK;have aq:w.heap.size+4<=D:=bB;have am:V.zipIdx.length=L.length:=by rw [pZ];exact HM.o.len
  obtain rfl:B=true:=by rw [<- HBB.o];have:=hI.2.2;rwa [am,Ak (Aw _)] at this
  have X:=hI.1;have e1:W.cell? (A1 w 0)=some (pI false):=X.cell 0;have f1:=X.frozen 0;have HC:=lH (X.set_ 0 (pI true));have HB:=lH (M.setCell (p:=A1 w 0) bH (pI true));have ai:(W.setCell (A1 w 0) (pI true)).heap[D]? = some (.deferred (some [])):=by
   rw [Below.heap_setCell _ _ _ _ bH];exact hK
  clear hI X M hK af Y am;gi_wp2;refine⟨by simp,.inl ⟨_,_,rfl,run_takeDeferred ai,?_⟩⟩;have q1:=DZ HC.o (D:=D) bB;have q1:_=some (pI true):=q1;refine⟨pI true,by simp [results,results87,go_sem,q1],rfl,Aa.of_below (HB.o.trans (belowK_b (n₀:=w.heap.size) (w:=w) (Aw _) _ D _ _ bB ai rfl rfl)) []⟩
 case stop=>
  rintro D E W hD _ ⟨M,c2,hx⟩ hK;have aq:w.heap.size+4<=D:=bB;obtain rfl:B=false:=by rw [<- HBB.o];exact hx
  have HB:=lH M;clear M af Y;gi_wp2;refine⟨by simp,.inl ⟨_,_,rfl,run_takeDeferred hK,?_⟩⟩;have q1:=DZ c2 (D:=D) bB;refine⟨pI false,by simp [results,results87,go_sem,q1],rfl,Aa.of_below (HB.o.trans (belowK_b (n₀:=w.heap.size) (w:=w) (Aw _) _ D _ _ bB hK rfl rfl)) []⟩
theorem PM(a:Option Addr)(c:Nat)(next:Int)(V:List SV)(L:List Sn)(hV:V.length<=1000000)(w:World)(hR:F3 w a V)(hM:Mt w V L)(B:Bool)(O:CS next [] L=B):
  Calls prog 86 #[pH #[pF a V.length c,I_ next]] w fun r w'=>r = pJ (pI B)/\Aa [] w w':=by
 refine(callsIn_wide (n:=9)).1 ?_;have HBB:=lH O;have HR:=lH hR;have HM:=lH hM;obtain⟨N,hN⟩:=eX V.length;have HN:=lH hN;rw [hN] at hV ⊢;clear O hR hM hN;have az:=fun W=>run_makeMap (P:=prog) 107 W;refine callsIn_of_wp_marks func86 rfl trivial ?_ rfl;simp only [ntmps86,Cz,Av,D4,pL,pM,Bt,Bu,Cd,BD,BH,AL];gi_wp2_with fail;refine⟨trivial,(callsIn_wide.2 (Hv _ _ _ _ _)).mono ?_⟩;rintro e w1 ⟨rfl,rfl⟩;gi_wp2_with fail;obtain⟨W0,F⟩:=eX ((((((w.alloc (.cells #[pF a N c,I_ next] 170)).alloc (.cells #[pI false] 4)).alloc (.map #[] 0)).alloc (.cells #[.map (some (w+1+1))] 107)).alloc (.cells #[pF a N c,I_ next] 170)));have ai:W0.heap.size=w.heap.size+5:=by rw [<- F];simp
 have aa:Below w w W0:=by
  rw [<- F];exact((((((Below.refl _ w).alloc (Aw _) _).alloc aW _).alloc aW _).alloc aW _).alloc aW _)
 have b0:Blk W0 (w.heap.size) 170 #[pF a N c,I_ next]:=by
  rw [<- F];exact((((Ar _ _ _ _ rfl).alloc _).alloc _).alloc _).alloc _
 have b1:Blk W0 (w+1) 4 #[pI false]:=by
  rw [<- F];exact((((Ar _ _ _ _ bA).alloc _).alloc _).alloc _)
 have bs:GK W0 (w+1+1) []:=by
  rw [<- F];refine⟨#[],0,?_,rfl⟩;rw [Below.heap_alloc _ _ _ bA,Below.heap_alloc _ _ _ bA];have:=pV ((w.alloc (.cells #[pF a N c,I_ next] 170)).alloc (.cells #[pI false] 4)) (.map #[] 0);simpa only [Eo] using this
 have b3:Blk W0 (w+1+1+1) 107 #[.map (some (w+1+1))]:=by
  rw [<- F];exact((Ar _ _ _ _ bA).alloc _)
 have bp:W0.cell? (A4 w 0)=some (pF a V.length c):=by
  rw [<- F,HN.o];exact(Ar _ 170 _ _ bA).cell 0
 rw [F];clear F;try clear az
 refine Fn rfl bB (gf:=179) (lb:=#[pG (some (A4 w 0))]) rfl trivial (enters_of func179 bC rfl) (Hw 8 (w+1+1+1+1) a c V lR W0 bp) (Below.refl _ _) (fun _=>rfl)
  (fun E A=>Below w w A/\Blk A (w+1) 4 #[pI false]/\Blk A (w+1+1+1) 107 #[.map (some (w+1+1))]/\Blk A w 170 #[pF a N c,I_ next]/\GK A (w+1+1) (L7 (L.take E.length))/\CS next [] (L.take E.length)=true) (fun E A=>Below w w A/\Blk A (w+1) 4 #[pI false]/\CS next [] L=false)
  (fun s A A' h hb=>⟨h.1.trans (hb.mono bB),Df h.2.1 bB hb,Df h.2.2.1 bB hb,Df h.2.2.2.1 bB hb,h.2.2.2.2.1.low bB hb,h.2.2.2.2.2⟩) (fun s A A' h hb=>⟨h.1.trans (hb.mono bB),Df h.2.1 bB hb,h.2.2⟩)
  (fun s A h=>HR.o.keeps (Aa.of_below h.1 [])) ⟨aa,b1,b3,b0,bs,rfl⟩
  (fun x b=>{ tmps:=#[pH #[pF a N c,I_ next],p_ w 0,p1 w 0,p3 w 0,UD,p_ b 0,.map (some (w+1+1)),pH #[pF a N c,I_ next],.func (.func 179) #[] #[pG (some (A4 w 0))],I_ (x.2:Int),pH (N_ x.1),UD,UD,UD,UD,UD,UD,UD,UD,UD,UD,UD,UD,UD,UD,UD,UD,UD,UD,UD,UD],defers:=[] })
  (fun x=>.cells (N_ x.1) 147) ?assign ?body ?done ?stop
 case assign=>
  intro l x W K hK;unfold Mf;gi_wp2;exact hK
 case body=>
  rintro l E x b W ⟨O,hI⟩ U hb an;obtain⟨hk,a0,rfl⟩:=MB U;obtain⟨k,hkk⟩:=eX E.length;have hkL:k<L.length:=by rw [<- HM.o.len,<- hkk];exact hk
  have ab:=HM.o.get E.length hk lU;obtain⟨y,hy⟩:=eX (V[E.length]);obtain⟨s,hs⟩:=eX (L[k]);have hm:Oh w y s:=by
   simp only [hkk] at ab hy;rw [hy,hs] at ab;exact ab
  clear ab;have hb2:Blk W b 147 (N_ y):=by
   have:=an;simp only [hy] at this;exact this
  simp only [hy];have T:(E++[(y,E.length)]).length=k+1:=by rw [Al,hkk];rfl
  rw [hy] at U;clear an;have HS:Hi (L[k]? = some s):=lH kF;have aj:=lH T;have af:=lH hkk;have hs1:w.heap.size+5<=W0.heap.size:=bB;clear hs T a0 hk U hkL hy hkk ai aa bp;have ao:=hm.1;obtain⟨Y,c3,c0,J,ae⟩:=hI;obtain⟨u,hu⟩:=eX y.cur;obtain⟨la,ah⟩:=eX (L7 (L.take E.length));rw [ah] at J;have d0:W.cell? (A_ b 0)=some (I_ u):=by rw [<- hu];exact hb2.cell 0
  have e1:W.cell? (A1 w 0)=some (pI false):=Y.cell 0;have f1:=Y.frozen 0;have e3:W.cell? (A3 w 0)=some (.map (some (w+1+1))):=c3.cell 0;have e0:W.cell? (A_ w 1)=some (I_ next):=c0.cell 1;have hlk:=J.look u;have HI:=lH ae;have HB:=lH O;have HC:=lH Y;have ar:=lH c3;have HC0:=lH c0;have ac:=lH J;have ag:=lH ah;have M:Hi (u=s.cur):=lH (by rw [<- hu];exact ao);clear hm O Y c3 c0 ae hb2 ao ah hu J;have ak:JZ next la s=false->ZA W0 (fun E A=>Below w w A/\Blk A (w+1) 4 #[pI false]/\Blk A (w+1+1+1) 107 #[.map (some (w+1+1))]/\Blk A w 170 #[pF a N c,I_ next]/\GK A (w+1+1) (L7 (L.take E.length))/\CS next [] (L.take E.length)=true) (fun E A=>Below w w A/\Blk A (w+1) 4 #[pI false]/\CS next [] L=false) (E++[(y,E.length)]) W .ret { tmps:=#[],defers:=[] } (W.setCell (A1 w 0) (pI false)):=fun am=>
   ⟨CA.setCell (p:=A1 w 0) bH _ _,HB.o.setCell (p:=A1 w 0) bH _,HC.o.set_ 0 _,Vx next HS.o (by rw [<- af.o,ag.o];exact am)⟩
  have HFIN:=lH ak;clear ak;cases hq0:la.contains u with
  | true=>
   rw [hq0] at hlk;have G:Hi (JZ next la s=false):=lH (by unfold JZ;rw [<- M.o,hq0];rfl);clear hq0;gi_wp2;exact HFIN.o G.o
  | false=>
   rw [hq0] at hlk;by_cases hq1:u<1
   ·have G:Hi (JZ next la s=false):=lH (by unfold JZ;rw [<- M.o];simp;omega)
    clear hq0;gi_wp2;exact HFIN.o G.o
   ·by_cases hq2:next<=u
    ·have G:Hi (JZ next la s=false):=lH (by unfold JZ;rw [<- M.o];simp;omega)
     clear hq0;gi_wp2;exact HFIN.o G.o
    ·have au:Hi (JZ next la s=true):=lH (by unfold JZ;rw [<- M.o,hq0];simp;omega)
     obtain⟨o,bb,X⟩:=ac.o.update u hq0;have av:=lH X;have ad:w.heap.size+1+1<W.heap.size:=by obtain⟨es,cc,hx,_⟩:=ac.o;exact(Ai.1 hx).1
     have a4:=lH ad;clear hq0 X ad;gi_wp2;refine⟨CA.putObj bB _ _,HB.o.trans ((Below.refl _ W).grown (grownBy_putObj' W _ _) HB.o.size (fun j e=>by cases e;omega)),?_,?_,?_,?_,?_⟩
     ·exact(AM bB).trans HC.o
     ·exact(AM bB).trans ar.o
     ·exact(AM bB).trans HC0.o
     ·rw [aj.o,Yf HS.o,<- af.o,ag.o,<- M.o];exact av.o
     ·rw [aj.o,SZ next HS.o,<- af.o,ag.o,au.o,HI.o];rfl
 case done=>
  rintro D W hD ⟨O,hI⟩ hK;have ay:w.heap.size+5<=D:=bB;have ap:V.zipIdx.length=L.length:=by rw [pZ];exact HM.o.len
  obtain rfl:B=true:=by rw [<- HBB.o];have:=hI.2.2.2.2;rwa [ap,Ak (Aw _)] at this
  have Y:=hI.1;have e1:W.cell? (A1 w 0)=some (pI false):=Y.cell 0;have f1:=Y.frozen 0;have HC:=lH (Y.set_ 0 (pI true));have HB:=lH (O.setCell (p:=A1 w 0) bH (pI true));have al:(W.setCell (A1 w 0) (pI true)).heap[D]? = some (.deferred (some [])):=by
   rw [Below.heap_setCell _ _ _ _ bH];exact hK
  clear hI Y O hK ai aa ap;gi_wp2;refine⟨by simp,.inl ⟨_,_,rfl,run_takeDeferred al,?_⟩⟩;have q1:=DZ HC.o (D:=D) bB;have q1:_=some (pI true):=q1;refine⟨pI true,by simp [results,results86,go_sem,q1],rfl,Aa.of_below (HB.o.trans (belowK_b (n₀:=w.heap.size) (w:=w) (Aw _) _ D _ _ bB al rfl rfl)) []⟩
 case stop=>
  rintro D E W hD _ ⟨O,c2,hx⟩ hK;have ay:w.heap.size+5<=D:=bB;obtain rfl:B=false:=by rw [<- HBB.o];exact hx
  have HB:=lH O;clear O ai aa;gi_wp2;refine⟨by simp,.inl ⟨_,_,rfl,run_takeDeferred hK,?_⟩⟩;have q1:=DZ c2 (D:=D) bB;refine⟨pI false,by simp [results,results86,go_sem,q1],rfl,Aa.of_below (HB.o.trans (belowK_b (n₀:=w.heap.size) (w:=w) (Aw _) _ D _ _ bB hK rfl rfl)) []⟩
end
section
open Go.RowKit Go.Shelf
attribute [local go_sem ↓] wp_at_zero wp_at_succ
def Jd:Array Value:=#[.func (.func 85) #[] #[],.func (.func 86) #[] #[],.func (.func 87) #[] #[],.func (.func 88) #[] #[]]
theorem Wk(a:Option Addr)(c:Nat)(V:List SV)(p:Po)(n:Nat)(hn:V.length=n)(Y:Nat)(ty:TypeId)(w:World)(hP:BP w a c V p)(hf:Blk w Y ty Jd)(R:Bool)(hR:Ej p=R):
  Calls prog 84 #[pH #[pF a n c,I_ p.next],pF (some (A_ Y 0)) 4 4] w fun r w'=>r = pJ (pI R)/\Aa [] w w':=by
 obtain⟨x,hx⟩:=eX p.next;have T:=lH hx;have HN:=lH hn;have HP:=lH hP;have HR:=lH hR;rw [hx];have D:=lH (hf.alloc (.cells #[pF a n c,I_ x] 170));have HB:=lH (Blk.new w 170 #[pF a n c,I_ x]);have HK:=lH ((Aa.refl [] w).alloc (.cells #[pF a n c,I_ x] 170));obtain⟨y1,h1⟩:=eX (Hk p);have O:=lH h1;obtain⟨y2,h2⟩:=eX (CS x [] p.l);have H2:=lH h2;obtain⟨y3,h3⟩:=eX (BV 0 p.l);have U:=lH h3;obtain⟨y4,h4⟩:=eX (Fx p.l);have X:=lH h4;clear hP hf hR h1 h2 h3 h4 hx hn;go_enter func84,ntmps84;go_wp2;refine wp_loop_rounds 5 ?_;rw [rounds_succ];have E:=D.o.cell 0;have F:=D.o.cell 1;have G:=D.o.cell 2;have J:=D.o.cell 3;simp only [Jd,An,Aj,Ao] at E F G J;have M:=HB.o.ce 0;have N:=HB.o.ce 1;go_wp2_with fail;have B:=fun W=>Rg a c p n (by rw [<- HP.o.mt.len,HN.o]) (by rw [<- HN.o];exact HP.o.small) y1 O.o W;rw [T.o] at B;refine(B _).mono ?_;clear B;rintro r w1 ⟨rfl,hk⟩;clear E F G J M N;have D:=lH (D.o.keeps hk bA);have HB:=lH (HB.o.keeps hk bA);have HK:=lH (HK.o.trans hk);clear hk;cases y1 with
 | false=>
  obtain rfl:R=false:=by rw [<- HR.o];unfold Ej;rw [T.o,O.o];simp
  go_wp2;go_ret;exact⟨rfl,HK.o⟩
 | true=>
  go_wp2_with fail;rw [rounds_succ];have E:=D.o.cell 0;have F:=D.o.cell 1;have G:=D.o.cell 2;have J:=D.o.cell 3;simp only [Jd,An,Aj,Ao] at E F G J;have M:=HB.o.ce 0;have N:=HB.o.ce 1;go_wp2_with fail;have B:=fun W (hk:Aa [] w W)=>PM a c x V p.l HP.o.small W (HP.o.row.keeps hk) (HP.o.mt.keeps hk) y2 H2.o;rw [HN.o] at B;refine(B _ HK.o).mono ?_;clear B;rintro r w2 ⟨rfl,hk⟩;clear E F G J M N;have D:=lH (D.o.keeps hk bA);have HB:=lH (HB.o.keeps hk bA);have HK:=lH (HK.o.trans hk);clear hk;cases y2 with
  | false=>
   obtain rfl:R=false:=by rw [<- HR.o];unfold Ej;rw [T.o,O.o,H2.o];simp
   go_wp2;go_ret;exact⟨rfl,HK.o⟩
  | true=>
   go_wp2_with fail;rw [rounds_succ];have E:=D.o.cell 0;have F:=D.o.cell 1;have G:=D.o.cell 2;have J:=D.o.cell 3;simp only [Jd,An,Aj,Ao] at E F G J;have M:=HB.o.ce 0;have N:=HB.o.ce 1;go_wp2_with fail;have B:=fun W (hk:Aa [] w W)=>Om a c x V p.l HP.o.small W (HP.o.row.keeps hk) (HP.o.mt.keeps hk) y3 U.o;rw [HN.o] at B;refine(B _ HK.o).mono ?_;clear B;rintro r w3 ⟨rfl,hk⟩;clear E F G J M N;have D:=lH (D.o.keeps hk bA);have HB:=lH (HB.o.keeps hk bA);have HK:=lH (HK.o.trans hk);clear hk;cases y3 with
   | false=>
    obtain rfl:R=false:=by rw [<- HR.o];unfold Ej;rw [T.o,O.o,H2.o,U.o];simp
    go_wp2;go_ret;exact⟨rfl,HK.o⟩
   | true=>
    go_wp2_with fail;rw [rounds_succ];have E:=D.o.cell 0;have F:=D.o.cell 1;have G:=D.o.cell 2;have J:=D.o.cell 3;simp only [Jd,An,Aj,Ao] at E F G J;have M:=HB.o.ce 0;have N:=HB.o.ce 1;go_wp2_with fail;have B:=fun W (hk:Aa [] w W)=>PO a c x V p.l HP.o.small W (HP.o.row.keeps hk) (HP.o.mt.keeps hk) y4 X.o;rw [HN.o] at B;refine(B _ HK.o).mono ?_;clear B;rintro r w4 ⟨rfl,hk⟩;clear E F G J M N;have D:=lH (D.o.keeps hk bA);have HB:=lH (HB.o.keeps hk bA);have HK:=lH (HK.o.trans hk);clear hk;cases y4 with
    | false=>
     obtain rfl:R=false:=by rw [<- HR.o];unfold Ej;rw [T.o,O.o,H2.o,U.o,X.o];simp
     go_wp2;go_ret;exact⟨rfl,HK.o⟩
    | true=>
     obtain rfl:R=true:=by rw [<- HR.o];unfold Ej;rw [T.o,O.o,H2.o,U.o,X.o];rfl
     go_wp2_with fail;rw [rounds_succ];go_wp2;go_ret;exact⟨rfl,HK.o⟩
theorem Nx(a:Option Addr)(c:Nat)(V:List SV)(p:Po)(n:Nat)(hn:V.length=n)(w:World)(hP:BP w a c V p)(R:Bool)(hR:Ej p=R):
  Calls prog 38 #[pH #[pF a n c,I_ p.next]] w fun r w'=>r = pJ (pI R)/\Aa [] w w':=by
 obtain⟨x,hx⟩:=eX p.next;have hk:=((Aa.refl [] w).alloc (.cells #[pF a n c,I_ x] 32)).alloc (.cells Jd 172);have B:=fun W E (hf:Blk W E 172 Jd) (hkk:Aa [] w W)=>Wk a c V p n hn E 172 W (hP.keeps hkk) hf R hR;rw [hx] at B ⊢;have D:=lH B;have HK:=lH hk;have F:=lH (Ar (w.alloc (.cells #[pF a n c,I_ x] 32)) 172 Jd (w+1) bA);clear B hk hx hP hR hn;go_enter func38,ntmps38;go_wp2_with fail;refine(D.o _ _ F.o HK.o).mono ?_;rintro r w1 ⟨rfl,hk⟩;have HK:=lH (HK.o.trans hk);clear hk;go_wp2;go_ret;exact⟨rfl,HK.o⟩
def M1(w:World)(e:Nat->Addr):Prop:=∃E,Ge w 402 [3,10,11] E/\e 0=E 3/\e 1=E 10/\e 2=E 11
theorem M1.keep{w w':World}{e:Nat->Addr}(h:M1 w e)(hk:Aa [] w w'):M1 w' e:=by
 obtain⟨E,h1,h2⟩:=h;exact⟨E,h1.keep hk,h2⟩
theorem M1.c0{w:World}{e:Nat->Addr}(h:M1 w e):w.cell? (A_ 3 0)=some (.iface 402 (pG (some (e 0)))):=by
 obtain⟨E,h1,h2,_⟩:=h;rw [h2];exact h1.cell 3 bA
theorem M1.c1{w:World}{e:Nat->Addr}(h:M1 w e):w.cell? (A_ 10 0)=some (.iface 402 (pG (some (e 1)))):=by
 obtain⟨E,h1,_,h2,_⟩:=h;rw [h2];exact h1.cell 10 bA
theorem M1.c2{w:World}{e:Nat->Addr}(h:M1 w e):w.cell? (A_ 11 0)=some (.iface 402 (pG (some (e 2)))):=by
 obtain⟨E,h1,_,_,h2⟩:=h;rw [h2];exact h1.cell 11 bA
def ZQ:Option Nat->Int
 | none=>0
 | some 0=>160
 | some 1=>2
 | some _=>161
theorem JD(x:Option Nat)(e:Nat->Addr)(hx:∀y,x=some y->y<3)(w:World)(h:M1 w e)(q:Int)(hq:ZQ x=q):
  Calls prog 207 #[Jj e x] w fun r w'=>r = pJ (I_ q)/\w=w':=by
 have N:=h.c0;have O:=h.c1;have c2:=h.c2;have hg:∀g,g<3->∀b,(x==some g)=b->Calls prog 229 #[Jj e x,.iface 402 (pG (some (e g)))] w fun r w'=>r = pJ (pI b)/\w=w':=fun g hg b hb=>by
  obtain⟨E,h1,G,e1,J⟩:=h;have F:x=none\/x=some 0\/x=some 1\/x=some 2:=by
   cases x with
   | none=>exact .inl rfl
   | some y=>
    have:=hx y rfl;have B:y=0\/y=1\/y=2:=bB;rcases B with rfl | rfl | rfl<;>simp
  have D:g=0\/g=1\/g=2:=bB;rcases F with rfl | rfl | rfl | rfl<;>rcases D with rfl | rfl | rfl<;>subst hb<;>simp only [Jj,G,e1,J]
  ·exact DM h1 none 3 bA bA _ rfl
  ·exact DM h1 none 10 bA bA _ rfl
  ·exact DM h1 none 11 bA bA _ rfl
  ·exact DM h1 (some 3) 3 bA bA _ bE
  ·exact DM h1 (some 3) 10 bA bA _ bE
  ·exact DM h1 (some 3) 11 bA bA _ bE
  ·exact DM h1 (some 10) 3 bA bA _ bE
  ·exact DM h1 (some 10) 10 bA bA _ bE
  ·exact DM h1 (some 10) 11 bA bA _ bE
  ·exact DM h1 (some 11) 3 bA bA _ bE
  ·exact DM h1 (some 11) 10 bA bA _ bE
  ·exact DM h1 (some 11) 11 bA bA _ bE
 have HG:=lH hg;have M:x=none\/x=some 0\/x=some 1\/x=some 2:=by
  cases x with
  | none=>exact .inl rfl
  | some y=>
   have:=hx y rfl;have B:y=0\/y=1\/y=2:=bB;rcases B with rfl | rfl | rfl<;>simp
 clear hg h hx;go_enter func207,ntmps207;go_wp2_with fail;rcases M with rfl | rfl | rfl | rfl
 all_goals subst hq
 ·refine(HG.o 1 bB false rfl).mono ?_
  rintro r w' ⟨rfl,rfl⟩;go_wp2_with fail;refine(HG.o 0 bB false rfl).mono ?_;rintro r w' ⟨rfl,rfl⟩;go_wp2_with fail;refine(HG.o 2 bB false rfl).mono ?_;rintro r w' ⟨rfl,rfl⟩;go_wp2_with fail;go_ret;exact⟨rfl,rfl⟩
 ·refine(HG.o 1 bB false rfl).mono ?_
  rintro r w' ⟨rfl,rfl⟩;go_wp2_with fail;refine(HG.o 0 bB true rfl).mono ?_;rintro r w' ⟨rfl,rfl⟩;go_wp2_with fail;go_ret;exact⟨rfl,rfl⟩
 ·refine(HG.o 1 bB true rfl).mono ?_
  rintro r w' ⟨rfl,rfl⟩;go_wp2_with fail;go_ret;exact⟨rfl,rfl⟩
 ·refine(HG.o 1 bB false rfl).mono ?_
  rintro r w' ⟨rfl,rfl⟩;go_wp2_with fail;refine(HG.o 0 bB false rfl).mono ?_;rintro r w' ⟨rfl,rfl⟩;go_wp2_with fail;refine(HG.o 2 bB true rfl).mono ?_;rintro r w' ⟨rfl,rfl⟩;go_wp2_with fail;go_ret;exact⟨rfl,rfl⟩
theorem L6(a:Option Addr)(c:Nat)(V:List SV)(p:Po)(n:Nat)(hn:V.length=n)(now:Int)(w:World)(hP:BP w a c V p)(e:Nat->Addr)(he:M1 w e)(R:Bool)(hR:Db p now=R):
  Calls prog 206 #[pH #[pF a n c,I_ p.next],I_ now] w fun r w'=>r = pJ (Jj e (if R then none else some 0))/\Aa [] w w':=by
 obtain⟨x,hx⟩:=eX p.next;have hk:=(Aa.refl [] w).alloc (.cells #[pF a n c,I_ x] 32);have hb:=Blk.new w 32 #[pF a n c,I_ x];obtain⟨y,hy⟩:=eX (Ej p);obtain⟨u,hu⟩:=eX (EQ p.l);have B:=fun W (hkk:Aa [] w W)=>Nx a c V p n hn W (hP.keeps hkk) y hy;have D:=fun W (hkk:Aa [] w W)=>YO a c x V hP.small W (hP.row.keeps hkk) u ((Wr hP.mt).trans hu);rw [hx] at B ⊢;rw [hn] at D;have F:=lH B;have G:=lH D;have HE:=lH he;have HK:=lH hk;have HB:=lH hb;have E:=lH hy;have HU:=lH hu;have HR:=lH hR;have J:=hb.cell 0;have M:=hb.cell 1;clear B D he hk hb hy hu hR hP hx hn;go_enter func206,ntmps206;go_wp2_with fail;refine(F.o _ HK.o).mono ?_;rintro r w1 ⟨rfl,hk⟩;have HK:=lH (HK.o.trans hk);clear hk J M;cases y with
 | false=>
  obtain rfl:R=false:=by rw [<- HR.o];unfold Db;rw [E.o];rfl
  have N:=(HE.o.keep HK.o).c0;go_wp2;go_ret;exact⟨rfl,HK.o⟩
 | true=>
  go_wp2_with fail;refine(G.o _ HK.o).mono ?_;rintro r w2 ⟨rfl,hk⟩;have HK:=lH (HK.o.trans hk);clear hk;have N:=(HE.o.keep HK.o).c0;by_cases h1:now<u
  ·obtain rfl:R=false:=by rw [<- HR.o];unfold Db;rw [E.o,HU.o];simp;omega
   go_wp2;go_ret;exact⟨rfl,HK.o⟩
  ·by_cases h2:1000000000000<now
   ·obtain rfl:R=false:=by rw [<- HR.o];unfold Db;rw [E.o,HU.o];simp;omega
    go_wp2;go_ret;exact⟨rfl,HK.o⟩
   ·obtain rfl:R=true:=by rw [<- HR.o];unfold Db;rw [E.o,HU.o];simp;omega
    go_wp2;go_ret;exact⟨rfl,HK.o⟩
theorem ZL:(prog.info? 9).map (fun i=>(i.zero,i.size,i.bytes))=some (some (Dz ⟨#[]⟩),1,16):=bC
theorem P3:(prog.info? 147).map (fun i=>(i.zero,i.size,i.bytes))=some (some (pH #[pE pK 0,pF none 0 0,I_ 0]),3,40):=bC
theorem wpList_append_run{P:Program}(w:World){ops:Array Oper}{rest:List Oper}{o:Oper}{a:Act}{Q:Exit->Act->World->Prop}(hgd:o.guard=none)(s x:Operand)(t:TypeId)
 (ho:o.op = .call { callee:=.builtin .append,args:=#[s,x],argTypes:=#[t,t] }){v u v':Value}{w':World}(hs:a.eval s=v)(hx:a.eval x=u)
 (hr:(BI #[t,t] o.type #[v,u]).run P w = .ok v' w')(h:wpList P ops Q rest (a.put o.dst v') w'):wpList P ops Q (o::rest) a w:=by
 refine wpList_plain hgd fun K hK=>?_;unfold Oper.wp execOp;simp only [ho,resolve,invoke,builtin,Sem.run_bind,Sem.run_pure,Result.andThen_ok,List.map_toArray,CR,List.map_nil,hs,hx,hr];exact hK _ _ h
theorem J0{w:World}{B:Nat}{v:Value}{xs:List ByteArray}(h:w.ownsRow B 9 1 v xs.length (xs.map Dz))(E:xs.length<=1000000)(hsz:∀x∈xs,x.size<=maxLen):
  ∃a c,v = pF a xs.length c/\Cy w a c xs:=by
 rcases h.2 with⟨rfl,h0⟩ | ⟨g,c,cur,rfl,hb,hg,hn,G,hs,F⟩
 ·obtain rfl:=Ds h0
  exact⟨none,0,rfl,Aw _,fun hn=>absurd rfl hn,by simp,by simp,fun _=>rfl⟩
 ·refine⟨_,c,rfl,hn,fun _=>⟨g,0,cur,(0,0),rfl,hg,fun i hi=>?_⟩,E,hsz,fun e=>by cases e⟩
  have D:Blk w g 9 cur:=hg;rw [D.cell,AW];have h1:(xs.map Dz)[i]? = some (Dz xs[i]):=by rw [List.getElem?_map,Aq hi];rfl
  rw [<- F,Dh,if_pos bB] at h1;simpa using h1
def Fr(B:Nat)(a:Option Addr)(n:Nat):Prop:=∀g off,a=some ⟨g,off,none⟩->0<n->B<=g
theorem Fr.none(B n:Nat):Fr B none n:=fun _ _ h=>by cases h
theorem Fr.down{B B':Nat}{a:Option Addr}{n:Nat}(h:Fr B a n)(hb:B'<=B):Fr B' a n:=fun g off e h0=>A8 hb (h g off e h0)
theorem Wg{w:World}{B:Nat}{a:Option Addr}{n c:Nat}{xs:List Value}(h:w.ownsRow B 9 1 (pF a n c) n xs):Fr B a n:=fun g off e h0=>by
 rcases h.2 with⟨h1,rfl⟩ | ⟨g',c',cur,h1,hb,_⟩
 ·omega
 ·injection h1 with h1 _ _
  rw [e] at h1;injection h1 with h1
  injection h1 with h1 _ _
  rw [h1];exact hb
theorem FL(g off j:Nat):((A_ g off):Addr).add j=(A_ g (off+j)):=by
 unfold Addr.add;split<;>simp_all
theorem QP{W:World}{B:Nat}{v:Value}{ys:List ByteArray}(hv:W.ownsRow B 9 1 v ys.length (ys.map Dz))(O:B<=W.heap.size){a:Option Addr}{c:Nat}{xs:List ByteArray}(h:Cy W a c xs)(hy:ys.length<=1000000)(J:TypeId):
  ∃v' W',(BI #[64,64] J #[v,pF a xs.length c]).run prog W = .ok v' W'/\W'.ownsRow B 9 1 v' (ys++xs).length ((ys++xs).map Dz)/\W.grownBy W' v.ownBlock:=by
 obtain⟨M,hi,E,F,G⟩:=info_parts ZL;have U:=h.small;rw [Al,pO];cases a with
 | none=>
  have hn:xs = []:=by
   apply Classical.byContradiction;intro hn;obtain⟨g,off,cs,N,e,_⟩:=h.at_ hn;cases e
  subst hn;rw [h.nil rfl];have:=run_append_owned_none (P:=prog) (w:=W) B 64 J 9 M 1 underlying64 hi v ys.length _ hv;exact⟨v,W,this,by simpa using hv,⟨rfl,rfl,rfl,Aw _,fun _ _ _=>rfl⟩⟩
 | some p=>
  have T:∀j u,(xs.map Dz)[j]? = some u->W.cell? (p.add j)=some u:=fun j u hj=>by
   have D:j<xs.length:=by have:=(Ad.1 hj).1;simpa using this
   obtain⟨g,off,cs,N,e,_,hat⟩:=h.at_ (by rintro rfl;simp at D);injection e with e
   subst e;rw [FL,hat j D];rw [List.getElem?_map,Aq D] at hj;exact hj
  obtain⟨v',W',h1,h2,h3,_⟩:=run_append_own (P:=prog) W B 64 J 9 M _ 1 16 underlying64 hi E F G rfl bE v ys.length _ hv p xs.length c (xs.map Dz) bA T (by intro u hu;obtain⟨_,_,rfl⟩:=BO.1 hu;rfl) bZ bB O;exact⟨v',W',h1,h2,h3⟩
theorem Gy(a:Option Addr)(c:Nat)(xs:List ByteArray)(n:Nat)(hn:xs.length=n)(w:World)(h:Cy w a c xs):
  Calls prog 64 #[pF a n c] w fun r w'=>∃a' c',r = pJ (.slice a' n c')/\Cy w' a' c' xs/\Aa [] w w'/\Fr w a' n:=by
 cases a with
 | none=>
  have hx:xs = []:=by
   apply Classical.byContradiction;intro hn;obtain⟨g,off,cs,E,e,_⟩:=h.at_ hn;cases e
  subst hx;subst hn;obtain rfl:=h.nil rfl;have H:=lH h;clear h;have h0:Calls prog 64 #[pF none 0 0] w fun r w'=>r = pJ (pF none 0 0)/\w=w':=by
   clear H;have hq:=fun W=>AK (P:=prog) W _ _ none 0 0 0 0 underlying64;go_enter func64,ntmps64;go_wp2;go_ret;exact⟨rfl,rfl⟩
  refine h0.mono ?_;rintro r w' ⟨rfl,rfl⟩;exact⟨none,0,rfl,H.o,Aa.refl [] w,Fr.none _ _⟩
 | some p=>
  have hrow:(w.alloc (.cells #[] 9)).ownsRow w 9 1 (pF (some (A_ w 0)) 0 0) 0 []:=by
   have:=World.ownsRow_lit (base:=w.heap.size) (e:=9) (size:=1) w #[] 0 (Aw _) bZ rfl;simpa using this
  have hk0:=(Aa.refl [] w).alloc (.cells #[] 9);obtain⟨v',W',hr,B,hg⟩:=QP (ys:=[]) hrow bA (h.keeps hk0) bA 64;rw [BH] at B;obtain⟨a',c',rfl,hs⟩:=J0 B h.small h.size;have hk:Aa [] w W':=hk0.grown hg (fun k hk=>by
   simp [EZ] at hk;exact .inr bB)
  have hfr:=Wg B;rw [hn] at hr hfr;have D:=lH hfr;have HS:=lH hs;have HK:=lH hk;clear hs hk B hg hrow hk0 h hfr;have h0:Calls prog 64 #[pF (some p) n c] w fun r w'=>r = pJ (.slice a' n c')/\W'=w':=by
   clear HS HK D;have hq:=fun W=>AK (P:=prog) W _ _ (some p) n c 0 0 underlying64;go_enter func64,ntmps64;go_wp2_with (at_builtin;refine wpList_append_run _ rfl _ _ 64 rfl rfl rfl hr ?_);go_ret;exact⟨rfl,rfl⟩
  refine h0.mono ?_;rintro r w' ⟨rfl,rfl⟩;exact⟨a',c',rfl,HS.o,HK.o,D.o⟩
structure D7(B:Nat)(W W':World):Prop where
 low:Below B W W'
 strs:∀(k:Nat) (cs:Array Value) (fz:Nat×Nat),W.heap[k]? = some (Obj.cells cs 9 fz)→W'.heap[k]? = some (Obj.cells cs 9 fz)
theorem D7.refl(B:Nat)(W:World):D7 B W W:=⟨Below.refl B W,fun _ _ _ h=>h⟩
theorem D7.trans{B:Nat}{X Y Z:World}(h:D7 B X Y)(k:D7 B Y Z):D7 B X Z:=⟨h.low.trans k.low,fun i cs fz hi=>k.strs i cs fz (h.strs i cs fz hi)⟩
theorem D7.of_keeps{B:Nat}{W W':World}(h:Aa [] W W')(hB:B<=W.heap.size):D7 B W W':=
 ⟨h.below hB bA,fun k _ _ hk=>(h.block k (Ai.1 hk).1 bA).trans hk⟩
theorem D7.of_one{B g:Nat}{W W':World}(h:Aa [g] W W')(hB:B<=W.heap.size)(hg:B<=g)(hn:∃cs,W.heap[g]? = some (.cells cs 147 (0,0))):D7 B W W':=
 ⟨h.below hB (by simp;exact hg),fun k cs fz hk=>(h.block k (Ai.1 hk).1 (by
  simp;rintro rfl;obtain⟨c2,h2⟩:=hn;rw [h2] at hk;injection hk with hk
  injection hk with _ h3 _
  exact absurd h3 bE)).trans hk⟩
theorem EF.strK{B:Nat}{w w':World}{a:Option Addr}{L:List ByteArray}(h:EF w a L)(hk:D7 B w w'):EF w' a L:=fun hn=>by
 obtain⟨g,off,cs,fz,ha,hg,hat⟩:=h hn;have hg':=hk.strs g cs fz hg;exact⟨g,off,cs,fz,ha,hg',fun i hi=>(BL (a:=A_ g (off+i)) (hg'.trans hg.symm)).trans (hat i hi)⟩
theorem Cy.strK{B:Nat}{w w':World}{a:Option Addr}{c:Nat}{xs:List ByteArray}(h:Cy w a c xs)(hk:D7 B w w'):Cy w' a c xs:=⟨h.le,h.at_.strK hk,h.small,h.size,h.nil⟩
theorem Oh.strK{B:Nat}{w w':World}{v:SV}{s:Sn}(h:Oh w v s)(hk:D7 B w w'):Oh w' v s:=⟨h.1,h.2.1,h.2.2.1,h.2.2.2.strK hk⟩
theorem Mt.strK{B:Nat}{w w':World}(hk:D7 B w w'):∀ {V:List SV} {L:List Sn},Mt w V L->Mt w' V L
 | [],[],_=>trivial
 | _::_,_::_,h=>⟨h.1.strK hk,Mt.strK hk h.2⟩
 | [],_::_,h=>h.elim
 | _::_,[],h=>h.elim
structure U5(W:World)(g off n:Nat):Prop where
 blk:∃cs,W.heap[g]? = some (.cells cs 147 (0,0))
 cells:∀j,j<n→(W.cell? ⟨g,off+j,none⟩).isSome=true
def Cx(W:World)(g off:Nat)(vs:List Value):Prop:=∀j (h:j<vs.length),W.cell? ⟨g,off+j,none⟩=some vs[j]
theorem U5.lt{W:World}{g off n:Nat}(h:U5 W g off n):g<W.heap.size:=by obtain⟨cs,h⟩:=h.blk;exact(Ai.1 h).1
theorem U5.frozen{W:World}{g off n:Nat}(h:U5 W g off n)(j:Nat):W.frozen? (A_ g j)=false:=by
 obtain⟨cs,h⟩:=h.blk;exact Blk.frozen (show Blk W g 147 cs from h) j
theorem U5.same{W W':World}{g off n:Nat}(h:U5 W g off n)(hb:W'.heap[g]? = W.heap[g]?):U5 W' g off n:=by
 obtain⟨⟨cs,h1⟩,h2⟩:=h;exact⟨⟨cs,hb.trans h1⟩,fun j hj=>by rw [BL (a:=A_ g (off+j)) hb];exact h2 j hj⟩
theorem Cx.same{W W':World}{g off:Nat}{vs:List Value}(h:Cx W g off vs)(hb:W'.heap[g]? = W.heap[g]?):Cx W' g off vs:=fun j hj=>by
 rw [BL (a:=A_ g (off+j)) hb];exact h j hj
theorem KZ{t:TypeId}{z:Nat×Nat}(b:Nat):∀(vs:List Value) (o:Nat) (W:World) (g:Nat),(∃cs,W.heap[g]? = some (.cells cs t z))->∃cs,(W.setCells b o vs).heap[g]? = some (.cells cs t z)
 | [],_,_,_,h=>h
 | v::vs,o,W,g,⟨cs,h⟩=>by
  refine KZ b vs (o+1) _ g ?_;by_cases e:g=b
  ·subst e
   exact⟨cs.setIfInBounds o v,by simp [World.setCell,Array.getElem?_modify,h]⟩
  ·exact⟨cs,(Below.heap_setCell W (A_ b o) v g e).trans h⟩
theorem II(b:Nat):∀(vs:List Value) (o:Nat) (W:World) (x:Addr),(W.cell? x).isSome=true->((W.setCells b o vs).cell? x).isSome=true
 | [],_,_,_,h=>h
 | v::vs,o,W,x,h=>by
  refine II b vs (o+1) _ x ?_;by_cases e:x=(A_ b o)
  ·subst e
   obtain⟨u,hu⟩:=C6.1 h;rw [World.cell?_setCell_same _ _ _ hu];rfl
  ·rw [World.cell?_setCell_other _ _ _ _ (by simpa using Ne.symm e)];exact h
theorem U5.setCells{W:World}{g off n:Nat}(h:U5 W g off n)(o:Nat)(vs:List Value):U5 (W.setCells g o vs) g off n:=
 ⟨KZ g vs o W g h.blk,fun j hj=>II g vs o W _ (h.cells j hj)⟩
theorem Bb(g o:Nat)(vs:List Value)(W:World):Aa [g] W (W.setCells g o vs):=Aa.setCells (.inl bA) vs o (Aa.refl [g] W)
def Da(W:World)(B:Nat)(v:Value)(V:List SV):Prop:=(v = pF none 0 0/\V = [])\/
 ∃g off cap,v = pF (some ⟨g,off,none⟩) V.length cap/\B<=g/\U5 W g off (cap*3)/\V.length<=cap/\cap<=maxLen/\Cx W g off (V.flatMap SV.cells)
theorem Da.keeps{W W':World}{B:Nat}{v:Value}{V:List SV}(h:Da W B v V)(hk:Aa [] W W'):Da W' B v V:=by
 rcases h with h | ⟨g,off,cap,h1,h2,h3,h4,D,E⟩
 ·exact .inl h
 ·have hb:=hk.block g h3.lt bA
  exact .inr ⟨g,off,cap,h1,h2,h3.same hb,h4,D,E.same hb⟩
theorem Ea:∀(V:List SV),(V.flatMap SV.cells).length=V.length*3
 | []=>rfl
 | s::V=>by rw [List.flatMap_cons,Al,Ea V,Av];simp [SV.cells];omega
theorem UK:∀(V:List SV) (i:Nat) (h:i<V.length),(V.flatMap SV.cells)[i*3]? = some (I_ V[i].cur)/\(V.flatMap SV.cells)[i*3+1]? = some (.slice V[i].ia V[i].il V[i].ic)/\(V.flatMap SV.cells)[i*3+2]? = some (I_ V[i].used)
 | x::L,0,_=>⟨rfl,rfl,rfl⟩
 | x::L,i+1,h=>by
  obtain⟨h0,h1,h2⟩:=UK L i bK;rw [List.flatMap_cons];have hl:x.cells.length=3:=rfl;refine⟨?_,?_,?_⟩
  ·rw [Ee bB,hl,show(i+1)*3 - 3=i*3 by omega,h0];rfl
  ·rw [Ee bB,hl,show(i+1)*3+1 - 3=i*3+1 by omega,h1];rfl
  ·rw [Ee bB,hl,show(i+1)*3+2 - 3=i*3+2 by omega,h2];rfl
theorem Cx.get{W:World}{g off:Nat}{B:List Value}(h:Cx W g off B){j:Nat}{u:Value}(hj:B[j]? = some u):W.cell? (A_ g (off+j))=some u:=by
 obtain⟨hl,rfl⟩:=Ad.1 hj;exact h j hl
theorem Da.row{W:World}{B:Nat}{v:Value}{V:List SV}(h:Da W B v V):∃a c,v = pF a V.length c/\V.length<=c/\F3 W a V:=by
 rcases h with⟨rfl,rfl⟩ | ⟨g,off,cap,rfl,h2,h3,h4,J,D⟩
 ·exact⟨none,0,rfl,Aw _,fun h=>absurd rfl h⟩
 ·obtain⟨cs,E⟩:=h3.blk
  refine⟨_,cap,rfl,h4,fun _=>⟨g,off,cs,(0,0),rfl,E,fun i hi=>?_⟩⟩;obtain⟨F,f1,G⟩:=UK V i hi;exact⟨D.get F,by rw [EA];exact D.get f1,by rw [EA];exact D.get G⟩
theorem Pp(V:List SV):∀u∈V.flatMap SV.cells,u.oneCell'=true:=by
 intro u hu;obtain⟨f,_,h⟩:=E6.1 hu;simp only [SV.cells,Ac,Ab,or_false] at h;rcases h with rfl | rfl | rfl<;>rfl
def QB:Value->List Nat
 | pF (some a) _ _=>[a.block]
 | _=>[]
theorem Da.pushK{W:World}{B:Nat}{v:Value}{V:List SV}(h:Da W B v V)(hl:V.length<=1000)(hB:B<=W.heap.size)(b:Nat)(x:SV)(hg:Blk W b 147 x.arr)(ty:TypeId):
  ∃v' W',(BI #[30,30] ty #[v,pF (some (A_ b 0)) 1 1]).run prog W = .ok v' W'/\Da W' B v' (V++[x])/\D7 B W W'/\Aa (QB v) W W':=by
 obtain⟨X,hi,aj,F,ak⟩:=info_parts P3;have T:Src prog X.size 30 (pF (some (A_ b 0)) 1 1) 1 x.cells W:=
  Src.ofSlice W underlying30 _ 1 1 _ (by rw [F];rfl) (fun j u hj=>by
   rw [FL,hg.cell,AW];have:x.arr[j]? = x.cells[j]?:=by simp [SV.arr,SV.cells]
   rw [this];exact hj) (fun u hu=>Pp [x] u (by simpa using hu))
 have J:(V++[x]).flatMap SV.cells=V.flatMap SV.cells++x.cells:=bA;have U:(V.flatMap SV.cells).length=V.length*3:=Ea V;have N:∀(a:Option Addr) (E D:Nat) (G:List Value),E=V.length->G=V.flatMap SV.cells->D<E+1->D<=1000->(Builtin.firstCells X.size E (pF a E D)).run prog W.drew = .ok G.toArray W.drew->
   ∃v' W',(BI #[30,30] ty #[pF a E D,pF (some (A_ b 0)) 1 1]).run prog W = .ok v' W'/\Da W' B v' (V++[x])/\D7 B W W'/\∀S,Aa S W W':=by
  rintro a E D G rfl rfl Y ao ac;have O:=run_append_grow_src (P:=prog) W 30 30 ty 147 X _ underlying30 hi aj a V.length D _ ac _ 1 _ T Y bB (by
   rw [ak];exact growslice_fits bB bB)
  obtain⟨c,hc⟩:=eX (grownCap W (V.length+1) D 147);have ab:V.length+1<=c:=by rw [<- hc];exact grownCap_ge _ _ _ _
  have ai:c<=maxLen:=by rw [<- hc];exact grownCap_le_maxLen _ _ _ _ bZ
  rw [hc] at O;refine⟨_,_,O,?_,?_⟩
  ·obtain⟨A,hA⟩:=eX (((V.flatMap SV.cells++x.cells).toArray++AN (pH #[pE pK 0,pF none 0 0,I_ 0]).cells (c - (V.length+1))))
   have an:A.size=c*3:=by
    rw [<- hA];simp only [Array.size_append,Cz,Al,U];have:x.cells.length=3:=rfl;rw [this,size_zeroCells];have:(pH #[pE pK 0,pF none 0 0,I_ 0]).cells.size=3:=rfl;rw [this];omega
   rw [hA];have hb:=Blk.new W.drew 147 A;refine .inr ⟨W,0,c,by simp,hB,⟨⟨A,hb⟩,fun j hj=>?_⟩,by simpa using ab,ai,fun j hj=>?_⟩
   ·have:=hb.cell (0+j)
    rw [show W.drew.heap.size=W.heap.size from rfl] at this;rw [this,Array.getElem?_eq_getElem bB];rfl
   ·have:=hb.cell (0+j)
    rw [show W.drew.heap.size=W.heap.size from rfl] at this;rw [this,<- hA,AW];have M:j<(V.flatMap SV.cells++x.cells).length:=by rw [<- J];exact hj
    rw [Array.getElem?_append_left (by simpa using M)];simp only [An];rw [Aq M]
    congr 1
    simp only [J]
  ·exact⟨⟨(Below.refl B W).drew.alloc hB _,fun k cs fz hk=>(Below.heap_alloc W.drew _ k (Ai.1 hk).1).trans hk⟩,fun S=>(Aa.refl S W).drew.alloc _⟩
 rcases h with⟨rfl,rfl⟩ | ⟨g,off,cap,rfl,h2,h3,h4,h5,h6⟩
 ·obtain⟨v',W',h1,h2,h3,h4⟩:=N none 0 0 [] rfl rfl bB bB (run_firstCells_none W.drew X.size 0 0 0)
  exact⟨v',W',h1,h2,h3,h4 _⟩
 ·by_cases hroom:V.length+1<=cap
  ·have ah:∀j,j<x.cells.length->V.length*3+j<cap*3:=fun j hj=>by have:x.cells.length=3:=rfl;omega
   have aa:∀j,j<x.cells.length->(W.cell? (A_ g (off+V.length*3+j))).isSome=true:=fun j hj=>by
    have:=h3.cells (V.length*3+j) (ah j hj)
    rwa [<- EA] at this
   refine⟨_,_,run_append_room_src (P:=prog) W 30 30 ty 147 X underlying30 hi g off V.length cap _ 1 _ T hroom (fun j hj=>by rw [F];exact aa j hj) (fun j hj=>h3.frozen _),?_,?_⟩
   ·rw [F]
    refine .inr ⟨g,off,cap,by simp,h2,h3.setCells _ _,by simpa using hroom,h5,fun j hj=>?_⟩;have M:j<(V.flatMap SV.cells++x.cells).length:=by rw [<- J];exact hj
    have he:((V++[x]).flatMap SV.cells)[j]=(V.flatMap SV.cells++x.cells)[j]:=by simp only [J]
    rw [he];rcases pP j (V.length*3) with hlt | ab
    ·rw [World.cell?_setCells_out _ _ _ _ _ (fun _ _=>.inl bH),List.getElem_append_left bB]
     exact h6 j bB
    ·obtain⟨r,rfl⟩:∃r,j=V.length*3+r:=⟨j - V.length*3,by omega⟩
     rw [<- EA,World.cell?_setCells_in g x.cells (off+V.length*3) W aa r (by simp only [Al,U] at M;omega),List.getElem_append_right bB]
     congr 2
     omega
   ·rw [F]
    exact⟨D7.of_one (Bb g _ _ W) hB h2 h3.blk,Bb g _ _ W⟩
  ·have ag:cap=V.length:=bB;subst ag;obtain⟨v',W',q1,q2,q3,q4⟩:=N (some (A_ g off)) V.length V.length (V.flatMap SV.cells) rfl rfl bB bB (run_firstCells_some W.drew X.size V.length _ _ _ _ (by rw [F,U]) (fun j u hj=>by
    rw [FL];exact h6.get hj))
   exact⟨v',W',q1,q2,q3,q4 _⟩
theorem Da.push{W:World}{B:Nat}{v:Value}{V:List SV}(h:Da W B v V)(hl:V.length<=1000)(E:B<=W.heap.size)(b:Nat)(x:SV)(hg:Blk W b 147 x.arr)(D:TypeId):
  ∃v' W',(BI #[30,30] D #[v,pF (some (A_ b 0)) 1 1]).run prog W = .ok v' W'/\Da W' B v' (V++[x])/\D7 B W W':=by
 obtain⟨v',W',h1,h2,h3,_⟩:=h.pushK hl E b x hg D;exact⟨v',W',h1,h2,h3⟩
theorem DS{α:Type}{L:List α}{k:Nat}{s:α}(h:L[k]? = some s):L.take (k+1)=L.take k++[s]:=by
 obtain⟨hk,rfl⟩:=Ad.1 h;rw [BJ hk]
def SO(B:Nat)(v:SV):Prop:=Fr B v.ia v.il
theorem YZ(a:Option Addr)(c:Nat)(V:List SV)(L:List Sn)(n:Nat)(hn:V.length=n)(hs:n<=1000)(w:World)(hR:F3 w a V)(hM:Mt w V L):
  Calls prog 210 #[pF a n c] w fun r w'=>∃v V',r = pJ v/\Da w' w v V'/\Mt w' V' L/\Below w w w'/\∀x∈V',SO w x:=by
 have HR:=lH hR;have HM:=lH hM;have HN:=lH hn;clear hR hM hn;go_enter func210,ntmps210;go_wp2;go_loopw [3,8] (fun u i wr=>∃(k:Nat) (V':List SV),k<=n/\i = I_ k/\V'.length=k/\Hi (Da wr w u V')/\Hi (Mt wr V' (L.take k))/\Hi (Below w w wr)/\Hi (∀x∈V',SO w x)) (fun _ i _=>n - (intOf i).toNat)
 case atStart=>exact⟨0,[],Ba _,rfl,rfl,lH (.inl ⟨rfl,rfl⟩),lH trivial,lH (Below.refl _ w),lH (fun x hx=>by cases hx)⟩
 case round=>
  obtain⟨k,V',hk,rfl,ac,HS,HT,HB,HF⟩:=hrel;have HVK:=lH ac;clear ac;by_cases hlt:k<n
  ·have hk1:k<V.length:=by rw [HN.o];exact hlt
   have hkL:k<L.length:=by rw [<- HM.o.len];exact hk1
   have hm:=HM.o.get k hk1 hkL;obtain⟨g,off,ar,av,rfl,X,hat⟩:=HR.o gC;have hg:=(Ai.1 X).1;clear X;obtain⟨y,hy⟩:=eX (V[k]);obtain⟨s,M⟩:=eX (L[k]);have q1:=hat k hk1;rw [hy] at q1 hm;rw [M] at hm;obtain⟨p0,p1,p2⟩:=q1;have hkw:=Aa.of_below HB.o [];rw [<- hkw.cell (by exact hg) bA] at p0 p1 p2;have i1:(0:Int)<=(k:Int):=bB;have i2:(k:Int)<(n:Int):=bB;have hb:=Blk.new wr 147 (N_ y);have d1:=hb.cell 1;have hk0:=(Aa.refl [] wr).alloc (.cells (N_ y) 147);have HST:=lH (hm.2.2.2.keeps (hkw.trans hk0));have N:=lH hm.2.2.1;have O:=lH hm;have aj:Hi (L[k]? = some s):=lH (by rw [Aq hkL,M]);have ae:=lH hb;have HK0:=lH hk0;clear hat hy M hm hkw hb hk0 hk1 hkL;go_wp2_with fail;refine(Gy y.ia y.ic s.items y.il N.o.symm _ HST.o).mono ?_;rintro r w2 ⟨E,F,rfl,hst,J,hfr⟩;have ag:=lH (hfr.down (B':=w.heap.size) (by have:=HB.o.size;simp;omega));clear hfr;have T:=lH hst;have hb2:=ae.o.keeps J bA;have e0:=hb2.cell 0;have e1:=hb2.cell 1;have e2:=hb2.cell 2;have f1:=hb2.frozen 1;have HB2:=lH (hb2.set_ 1 (.slice E y.il F));have HK2:=lH ((HK0.o.trans J).setCell (p:=A_ wr 1) (.inr (Aw _)) (.slice E y.il F));have ah:=lH (Aa.setCell (S:=[wr.heap.size]) (Aa.refl _ w2) (p:=A_ wr 1) (.inl bA) (.slice E y.il F));have ak:Hi (ID w2 [wr.heap.size]):=lH (fun k hk cs fz h=>by
    simp at hk;subst hk;have h':w2.heap[wr.heap.size]? = some (.cells (N_ y) 147 (0,0)):=hb2;rw [h'] at h;injection h with h;injection h with _ h3 _
    exact absurd h3 bE)
   clear hst J hb2 d1 p0 p1 p2;obtain⟨x,hx⟩:∃x:SV,x=⟨y.cur,E,y.il,F,y.used⟩:=⟨_,rfl⟩;have hx1:Oh (w2.setCell (A_ wr 1) (.slice E y.il F)) x s:=by
    rw [hx];exact⟨O.o.1,O.o.2.1,N.o,T.o.keepsS ah.o ak.o⟩
   have hk4:=(Aa.refl [] (w2.setCell (A_ wr 1) (.slice E y.il F))).alloc (.cells x.arr 147);have hsz:w.heap.size<=wr.heap.size:=HB.o.size;have ab:=(HS.o.keeps HK2.o).keeps hk4;obtain⟨v9,w9,B,aa,hk9⟩:=ab.push mB (by have:=HK2.o.size;simp [World.setCell] at this ⊢;omega) _ x (Blk.new (w2.setCell (A_ wr 1) (.slice E y.il F)) 147 x.arr) 30;have Y:Mt w9 (V'++[x]) (L.take (k+1)):=by
    rw [DS aj.o];exact((HT.o.keeps HK2.o).keeps hk4 |>.strK hk9).app ⟨(hx1.keeps hk4).strK hk9,trivial⟩
   have U:Below w w w9:=(HB.o.trans ((HK2.o.trans hk4).below hsz bA)).trans hk9.low;rw [hx] at B;simp only [SV.arr] at B;rw [show(w2.setCell (A_ wr 1) (.slice E y.il F)).heap.size=w2.heap.size by simp [World.setCell]] at B;have al:=lH aa;have G:=lH Y;have ad:=lH U;have g0:=HB2.o.cell 0;have g1:=HB2.o.cell 1;have g2:=HB2.o.cell 2;simp only [Ap,AB,AA,An,Aj,Ao] at g0 g1 g2;have D:(V'++[x]).length=k+1:=by rw [Al,HVK.o];rfl
   have ai:=lH D;have af:Hi (∀z∈V'++[x],SO w z):=lH (fun z hz=>by
    rcases AQ.1 hz with hz | hz
    ·exact HF.o z hz
    ·obtain rfl:=Ag.1 hz
     rw [hx];exact ag.o)
   clear hx1 hk4 ab aa hk9 Y U D hx;go_wp2_with (at_builtin;refine wpList_append_run _ rfl _ _ 30 rfl rfl rfl B ?_);go_roundw;case rel=>exact⟨k+1,V'++[x],by omega,by go_num,ai.o,al,G,ad,af⟩
   case measure=>simp [intOf];omega
  ·obtain rfl:k=n:=bB;have ht:L.take k=L:=Ak (by rw [<- HM.o.len,HN.o];exact Aw _);have hm:=HT.o;rw [ht] at hm;have G:=lH hm;clear ht hm;go_wp2;go_ret;exact⟨_,V',rfl,HS.o,G.o,HB.o,HF.o⟩
def Ei(now:Int)(x:SV):Bool:=decide (now - x.used<1000)
def Ha(t:Int):Prop:=-1000000000000<=t/\t<=1000000000000
theorem JH(x:SV)(hu:Ha x.used)(now:Int)(hn:Ha now)(pb:Nat)(b:Bool)(hb:Ei now x=b)(w:World)(hp:w.cell? (A_ pb 0)=some (I_ now)):
  Calls prog 208 #[pH (N_ x),p_ pb 0] w fun r w'=>r = pJ (pI (!b))/\Aa [] w w':=by
 obtain⟨u,D⟩:=eX x.used;unfold Ei at hb;rw [D] at hb hu ⊢;obtain⟨u1,M⟩:=hu;obtain⟨G,J⟩:=hn;have E:(w.alloc (.cells #[pE pK x.cur,pF x.ia x.il x.ic,I_ u] 147)).cell? (A_ pb 0)=some (I_ now):=by
  rw [Cs w _ _ (Be w _ hp)];exact hp
 have B:=Blk.new w 147 #[pE pK x.cur,pF x.ia x.il x.ic,I_ u];have F:=B.cell 2;clear B hp;have hw:IntKind.i64.wrap (now - u)=now - u:=IntWalk.i64_in _ bB;clear D;by_cases h:now - u<1000
 ·obtain rfl:b=true:=by rw [<- hb];exact decide_eq_true h
  have h1:¬(1000:Int)<=now - u:=bB;clear hb h;go_enter func208,ntmps208;go_wp2;go_ret;exact⟨rfl,(Aa.refl [] w).alloc _⟩
 ·obtain rfl:b=false:=by rw [<- hb];exact decide_eq_false h
  have h1:(1000:Int)<=now - u:=bB;clear hb h;go_enter func208,ntmps208;go_wp2;go_ret;exact⟨rfl,(Aa.refl [] w).alloc _⟩
def jB(now:Int)(V:List SV)(i:Int):Prop:=(i = -1/\V.all (Ei now)=true)\/∃(k:Nat) (x:SV),i=k/\V[k]? = some x/\(V.take k).all (Ei now)=true/\Ei now x=false
theorem Ni(a:Option Addr)(c:Nat)(V:List SV)(n:Nat)(hn:V.length=n)(hs:n<=1000)(now:Int)(D:Ha now)(hu:∀x∈V,Ha x.used)(pb:Nat)(w:World)(hp:w.cell? (A_ pb 0)=some (I_ now))(hR:F3 w a V):
  Calls prog 243 #[pF a n c,.func (.func 208) #[] #[pG (some (A_ pb 0))]] w fun r w'=>∃i:Int,r = pJ (I_ i)/\jB now V i/\Aa [] w w':=by
 have HR:=lH hR;have HN:=lH hn;have X:=lH D;have HU:=lH hu;have J:=Be w _ hp;have HP:=lH hp;have T:=lH J;clear hR hn D hu hp J;go_enter func243,ntmps243;go_wp2;go_loopw [5,8] (fun _ i wr=>∃k:Nat,k<=n/\i = I_ k/\Hi ((V.take k).all (Ei now)=true)/\Hi (Aa [] w wr)) (fun _ i _=>n - (intOf i).toNat)
 case atStart=>exact⟨0,Ba _,rfl,lH rfl,lH (Aa.refl [] w)⟩
 case round=>
  obtain⟨k,hk,rfl,N,HK⟩:=hrel;by_cases hlt:k<n
  ·have hk1:k<V.length:=by rw [HN.o];exact hlt
   obtain⟨g,off,ab,ac,rfl,G,hat⟩:=HR.o gC;have hg:=(Ai.1 G).1;clear G;obtain⟨x,hx⟩:=eX (V[k]);have q1:=hat k hk1;rw [hx] at q1;obtain⟨U,p1,p2⟩:=q1;rw [<- HK.o.cell (by exact hg) bA] at U p1 p2;have i1:(0:Int)<=(k:Int):=bB;have i2:(k:Int)<(n:Int):=bB;have Y:Hi (V[k]? = some x):=lH (by rw [Aq hk1,hx]);have F:Hi (Ha x.used):=lH (HU.o x kG);have E:Hi (wr.cell? (A_ pb 0)=some (I_ now)):=lH ((HK.o.cell T.o bA).trans HP.o);clear hat hx hk1;cases hr:Ei now x with
   | true=>
    have O:Hi ((V.take (k+1)).all (Ei now)=true):=lH (by rw [DS Y.o,List.all_append,N.o];simp [hr]);have M:=lH hr;clear hr;go_wp2_with fail;refine(JH x F.o now X.o pb true M.o _ E.o).mono ?_;rintro r w2 ⟨rfl,hk2⟩;have HK2:=lH (HK.o.trans hk2);clear hk2 U p1 p2;go_wp2;go_roundw;case rel=>exact⟨k+1,by omega,by go_num,O,HK2⟩
    case measure=>simp [intOf];omega
   | false=>
    have M:=lH hr;clear hr;go_wp2_with fail;refine(JH x F.o now X.o pb false M.o _ E.o).mono ?_;rintro r w2 ⟨rfl,hk2⟩;have HK2:=lH (HK.o.trans hk2);clear hk2 U p1 p2;go_wp2;go_ret;exact⟨_,rfl,.inr ⟨k,x,rfl,Y.o,N.o,M.o⟩,HK2.o⟩
  ·obtain rfl:k=n:=bB;have B:=N.o;rw [Ak bL] at B;have HA:=lH B;clear B;go_wp2;go_ret;exact⟨_,rfl,.inl ⟨rfl,HA.o⟩,HK.o⟩
def J4:List Value:=[pE pK 0,pF none 0 0,pE pK 0]
def E0:Nat->List Value
 | 0=>[]
 | n+1=>J4++E0 n
theorem I9:∀n,(E0 n).length=n*3
 | 0=>rfl
 | n+1=>by unfold E0;rw [Al,I9 n];simp [J4];omega
theorem Og:∀n,∀u∈E0 n,u.oneCell'=true
 | 0,_,h=>by cases h
 | n+1,u,h=>by
  unfold E0 at h;rcases AQ.1 h with h | h
  ·simp only [J4,Ac,Ab,or_false] at h
   rcases h with rfl | rfl | rfl<;>rfl
  ·exact Og n u h
theorem Xs(W:World):(zeroValue 147).run prog W = .ok (pH #[pE pK 0,pF none 0 0,I_ 0]) W:=bC
theorem Xt(n:Nat):(AN (pH #[pE pK 0,pF none 0 0,I_ 0]).cells n).toList=E0 n:=by
 have B:(pH #[pE pK 0,pF none 0 0,I_ 0]).cells=#[pE pK 0,pF none 0 0,I_ 0]:=rfl;have hz:∀n j,j<n*3->(E0 n)[j]? = some (#[pE .i64 0,pF none 0 0,I_ 0][j % 3]!):=by
  intro n;induction n with
  | zero=>intro j hj;omega
  | succ n ih=>
   intro j hj;unfold E0;rcases pP j 3 with h | h
   ·have:j=0\/j=1\/j=2:=bB;rcases this with rfl | rfl | rfl<;>rfl
   ·rw [Ee (by simp [J4];omega)]
    have:J4.length=3:=rfl;rw [this,ih (j - 3) bB,show(j - 3) % 3=j % 3 by omega]
 rw [B];apply List.ext_getElem?;intro j;rcases pP j (n*3) with h | h
 ·rw [hz n j h]
  simp [AN,h]
 ·rw [List.getElem?_eq_none (l:=E0 n) (by rw [I9];exact h),List.getElem?_eq_none (by simp [AN];omega)]
theorem IM(W:World)(E:TypeId)(g o n c:Nat)(hn:0<n)(D:∀j,j<n*3->(W.cell? (A_ g (o+j))).isSome=true)(hf:∀j,j<n*3->W.frozen? (A_ g (o+j))=false):
  (Builtin.clear_ #[30] E #[pF (some (A_ g o)) n c]).run prog W = .ok (.tuple #[]) (W.setCells g o (E0 n)):=by
 have hst:=run_storeCells_cells (P:=prog) g o (E0 n) 0 W (by simpa [I9] using D) (by simpa [I9] using hf) (Og n);simp only [AT] at hst;have B:=Xt n;obtain⟨m,rfl⟩:∃m,n=m+1:=⟨n - 1,by omega⟩;simp only [Builtin.clear_,An,Aj,Sem.run_bind,run_underlying underlying30,Result.andThen_ok,Xs,B,hst,Sem.run_pure]
theorem FF(W:World):(sizeOf (prog.elem 30)).run prog W = .ok 3 W:=bC
theorem FE:prog.underlying 30=some (.slice (prog.elem 30)):=bC
theorem Fw(W:World)(g off n cap l:Nat)(h1:l<=n)(h2:l<cap):
  (AV 30 (pF (some (A_ g off)) n cap) (some (I_ (l:Int))) none none).run prog W = .ok (pF (some (A_ g (off+l*3))) (n - l) (cap - l)) W:=by
 have h:=run_slice_l (P:=prog) W 30 (some (A_ g off)) n cap FE .i64 l bB bB;rw [h,FF];simp [sliced,show ¬cap=l by omega,FL,Bg]
theorem Lb(W:World)(g off n cap l:Nat)(h2:l<=cap):
  (AV 30 (pF (some (A_ g off)) n cap) none (some (I_ (l:Int))) none).run prog W = .ok (pF (some (A_ g off)) l cap) W:=by
 have h:=run_slice_h (P:=prog) W 30 (some (A_ g off)) n cap FE .i64 l bB bB;rw [h,FF];simp [sliced,FL,Bg]
theorem Nb{α:Type}{p:α->Bool}{l:List α}(h:l.all p=true):l.filter p=l:=List.filter_eq_self.2 (by simpa [Bm] using h)
theorem Cx.app{W:World}{g off:Nat}{a b:List Value}(h1:Cx W g off a)(h2:Cx W g (off+a.length) b):Cx W g off (a++b):=fun j hj=>by
 rcases pP j a.length with h | h
 ·rw [List.getElem_append_left h];exact h1 j h
 ·rw [List.getElem_append_right h]
  have:=h2 (j - a.length) (by rw [Al] at hj;omega)
  rwa [show off+a.length+(j - a.length)=off+j by omega] at this
theorem Cx.left{W:World}{g off:Nat}{a b:List Value}(h:Cx W g off (a++b)):Cx W g off a:=fun j hj=>by
 have:=h j (by rw [Al];omega)
 rwa [List.getElem_append_left hj] at this
theorem Cx.right{W:World}{g off:Nat}{a b:List Value}(h:Cx W g off (a++b)):Cx W g (off+a.length) b:=fun j hj=>by
 have:=h (a.length+j) (by rw [Al];omega);rw [List.getElem_append_right bB] at this;rw [EA,this]
 congr 2
 omega
theorem Cx.out{W:World}{g off o:Nat}{vs ws:List Value}(h:Cx W g off vs)(ho:off+vs.length<=o\/o+ws.length<=off):Cx (W.setCells g o ws) g off vs:=fun j hj=>by
 rw [World.cell?_setCells_out _ _ _ _ _ (fun _ _=>by dsimp only;omega)];exact h j hj
theorem Cx.into{W:World}{g o:Nat}{vs:List Value}(h:∀j,j<vs.length->(W.cell? (A_ g (o+j))).isSome=true):Cx (W.setCells g o vs) g o vs:=fun j hj=>World.cell?_setCells_in g vs o W h j hj
theorem PW(v:Value)(V:List SV)(B:Nat)(hs:V.length<=1000)(now:Int)(X:Ha now)(hu:∀x∈V,Ha x.used)(pb:Nat)(w:World)(hB:B<=w.heap.size)(a7:pb<B)(hp:w.cell? (A_ pb 0)=some (I_ now))(hR:Da w B v V):
  Calls prog 209 #[v,.func (.func 208) #[] #[pG (some (A_ pb 0))]] w fun r w'=>∃v',r = pJ v'/\Da w' B v' (V.filter (Ei now))/\D7 B w w':=by
 obtain⟨a0,c0,rfl,a4,hrow⟩:=hR.row;obtain⟨n,hn⟩:=eX V.length;rw [hn] at hs hR ⊢;have HI:=lH (Ni a0 c0 V n hn hs now X hu pb w hp hrow);have HR:=lH hR;have HN:=lH hn;have HT:=lH X;have HU:=lH hu;have HP:=lH hp;clear hR hn X hu hp hrow a4;go_enter func209,ntmps209;go_wp2_with fail;refine HI.o.mono ?_;rintro r w1 ⟨i,rfl,aw,hk1⟩;clear HI;have HK1:=lH hk1;rcases aw with⟨rfl,ab⟩ | ⟨k0,x0,rfl,ak,ax,av⟩
 ·have HF:=lH (Nb ab)
  clear ab hk1;go_wp2;go_ret;exact⟨_,rfl,by rw [HF.o];exact HR.o.keeps HK1.o,D7.of_keeps HK1.o hB⟩
 ·have hne:((k0:Int) == -1)=false:=bA;have bm:k0<n:=by rw [<- HN.o];exact(Ad.1 ak).1
  have au:(V.take (k0+1)).filter (Ei now)=V.take k0:=by
   rw [DS ak,E5,Nb ax];simp [av]
  rcases(HR.o.keeps hk1) with⟨_,hnil⟩ | ⟨g,off,cap,hv,hg,hseg,hlc,hcm,his⟩
  ·exact absurd HN.o (by rw [hnil];simp;omega)
  ·injection hv with e1 e2 e3
   subst e1;subst e3;clear e2;rw [HN.o] at hlc;have ac:Cx w1 g off ((V.take k0).flatMap SV.cells):=by
    have:=his;rw [<- Dn k0 V,BY] at this;exact this.left
   have ad:Cx w1 g (off+(k0+1)*3) ((V.drop (k0+1)).flatMap SV.cells):=by
    have:=his;rw [<- Dn (k0+1) V,BY] at this;have h2:=this.right
    rwa [Ea,Ax,DE (by rw [HN.o];omega)] at h2
   have az:=lH au;have a1:=lH ac;have HSD:=lH ad;have HSG:=lH hseg;have HST:=lH (D7.of_keeps hk1 hB);have ae:(V.take k0).length=k0:=by rw [Ax,HN.o];omega
   have HK0:=lH ae;clear ak ax av au his ac ad hseg hk1 ae;go_wp2;go_loopw [5,6] (fun i j wr=>∃(E D:Nat) (K:List SV),i = I_ E/\j = I_ D/\E<D/\D<=n/\Hi (K.length=E)/\Hi ((V.take D).filter (Ei now)=K)/\Hi (Cx wr g off (K.flatMap SV.cells))/\Hi (Cx wr g (off+D*3) ((V.drop D).flatMap SV.cells))/\Hi (U5 wr g off (c0*3))/\Hi (D7 B w wr)) (fun _ j _=>n - (intOf j).toNat)
   case atStart=>exact⟨k0,k0+1,V.take k0,rfl,by go_num,by omega,by omega,HK0,az,a1,HSD,HSG,HST⟩
   case round=>
    obtain⟨E,D,K,rfl,rfl,bj,bl,O,HKF,ah,a3,F,G⟩:=hrel;by_cases hlt:D<n
    ·have hk2:D<V.length:=by rw [HN.o];exact hlt
     obtain⟨x,hx⟩:=eX (V[D]);have ar:V.drop D=x::V.drop (D+1):=by rw [List.drop_eq_getElem_cons hk2,hx]
     have T:=a3.o;rw [ar,List.flatMap_cons] at T;have p0:wr.cell? (A_ g (off+D*3))=some (I_ x.cur):=T 0 nD;have p1:wr.cell? (A_ g (off+D*3+1))=some (pF x.ia x.il x.ic):=T 1 nD;have p2:wr.cell? (A_ g (off+D*3+2))=some (I_ x.used):=T 2 nD;have af:Cx wr g (off+(D+1)*3) ((V.drop (D+1)).flatMap SV.cells):=by
      have:=T.right
      rwa [show off+D*3+x.cells.length=off+(D+1)*3 by simp [SV.cells];omega] at this
     have Y:=lH af;have HX:Hi (V[D]? = some x):=lH (by rw [Aq hk2,hx]);have aq:Hi (Ha x.used):=lH (HU.o x kG);have i1:(0:Int)<=(D:Int):=bB;have i2:(D:Int)<(n:Int):=bB;have i3:(0:Int)<=(E:Int):=bB;have i4:(E:Int)<(n:Int):=bB;have hb:=Blk.new wr 147 (N_ x);have hk3:=(Aa.refl [] wr).alloc (.cells (N_ x) 147);have bq:w.heap.size<=wr.heap.size:=G.o.low.size;have am:Hi ((wr.alloc (.cells (N_ x) 147)).cell? (A_ pb 0)=some (I_ now)):=lH (by
      rw [Cs _ _ _ bH];exact(BL (a:=A_ pb 0) (G.o.low.block pb a7)).trans HP.o)
     have ay:=lH hb;have ag:=lH hk3;have d0:=hb.cell 0;have d1:=hb.cell 1;have d2:=hb.cell 2;clear T af ar hx hk2 hb hk3;cases hr:Ei now x with
     | false=>
      have HF:=lH hr;have J:Hi ((V.take (D+1)).filter (Ei now)=K):=lH (by rw [DS HX.o,E5,HKF.o];simp [hr]);clear hr;go_wp2_with fail;refine(JH x aq.o now HT.o pb false HF.o _ am.o).mono ?_;rintro r w2 ⟨rfl,N⟩;have HKC:=lH (ag.o.trans N);clear N p0 p1 p2 d0 d1 d2;go_wp2;go_roundw;case rel=>
       have hbk:=HKC.o.block g F.o.lt bA;exact⟨E,D+1,K,rfl,by go_num,by omega,by omega,O,J,lH (ah.o.same hbk),lH (Y.o.same hbk),lH (F.o.same hbk),lH (G.o.trans (D7.of_keeps HKC.o bB))⟩
      case measure=>simp [intOf];omega
     | true=>
      have HF:=lH hr;have J:Hi ((V.take (D+1)).filter (Ei now)=K++[x]):=lH (by rw [DS HX.o,E5,HKF.o];simp [hr]);clear hr;go_wp2_with fail;refine(JH x aq.o now HT.o pb true HF.o _ am.o).mono ?_;rintro r w2 ⟨rfl,N⟩;have hbk:=(ag.o.trans N).block g F.o.lt bA;have M:=F.o.same hbk;have U:=lH M;have an:=lH (ah.o.same hbk);have ao:=lH (Y.o.same hbk);have HKC:=lH (ag.o.trans N);have hb2:=ay.o.keeps N bA;have d0:=hb2.cell 0;have d1:=hb2.cell 1;have d2:=hb2.cell 2;obtain⟨u0,q0⟩:=C6.1 (M.cells (E*3) bB);obtain⟨u1,q1⟩:=C6.1 (M.cells (E*3+1) bB);obtain⟨u2,q2⟩:=C6.1 (M.cells (E*3+2) bB);rw [<- EA] at q1 q2;have f0:=M.frozen (off+E*3);have f1:=M.frozen (off+E*3+1);have f2:=M.frozen (off+E*3+2);clear N hbk M hb2 p0 p1 p2;go_wp2;go_roundw;case rel=>
       refine⟨E+1,D+1,K++[x],by go_num,by go_num,by omega,by omega,lH (by rw [Al,O.o];rfl),J,?_⟩;show Hi (Cx (w2.setCells g (off+E*3) x.cells) g off ((K++[x]).flatMap SV.cells))/\Hi (Cx (w2.setCells g (off+E*3) x.cells) g (off+(D+1)*3) _)/\Hi (U5 (w2.setCells g (off+E*3) x.cells) g off (c0*3))/\Hi (D7 B w (w2.setCells g (off+E*3) x.cells));have br:x.cells.length=3:=rfl;have a6:(K.flatMap SV.cells).length=E*3:=by rw [Ea,O.o]
       refine⟨lH ?_,lH (ao.o.out (.inr bB)),lH (U.o.setCells _ _),lH ((G.o.trans (D7.of_keeps HKC.o bB)).trans (D7.of_one (Bb g _ _ w2) (by have:=HKC.o.size;omega) hg U.o.blk))⟩;rw [BY];refine Cx.app (an.o.out (.inl bB)) ?_;rw [a6];have e : [x].flatMap SV.cells=x.cells:=bA;rw [e];exact Cx.into (fun j hj=>by have:=U.o.cells (E*3+j) bB;rwa [<- EA] at this)
      case measure=>simp [intOf];omega
    ·obtain rfl:D=n:=bB;have bp:=Fw wr g off D c0 E bB bB;have a5:=fun ty=>IM wr ty g (off+E*3) (D - E) (c0 - E) bB (fun j hj=>by
      have:=F.o.cells (E*3+j) bB
      rwa [<- EA] at this) (fun j _=>F.o.frozen _)
     obtain⟨W9,aj⟩:=eX (wr.setCells g (off+E*3) (E0 (D - E)));rw [aj] at a5;have bo:=Lb W9 g off D c0 E bB;have ai:=HKF.o;rw [Ak bL] at ai;have J:=lH ai;have ap:=lH aj;have i2:¬((D:Int)<(D:Int)):=bB;clear ai aj;go_wp2;go_ret;refine⟨pF (some (A_ g off)) E c0,rfl,?_,?_⟩
     ·rw [J.o,<- ap.o]
      refine .inr ⟨g,off,c0,by rw [O.o],hg,F.o.setCells _ _,by rw [O.o];omega,hcm,ah.o.out (.inl (by rw [Ea,O.o];omega))⟩
     ·rw [<- ap.o]
      exact G.o.trans (D7.of_one (Bb g _ _ wr) (by have:=G.o.low.size;omega) hg F.o.blk)
theorem NR(W:World)(g off n cap l h m:Nat)(h0:l<=h)(h1:h<=m)(h2:m<=cap):
  (AV 30 (pF (some (A_ g off)) n cap) (some (I_ (l:Int))) (some (I_ (h:Int))) (some (I_ (m:Int)))).run prog W = .ok (sliced (some (A_ g off)) l h m 3) W:=by
 have B:=run_slice_lhm (P:=prog) W 30 (some (A_ g off)) n cap FE .i64 .i64 .i64 l h m bB bB bB bB;rw [B,FF];rfl
theorem O5(W:World)(g off n cap l h:Nat)(h0:l<=h)(h1:h<=cap)(h2:l<cap):
  (AV 30 (pF (some (A_ g off)) n cap) (some (I_ (l:Int))) (some (I_ (h:Int))) none).run prog W = .ok (pF (some (A_ g (off+l*3))) (h - l) (cap - l)) W:=by
 have B:=run_slice_lh (P:=prog) W 30 (some (A_ g off)) n cap FE .i64 .i64 l h bB bB bB;rw [B,FF];simp [sliced,show ¬cap=l by omega,FL,Bg]
theorem IN(W:World)(g off n cap l:Nat)(h1:l<=n)(h2:n<=cap):
  ∃A:Addr,(AV 30 (pF (some (A_ g off)) n cap) (some (I_ (l:Int))) none none).run prog W = .ok (pF (some A) (n - l) (cap - l)) W/\(l<n->A=(A_ g (off+l*3))):=by
 by_cases h:l<cap
 ·exact⟨_,Fw W g off n cap l h1 h,fun _=>rfl⟩
 ·have B:=run_slice_l (P:=prog) W 30 (some (A_ g off)) n cap FE .i64 l bB bB
  rw [FF] at B;refine⟨(A_ g off),?_,fun hl=>by omega⟩;rw [B];simp [sliced,show cap=l by omega,Bg]
theorem Cf{P:Program}{w:World}{o:Oper}{a:Act}{K:Act->World->Prop}{Q:Exit->Act->World->Prop}(s x:Operand)(t:TypeId)
 (ho:o.op = .call { callee:=.builtin .append,args:=#[s,x],argTypes:=#[t,t] }){d:Nat}(B:o.dst=some d){v u v':Value}{w':World}(hs:a.eval s=v)(hx:a.eval x=u)
 (hr:(BI #[t,t] o.type #[v,u]).run P w = .ok v' w')(h:K (a.put (some d) v') w'):o.wp P a w K Q:=by
 rw [<- B] at h;unfold Oper.wp execOp;simp only [ho,resolve,invoke,builtin,Sem.run_bind,Sem.run_pure,Result.andThen_ok,List.map_toArray,CR,List.map_nil,hs,hx,hr];exact h
theorem Yh(v:Value)(V:List SV)(B:Nat)(hs:V.length<=1000)(i:Nat)(hi:i<V.length)(w:World)(hB:B<=w.heap.size)(hR:Da w B v V):
  Calls prog 212 #[v,I_ (i:Int),I_ ((i:Int)+1)] w fun r w'=>∃v',r = pJ v'/\Da w' B v' (V.eraseIdx i)/\D7 B w w'/\Aa (QB v) w w'/\QB v'=QB v:=by
 rcases hR with⟨_,rfl⟩ | ⟨g,off,cap,rfl,hg,G,Y,aq,U⟩
 ·simp at hi
 obtain⟨n,hn⟩:=eX V.length;rw [hn] at hs hi Y ⊢;obtain⟨i0,ah,ar,aa,au⟩:=info_parts P3;obtain⟨news,D⟩:=eX ((V.drop (i+1)).flatMap SV.cells);have hnl:news.length=(n - (i+1))*3:=by rw [<- D,Ea,B1,hn]
 have F:V.flatMap SV.cells=(V.take (i+1)).flatMap SV.cells++news:=by rw [<- D,<- BY,Dn]
 have ai:Cx w g (off+(i+1)*3) news:=by
  rw [F] at U;have:=U.right
  rwa [Ea,Ax,DE bB] at this
 obtain⟨A,hA,ab⟩:=IN w g off n cap (i+1) hi Y;have a9:∀W:World,(AV 30 (pF (some (A_ g off)) n cap) (some (I_ ((i:Int)+1))) none none).run prog W = .ok (pF (some A) (n - (i+1)) (cap - (i+1))) W:=fun W=>by
  obtain⟨A',ac,ap⟩:=IN W g off n cap (i+1) hi Y;have e:A'=A:=by
   by_cases h:i+1<cap
   ·have h1:=Fw w g off n cap (i+1) hi h
    have h2:=Fw W g off n cap (i+1) hi h;rw [hA] at h1;rw [ac] at h2;injection h1 with h1 _;injection h1 with h1 _ _;injection h1 with h1
    injection h2 with h2 _;injection h2 with h2 _ _;injection h2 with h2
    rw [h1,h2]
   ·have q1:=run_slice_l (P:=prog) w 30 (some (A_ g off)) n cap FE .i64 (i+1:Nat) bB bB
    have q2:=run_slice_l (P:=prog) W 30 (some (A_ g off)) n cap FE .i64 (i+1:Nat) bB bB;rw [hA,FF] at q1;rw [ac,FF] at q2;simp [sliced,show cap=i+1 by omega,Bg] at q1 q2;rw [q1,q2]
  rw [<- e];exact ac
 have a7:∀W:World,(AV 30 (pF (some (A_ g off)) n cap) none (some (I_ (i:Int))) none).run prog W = .ok (pF (some (A_ g off)) i cap) W:=fun W=>Lb W g off n cap i bB;have hs1:∀W:World,(AV 30 (pF (some (A_ g off)) n cap) (some (I_ (i:Int))) (some (I_ ((i:Int)+1))) (some (I_ (n:Int)))).run prog W = .ok (sliced (some (A_ g off)) i (i+1) n 3) W:=fun W=>NR W g off n cap i (i+1) n bB hi Y;have ba:∀W:World,(AV 30 (pF (some (A_ g off)) (n - 1) cap) (some (I_ ((n - 1:Nat):Int))) (some (I_ (n:Int))) none).run prog W = .ok (pF (some (A_ g (off+(n - 1)*3))) 1 (cap - (n - 1))) W:=fun W=>by
  have:=O5 W g off (n - 1) cap (n - 1) n bB bB bB
  rwa [show n - (n - 1)=1 by omega] at this
 obtain⟨X,hX⟩:=eX (sliced (some (A_ g off)) i (i+1) n 3);rw [hX] at hs1;have N:∀j,j<news.length->(w.cell? (A_ g (off+i*3+j))).isSome=true:=fun j hj=>by
  have:=G.cells (i*3+j) bB
  rwa [<- EA] at this
 have M:∀(k:Nat) (O:TypeId),(BI #[30,30] O #[pF (some (A_ g off)) i cap,pF (some A) (n - (i+1)) (cap - (i+1))]).run prog (w.drewN k) = .ok (pF (some (A_ g off)) (n - 1) cap) ((w.drewN k).setCells g (off+i*3) news):=fun k O=>by
  have aj:Src prog i0.size 30 (pF (some A) (n - (i+1)) (cap - (i+1))) (n - (i+1)) news (w.drewN k):=
   Src.ofSlice _ underlying30 _ _ _ _ (by rw [aa];exact hnl) (fun j u hj=>by
    have a6:=(Ad.1 hj).1;rw [ab bB,FL];exact ai.get hj) (fun u hu=>Pp (V.drop (i+1)) u (by rw [D];exact hu))
  have:=run_append_room_src (P:=prog) (w.drewN k) 30 30 O 147 i0 underlying30 ah g off i cap _ _ _ aj bB (fun j hj=>by rw [aa];exact N j hj) (fun j hj=>G.frozen _);rw [aa,show i+(n - (i+1))=n - 1 by omega] at this;exact this
 have hw1:IntKind.i64.wrap ((i:Int)+1)=(i:Int)+1:=IntWalk.i64_in _ bB;have a5:((i:Int)==(i:Int)+1)=false:=by simp;omega
 have ag:=lH G;have HSP:=lH F;have am:=lH U;have HNL:=lH hnl;have an:=lH D;have af:=lH N;have HN:=lH hn;have aw:=lH M;obtain⟨W1,T⟩:=eX ((w.drewN 1).setCells g (off+i*3) news);have ad:∀O,(BI #[30,30] O #[pF (some (A_ g off)) i cap,pF (some A) (n - (i+1)) (cap - (i+1))]).run prog w.drew = .ok (pF (some (A_ g off)) (n - 1) cap) W1:=fun O=>by rw [<- T];exact M 1 O
 have E:U5 W1 g off (cap*3):=by rw [<- T];exact(G.same (W':=w.drewN 1) rfl).setCells _ _
 have a4:∀O,(Builtin.clear_ #[30] O #[pF (some (A_ g (off+(n - 1)*3))) 1 (cap - (n - 1))]).run prog W1 = .ok (.tuple #[]) (W1.setCells g (off+(n - 1)*3) (E0 1)):=fun O=>
  IM W1 O g _ 1 _ bB (fun j hj=>by have:=E.cells ((n - 1)*3+j) bB;rwa [<- EA] at this) (fun j _=>E.frozen _)
 have J:=lH E;have HW1:=lH T;clear T E G F U hnl D ai hA ab N M hX hn ah ar aa au;have ao:∃v',pJ (pF (some (A_ g off)) (n - 1) cap) = pJ v'/\Da (W1.setCells g (off+(n - 1)*3) (E0 1)) B v' (V.eraseIdx i)/\D7 B w (W1.setCells g (off+(n - 1)*3) (E0 1))/\Aa (QB (pF (some (A_ g off)) n cap)) w (W1.setCells g (off+(n - 1)*3) (E0 1))/\QB v'=QB (pF (some (A_ g off)) n cap):=by
  have ae:(V.eraseIdx i).length=n - 1:=by rw [List.length_eraseIdx,if_pos (by rw [HN.o];exact hi),HN.o]
  have hz:(E0 1).length=3:=rfl;have ak:((V.take i).flatMap SV.cells).length=i*3:=by rw [Ea,Ax,HN.o,DE bB]
  have hx:Cx W1 g off ((V.eraseIdx i).flatMap SV.cells):=by
   rw [List.eraseIdx_eq_take_drop_succ,BY,an.o];have h1:Cx w g off ((V.take i).flatMap SV.cells):=by
    have:=am.o;rw [<- Dn i V,BY] at this;exact this.left
   rw [<- HW1.o];refine Cx.app (Cx.out (W:=w.drewN 1) (h1.same rfl) (.inl (by rw [ak];omega))) ?_;rw [ak];exact Cx.into (W:=w.drewN 1) af.o
  refine⟨_,rfl,.inr ⟨g,off,cap,by rw [ae],hg,J.o.setCells _ _,by rw [ae];omega,aq,hx.out (.inl (by rw [Ea,ae];omega))⟩,?_⟩;have k1:D7 B w (w.drewN 1):=⟨(Below.refl B w).drew,fun _ _ _ h=>h⟩;have k2:D7 B (w.drewN 1) W1:=by rw [<- HW1.o];exact D7.of_one (Bb g _ _ _) hB hg ag.o.blk
  refine⟨(k1.trans k2).trans (D7.of_one (Bb g _ _ W1) (A8 hB (k1.trans k2).low.size) hg J.o.blk),?_,rfl⟩;have q1:Aa [g] w W1:=by rw [<- HW1.o];exact((Aa.refl [g] w).drewN 1).trans (Bb g _ _ _)
  exact q1.trans (Bb g _ _ W1)
 go_enter func212,ntmps212;go_wp2;refine wp_region_held_drew (S:=(fun _:World=>True)) bC trivial (fun hHeld=>?_);refine rQ 0 ?_;refine rQ 1 ?_;refine rQ 2 ?_;refine rQ 3 ?_;refine rQ 4 ?_;refine rQ 5 ?_;refine rC 6 fun K hK=>?_
 (refine Cf _ _ 30 bD bD bD bD (ad _) ?_)
 refine rO hK (trivial) fun hHeld=>?_;clear hK K;refine rQ 7 ?_;refine wpAnyH_done bC ?_ _
 ((try simp only [List.getElem_toArray,List.getElem_cons_succ,List.getElem_cons_zero,Ap,AB,AA]);go_wp2;go_ret;exact ao)
theorem Da.tail{W:World}{B:Nat}{v:Value}{V:List SV}(h:Da W B v V)(h1:1<V.length):
  ∃g off cap,v = pF (some (A_ g off)) V.length cap/\1<cap/\Da W B (pF (some (A_ g (off+1*3))) (V.length - 1) (cap - 1)) (V.drop 1):=by
 rcases h with⟨_,rfl⟩ | ⟨g,off,cap,rfl,h2,h3,h4,F,D⟩
 ·simp at h1
 ·refine⟨g,off,cap,rfl,by omega,.inr ⟨g,off+1*3,cap - 1,by rw [B1],h2,⟨h3.blk,fun j hj=>?_⟩,by rw [B1];omega,by omega,?_⟩⟩
  ·have:=h3.cells (1*3+j) bB
   rwa [<- EA] at this
  ·have:=D
   rw [<- Dn 1 V,BY] at this;have E:=this.right
   rwa [Ea,Ax,DE bB] at E
theorem Mt.filter{w:World}(now:Int):∀ {V:List SV} {L:List Sn},Mt w V L->Mt w (V.filter (Ei now)) (L.filter (Fs now))
 | [],[],_=>trivial
 | v::V,s::L,h=>by
  have e:Ei now v=Fs now s:=by unfold Ei Fs;rw [h.1.2.1]
  rw [List.filter_cons,List.filter_cons,e];split
  ·exact⟨h.1,Mt.filter now h.2⟩
  ·exact Mt.filter now h.2
 | [],_::_,h=>h.elim
 | _::_,[],h=>h.elim
theorem Mt.used{w:World}{Q:Int->Prop}: ∀ {V:List SV} {L:List Sn},Mt w V L->(∀s∈L,Q s.used)->∀x∈V,Q x.used
 | v::V,s::L,h,hq,x,hx=>by
  rcases Ac.1 hx with rfl | hx
  ·rw [h.1.2.1];exact hq s bA
  ·exact Mt.used h.2 (fun s hs=>hq s (by simp [hs])) x hx
 | [],_,_,_,_,hx=>by cases hx
 | _::_,[],h,_,_,_=>h.elim
theorem Ld:∀(L:List Sn) (last:Int),BV last L=true->0<=last->∀s∈L,0<=s.used/\s.used<=1000000000000
 | s::L,last,h,h0,x,hx=>by
  simp only [BV,Hy,Af,decide_eq_true_eq] at h;rcases Ac.1 hx with rfl | hx
  ·omega
  ·exact Ld L s.used h.2 bB x hx
 | [],_,_,_,_,hx=>by cases hx
theorem S2{p:Po}(h:Ej p=true):(∀s∈p.l,0<=s.used/\s.used<=1000000000000)/\0<=EQ p.l:=by
 have hs:BV 0 p.l=true:=by
  simp only [Ej,Af] at h;exact h.1.2
 have B:=Ld p.l 0 hs (Int.le_refl _);refine⟨B,?_⟩;unfold EQ;cases hl:p.l.getLast? with
 | none=>simp
 | some s=>
  have:=B s (List.mem_of_getLast? hl);simp;omega
theorem LX{p:Po}{now:Int}(h:Db p now=true):(∀s∈p.l,Ha s.used)/\Ha now/\0<=now:=by
 have h2:=Ik h;have hr:Ej p=true:=by
  simp only [Db,Af] at h;exact h.1.1
 obtain⟨h3,h4⟩:=S2 hr;refine⟨fun s hs=>?_,?_,by omega⟩
 ·have:=h3 s hs
  exact⟨by omega,by omega⟩
 ·exact⟨by omega,by omega⟩
theorem Zj{p:Po}{xs:List ByteArray}{now:Int}(h:(Db p now&&Dd xs&&decide (p.next<1000000000000))=false):IV p xs now=(Uf,0,160):=by
 unfold IV;rw [h];rfl
theorem dJ{p:Po}{xs:List ByteArray}{now:Int}(h:(Db p now&&Dd xs&&decide (p.next<1000000000000))=true):IV p xs now=(⟨JO p.l now++[⟨p.next,xs,now⟩],p.next+1⟩,p.next,0):=by
 unfold IV;rw [h];rfl
theorem JE(w:World):BP w none 0 [] Uf:=⟨Aw _,by simp,fun h=>absurd rfl h,trivial⟩
def aO(w:World)(q:Po)(cur err:Int)(r:Ending)(w':World):Prop:=
 ∃a n c V,r = pJ (.tuple #[pH #[pF a n c,pE pK q.next],pE pK cur,pE pK err])/\V.length=n/\BP w' a c V q/\Aa [] w w'
def OA(w:World)(q:Po)(cur err:Int)(r:Ending)(w':World):Prop:=
 ∃a n c V,r = pJ (.tuple #[pH #[pF a n c,pE pK q.next],pE pK cur,pE pK err])/\V.length=n/\BP w' a c V q/\Aa [] w w'/\∀x∈V,SO w.heap.size x
theorem aO.fresh0{w:World}{cur err:Int}{r:Ending}{w':World}(h:aO w Uf cur err r w'):OA w Uf cur err r w':=by
 obtain⟨a,n,c,V,h1,h2,h3,h4⟩:=h;obtain rfl:V = []:=Ds h3.mt.len;exact⟨a,n,c,_,h1,h2,h3,h4,fun x hx=>by cases hx⟩
theorem dK(a:Option Addr)(c:Nat)(V:List SV)(p:Po)(n:Nat)(hn:V.length=n)(N:Option Addr)(O m:Nat)(xs:List ByteArray)(hm:xs.length=m)(now:Int)(w:World)(hP:BP w a c V p)(hI:Cy w N O xs)(e:Nat->Addr)(he:M1 w e)
 (B:(Db p now&&Dd xs&&decide (p.next<1000000000000))=false):
  Calls prog 166 #[pH #[pF a n c,I_ p.next],pF N m O,I_ now] w (aO w Uf 0 160):=by
 obtain⟨x,hx⟩:=eX p.next;obtain⟨y,hy⟩:=eX (Db p now);obtain⟨z,hz⟩:=eX (Dd xs);rw [hy,hz,hx] at B;have D:=fun W (hk:Aa [] w W)=>L6 a c V p n hn now W (hP.keeps hk) e (he.keep hk) y hy;have E:=fun W (hk:Aa [] w W)=>Gk N O xs z hz W (hI.at_.keeps hk) hI.small hI.size;rw [hm] at E;rw [hx] at D ⊢;have aa:=hI.small;have J:=lH D;have M:=lH E;have HE:=lH he;have hk0:=(((Aa.refl [] w).alloc (.cells #[pF a n c,I_ x] 32)).alloc (.cells #[pE pK now] 3)).alloc (.cells #[pF none 0 0,I_ 0] 32);have HK:=lH hk0;have hb0:Blk (((w.alloc (.cells #[pF a n c,I_ x] 32)).alloc (.cells #[pE pK now] 3)).alloc (.cells #[pF none 0 0,I_ 0] 32)) w 32 #[pF a n c,I_ x]:=((Blk.new w _ _).alloc _).alloc _;have hb1:Blk (((w.alloc (.cells #[pF a n c,I_ x] 32)).alloc (.cells #[pE pK now] 3)).alloc (.cells #[pF none 0 0,I_ 0] 32)) (w+1) 3 #[pE pK now]:=(Ar _ _ _ _ bA).alloc _;have hb2:Blk (((w.alloc (.cells #[pF a n c,I_ x] 32)).alloc (.cells #[pE pK now] 3)).alloc (.cells #[pF none 0 0,I_ 0] 32)) (w+1+1) 32 #[pF none 0 0,I_ 0]:=Ar _ _ _ _ bA;have HB0:=lH hb0;have HB2:=lH hb2;clear D E he hk0 hP hI hx hy hz hn hm hb0 hb1 hb2;go_enter func166,ntmps166;go_wp2_with fail;refine(J.o _ HK.o).mono ?_;rintro r w1 ⟨rfl,hk⟩;have HB0:=lH (HB0.o.keeps hk bA);have HB2:=lH (HB2.o.keeps hk bA);have HK:=lH (HK.o.trans hk);clear hk;cases y with
 | false=>
  have X:=(HE.o.keep HK.o).c0;unfold Jj;go_wp2_with fail;refine(JD (some 0) e bA _ (HE.o.keep HK.o) 160 rfl).mono ?_;rintro r w2 ⟨rfl,rfl⟩;have T:=HB2.o.cell 0;have U:=HB2.o.cell 1;have Y:=HB2.o.frozen 0;have f1:=HB2.o.frozen 1;have HBF:=lH ((HB2.o.set_ 0 (pF none 0 0)).set_ 1 (I_ 0));have HKF:=lH ((HK.o.setCell (p:=A2 w 0) (.inr bH) (pF none 0 0)).setCell (p:=A2 w 1) (.inr bH) (I_ 0));go_wp2;have F:_=some (pF none 0 0):=HBF.o.cell 0;have G:_=some (pE .i64 0):=HBF.o.cell 1;refine bodyPost_ret (v:=.tuple #[pH #[pF none 0 0,I_ 0],I_ 0,I_ 160]) (by simp [results,results166,go_sem,F,G]) rfl ?_;exact⟨none,0,0,[],rfl,rfl,JE _,HKF.o⟩
 | true=>
  unfold Jj;go_wp2_with fail;refine(M.o _ HK.o).mono ?_;rintro r w2 ⟨rfl,hk⟩;have HB0:=lH (HB0.o.keeps hk bA);have HB2:=lH (HB2.o.keeps hk bA);have HK:=lH (HK.o.trans hk);clear hk;cases z with
  | false=>
   have X:=(HE.o.keep HK.o).c0;go_wp2_with fail;refine(JD (some 0) e bA _ (HE.o.keep HK.o) 160 rfl).mono ?_;rintro r w2 ⟨rfl,rfl⟩;have T:=HB2.o.cell 0;have U:=HB2.o.cell 1;have Y:=HB2.o.frozen 0;have f1:=HB2.o.frozen 1;have HBF:=lH ((HB2.o.set_ 0 (pF none 0 0)).set_ 1 (I_ 0));have HKF:=lH ((HK.o.setCell (p:=A2 w 0) (.inr bH) (pF none 0 0)).setCell (p:=A2 w 1) (.inr bH) (I_ 0));go_wp2;have F:_=some (pF none 0 0):=HBF.o.cell 0;have G:_=some (pE .i64 0):=HBF.o.cell 1;refine bodyPost_ret (v:=.tuple #[pH #[pF none 0 0,I_ 0],I_ 0,I_ 160]) (by simp [results,results166,go_sem,F,G]) rfl ?_;exact⟨none,0,0,[],rfl,rfl,JE _,HKF.o⟩
  | true=>
   have hx:(1000000000000:Int)<=x:=by simpa using B
   have p1:_=some (pE .i64 x):=HB0.o.cell 1;clear B;have X:=(HE.o.keep HK.o).c0;go_wp2_with fail;refine(JD (some 0) e bA _ (HE.o.keep HK.o) 160 rfl).mono ?_;rintro r w2 ⟨rfl,rfl⟩;have T:=HB2.o.cell 0;have U:=HB2.o.cell 1;have Y:=HB2.o.frozen 0;have f1:=HB2.o.frozen 1;have HBF:=lH ((HB2.o.set_ 0 (pF none 0 0)).set_ 1 (I_ 0));have HKF:=lH ((HK.o.setCell (p:=A2 w 0) (.inr bH) (pF none 0 0)).setCell (p:=A2 w 1) (.inr bH) (I_ 0));go_wp2;have F:_=some (pF none 0 0):=HBF.o.cell 0;have G:_=some (pE .i64 0):=HBF.o.cell 1;refine bodyPost_ret (v:=.tuple #[pH #[pF none 0 0,I_ 0],I_ 0,I_ 160]) (by simp [results,results166,go_sem,F,G]) rfl ?_;exact⟨none,0,0,[],rfl,rfl,JE _,HKF.o⟩
theorem Oz{α:Type}(p:α->Bool)(l:List α):(l.filter p).length<=l.length:=List.length_filter_le p l
theorem BP.keepsS{S:List Nat}{w w':World}{a:Option Addr}{c:Nat}{V:List SV}{p:Po}(h:BP w a c V p)(hk:Aa S w w')(hS:∀k∈S,∃cs,Blk w k 32 cs/\32≠9/\32≠147):BP w' a c V p:=by
 have D:∀k∈S,∀(cs:Array Value) (t:TypeId) (B:Nat×Nat),w.heap[k]? = some (Obj.cells cs t B)->t=32:=fun k hk cs t B h=>by
  obtain⟨E,hb,_⟩:=hS k hk;have F:w.heap[k]? = some (Obj.cells E 32 (0,0)):=hb;rw [F] at h;injection h with h
  injection h with _ h3 _
  exact h3.symm
 exact⟨h.le,h.small,h.row.keepsS hk (fun k hm cs B hb=>by
  obtain⟨_,_,_,hne⟩:=hS k hm;exact hne (D k hm cs _ B hb).symm),h.mt.keepsS hk (fun k hm cs B hb=>by
  obtain⟨_,_,hne,_⟩:=hS k hm;exact hne (D k hm cs _ B hb).symm)⟩
theorem Va{w A E:World}{B:Nat}{U:Value}{F:List SV}{L:List Sn}{x now:Int}{G:Option Addr}{T m:Nat}{xs:List ByteArray}{a:Option Addr}{n c:Nat}
 (hs:Da E B U (F++[⟨x,G,m,T,now⟩]))(hk:D7 B A E)(hM:Mt A F L)(hS:Cy A G T xs)(hm:xs.length=m)(hl:F.length<=1000)(hw:Aa [] w A)
 (h0:Blk A w 32 #[pF a n c,I_ x])(h2:Blk A (w+1+1) 32 #[pF none 0 0,I_ 0])(hz:w.heap.size+1+1<B)(_:B<=A.heap.size)(N:∀z∈F,SO w z)(M:Fr w G m):
  ∃a9 k9 c9 V9,U = pF a9 k9 c9/\Hi (V9.length=k9)/\Hi (BP E a9 c9 V9 ⟨L++[⟨x,xs,now⟩],x+1⟩)/\Hi (Aa [] w E)/\Hi (Blk E w 32 #[pF a n c,I_ x])/\Hi (Blk E (w+1+1) 32 #[pF none 0 0,I_ 0])/\Hi (∀z∈V9,SO w z):=by
 obtain⟨a9,c9,rfl,J,O⟩:=hs.row;refine⟨a9,_,c9,_,rfl,lH rfl,lH ⟨J,by rw [Al,Bp];omega,O,?_⟩,lH (Aa.of_below ((hw.below (Aw _) bA).trans (hk.low.mono bB)) []),lH ((hk.low.block _ bB).trans h0),lH ((hk.low.block _ hz).trans h2),lH (fun z D=>by
  rcases AQ.1 D with D | D
  ·exact N z D
  ·obtain rfl:=Ag.1 D
   exact M)⟩
 exact(hM.strK hk).app ⟨⟨rfl,rfl,hm.symm,hS.strK hk⟩,trivial⟩
theorem dL(a:Option Addr)(c:Nat)(V:List SV)(p:Po)(n:Nat)(hn:V.length=n)(ia:Option Addr)(ic m:Nat)(xs:List ByteArray)(hm:xs.length=m)(now:Int)(w:World)(hP:BP w a c V p)(hI:Cy w ia ic xs)(e:Nat->Addr)(he:M1 w e)
 (hy:Db p now=true)(hz:Dd xs=true)(hx:p.next<1000000000000):
  Calls prog 166 #[pH #[pF a n c,I_ p.next],pF ia m ic,I_ now] w (OA w ⟨JO p.l now++[⟨p.next,xs,now⟩],p.next+1⟩ p.next 0):=by
 have ah:=Ik hy;obtain⟨be,an,bu⟩:=LX hy;obtain⟨x,a0⟩:=eX p.next;have hn3:n<=3:=by rw [<- hn,hP.mt.len];exact ah.1
 have hx1:1<=x:=by rw [<- a0];exact ah.2.1
 have aw:=fun W (hk:Aa [] w W)=>L6 a c V p n hn now W (hP.keeps hk) e (he.keep hk) true hy;have ax:=fun W (hk:Aa [] w W)=>Gk ia ic xs true hz W (hI.at_.keeps hk) hI.small hI.size;have ba:=fun W (hk:Aa [] w W)=>YZ a c V p.l n hn bB W (hP.row.keeps hk) (hP.mt.keeps hk);rw [hm] at ax;rw [a0] at aw hx ⊢;have hx2:¬(1000000000000:Int)<=x:=bB;have bj:=lH aw;have bl:=lH ax;have HCO:=lH ba;have HI:=lH hI;have HM:=lH hm;have HT:=lH be;have HNO:=lH an;have HLN:Hi (p.l.length=n):=lH (by rw [<- hn,hP.mt.len]);have HB0:=lH ((((Blk.new w 32 #[pF a n c,I_ x]).alloc (.cells #[pE pK now] 3)).alloc (.cells #[pF none 0 0,I_ 0] 32)));have HB1:=lH ((Ar (w.alloc (.cells #[pF a n c,I_ x] 32)) 3 #[pE pK now] (w+1) bA).alloc (.cells #[pF none 0 0,I_ 0] 32));have HB2:=lH (Ar ((w.alloc (.cells #[pF a n c,I_ x] 32)).alloc (.cells #[pE pK now] 3)) 32 #[pF none 0 0,I_ 0] (w+1+1) bA);have HK:=lH ((((Aa.refl [] w).alloc (.cells #[pF a n c,I_ x] 32)).alloc (.cells #[pE pK now] 3)).alloc (.cells #[pF none 0 0,I_ 0] 32));clear aw ax ba he hP hI a0 hn hm ah be an hy hz;go_enter func166,ntmps166;go_wp2_with fail;refine(bj.o _ HK.o).mono ?_;rintro r w1 ⟨rfl,hk⟩;have HB0:=lH (HB0.o.keeps hk bA);have HB1:=lH (HB1.o.keeps hk bA);have HB2:=lH (HB2.o.keeps hk bA);have HK:=lH (HK.o.trans hk);clear hk;unfold Jj;go_wp2_with fail;refine(bl.o _ HK.o).mono ?_;rintro r w2 ⟨rfl,hk⟩;have HB0:=lH (HB0.o.keeps hk bA);have HB1:=lH (HB1.o.keeps hk bA);have HB2:=lH (HB2.o.keeps hk bA);have HK:=lH (HK.o.trans hk);clear hk;have HSZ:Hi (w.heap.size+1+1<w2.heap.size):=lH HB2.o.lt;have p0:_=some (pF a n c):=HB0.o.cell 0;have p1:_=some (pE .i64 x):=HB0.o.cell 1;go_wp2_with fail;refine(HCO.o _ HK.o).mono ?_;rintro r w3 ⟨v0,V0,rfl,bd,al,hb0,bb⟩;have bm:Hi (∀z∈V0,SO w z):=lH (fun z hz=>Fr.down (bb z hz) HK.o.size);clear bb;have hk:=Aa.of_below hb0 [];have HB0:=lH (HB0.o.keeps hk bA);have HB1:=lH (HB1.o.keeps hk bA);have HB2:=lH (HB2.o.keeps hk bA);have HK:=lH (HK.o.trans hk);have a3:=lH (PW v0 V0 w2 (by rw [al.len,HLN.o];omega) now HNO.o (Mt.used al HT.o) (w+1) w3 hb0.size bP (HB1.o.cell 0) bd);have bo:=lH al;have bp:=lH hb0.size;clear hk bd al hb0 p0 p1;go_wp2_with fail;refine a3.o.mono ?_;clear a3;rintro r w4 ⟨v1,rfl,hs1,hk1⟩;obtain⟨F,hF⟩:=eX (V0.filter (Ei now));have ay:Mt w4 F (p.l.filter (Fs now)):=by rw [<- hF];exact(bo.o.strK hk1).filter now
 have a4:Hi (∀z∈F,SO w z):=lH (fun z hz=>bm.o z (List.mem_filter.1 (by rw [<- hF] at hz;exact hz)).1);rw [hF] at hs1;have ab:∀ {g:Nat} {ty:TypeId} {cs:Array Value},Blk w3 g ty cs->g<w2.heap.size->Blk w4 g ty cs:=fun h hg=>(hk1.low.block _ hg).trans h;have HB0:=lH (ab HB0.o bP);have HB1:=lH (ab HB1.o bP);have HB2:=lH (ab HB2.o HSZ.o);have HK4:Hi (Aa [] w w4):=lH (Aa.of_below ((HK.o.below (Aw _) bA).trans (hk1.low.mono bP)) []);have ad:Hi (Cy w4 ia ic xs):=lH (HI.o.keeps HK4.o);have HSB:Hi (w2.heap.size<=w4.heap.size):=lH (A8 bp.o hk1.low.size);have bt:F.length<=3:=by rw [ay.len];exact A8 (Oz _ _) (by rw [HLN.o];exact hn3)
 obtain⟨k,hk⟩:=eX F.length;have HKF:=lH hk;have ak:=lH ay;have pn:w4.cell? (A_ w 1)=some (I_ x):=HB0.o.cell 1;have pw:w4.cell? (A1 w 0)=some (I_ now):=HB1.o.cell 0;obtain⟨a1,c1,bf,av,-⟩:=hs1.row;rw [hk] at bf av bt;subst bf;clear ay hF hk;by_cases hk3:k=3
 ·subst hk3
  obtain⟨g,off,cap,hv,bs,az⟩:=hs1.tail (by rw [HKF.o];omega);injection hv with e1 e2 e3
  subst e1;subst e3;clear e2;have b2:(AV 30 (pF (some (A_ g off)) 3 c1) (some (I_ 1)) none none).run prog w4 = .ok (pF (some (A_ g (off+3))) 2 (c1 - 1)) w4:=by
   have:=Fw w4 g off 3 c1 1 bB bs;simpa using this
  have ae:Hi (Da w4 w2 (pF (some (A_ g (off+3))) 2 (c1 - 1)) (F.drop 1)):=lH (by rw [HKF.o] at az;simpa using az);have HM4:Hi (Mt w4 (F.drop 1) (JO p.l now)):=lH (by unfold JO;rw [<- ak.o.len,HKF.o,if_pos rfl];exact ak.o.drop 1);have Y:Hi ((F.drop 1).length<=1000):=lH (by rw [B1,HKF.o];omega);have aj:Hi (∀z∈F.drop 1,SO w z):=lH (fun z hz=>a4.o z (List.mem_of_mem_drop hz));obtain⟨F2,a7⟩:=eX (F.drop 1);rw [a7] at ae HM4 Y aj;clear hs1 az av hk1 a7;go_wp2;have ai:∀w':World,w'.heap[w.heap.size]? = w4.heap[w.heap.size]?->w'.heap[w.heap.size+1]? = w4.heap[w.heap.size+1]?->(w'.cell? (A_ w 1)=some (I_ x)/\w'.cell? (A1 w 0)=some (I_ now)):=fun w' h0 h1=>⟨(BL (a:=A_ w 1) h0).trans pn,(BL (a:=A1 w 0) h1).trans pw⟩;have HSS:=lH ai;clear ai pn pw ab;go_cut [11] (fun v wx=>∃M O N V9,v = pF M O N/\Hi (V9.length=O)/\Hi (BP wx M N V9 ⟨JO p.l now++[⟨x,xs,now⟩],x+1⟩)/\Hi (Aa [] w wx)/\Hi (Blk wx w 32 #[pF a n c,I_ x])/\Hi (Blk wx (w+1+1) 32 #[pF none 0 0,I_ 0])/\Hi (∀z∈V9,SO w z))
  case first=>
   refine wp_region_held_drew (S:=(fun w':World=>w'.cell? (A_ w 1)=some (I_ x)/\w'.cell? (A1 w 0)=some (I_ now))) bC fB (fun hHeld=>?_);refine rQ 0 ?_;refine rQ 1 ?_;refine rQ 2 ?_;refine rQ 3 ?_;refine rQ 5 ?_;refine rC 4 fun K hK=>?_;go_simp
   (first | ((with_reducible refine(Gy ia ic xs m HM.o _ (ad.o.keeps ((Aa.refl [] w4).drew))).mono ?_);rintro e5 w5 ⟨T,c5,rfl,G,hk5,E⟩;have X:Hi (Fr w T m):=lH (E.down HK4.o.size);have HK5:=lH (((Aa.refl [] w4).drew).trans hk5);have aa:=lH G;have hS5:=HSS.o w5 (HK5.o.block _ HB0.o.lt bA) (HK5.o.block _ HB1.o.lt bA);have hS5a:=fun o=>HSS.o (w5.alloc o) ((HK5.o.alloc o).block _ HB0.o.lt bA) ((HK5.o.alloc o).block _ HB1.o.lt bA);clear G hk5 E) | (obtain⟨v9,w9,D,J,hk9⟩:=Da.push ((ae.o.keeps HK5.o).keeps ((Aa.refl [] w5).alloc (.cells (SV.arr (⟨x,T,m,c5,now⟩:SV)) 147))) Y.o iU w5 (⟨x,T,m,c5,now⟩:SV) (Blk.new w5 147 (SV.arr (⟨x,T,m,c5,now⟩:SV))) 30;simp only [SV.arr] at D;refine Cf _ _ 30 bD bD bD bD D ?_;have hS9:=HSS.o w9 ((hk9.low.block _ bP).trans ((HK5.o.alloc _).block _ HB0.o.lt bA)) ((hk9.low.block _ bP).trans ((HK5.o.alloc _).block _ HB1.o.lt bA));have af:=lH J;have HK9:=lH hk9;clear J hk9 D))
   refine rO hK fB fun hHeld=>?_;clear hK K;refine rQ 6 ?_;refine rC 7 fun K hK=>?_;go_simp;refine rO hK fB fun hHeld=>?_;clear hK K;refine rC 8 fun K hK=>?_
   (first | ((with_reducible refine(Gy ia ic xs m HM.o _ (ad.o.keeps ((Aa.refl [] w4).drew))).mono ?_);rintro e5 w5 ⟨T,c5,rfl,G,hk5,E⟩;have X:Hi (Fr w T m):=lH (E.down HK4.o.size);have HK5:=lH (((Aa.refl [] w4).drew).trans hk5);have aa:=lH G;have hS5:=HSS.o w5 (HK5.o.block _ HB0.o.lt bA) (HK5.o.block _ HB1.o.lt bA);have hS5a:=fun o=>HSS.o (w5.alloc o) ((HK5.o.alloc o).block _ HB0.o.lt bA) ((HK5.o.alloc o).block _ HB1.o.lt bA);clear G hk5 E) | (obtain⟨v9,w9,D,J,hk9⟩:=Da.push ((ae.o.keeps HK5.o).keeps ((Aa.refl [] w5).alloc (.cells (SV.arr (⟨x,T,m,c5,now⟩:SV)) 147))) Y.o iU w5 (⟨x,T,m,c5,now⟩:SV) (Blk.new w5 147 (SV.arr (⟨x,T,m,c5,now⟩:SV))) 30;simp only [SV.arr] at D;refine Cf _ _ 30 bD bD bD bD D ?_;have hS9:=HSS.o w9 ((hk9.low.block _ bP).trans ((HK5.o.alloc _).block _ HB0.o.lt bA)) ((hk9.low.block _ bP).trans ((HK5.o.alloc _).block _ HB1.o.lt bA));have af:=lH J;have HK9:=lH hk9;clear J hk9 D))
   refine rO hK fB fun hHeld=>?_;clear hK K;refine rQ 9 ?_;refine wpAnyH_done bC ?_ _
   (go_wp2_with fail;go_meet;exact Va af.o HK9.o (HM4.o.keeps (HK5.o.alloc _)) (aa.o.keeps ((Aa.refl [] w5).alloc _)) HM.o Y.o ((HK4.o.trans HK5.o).alloc _) ((HB0.o.keeps HK5.o bA).alloc _) ((HB2.o.keeps HK5.o bA).alloc _) HSZ.o iU aj.o X.o)
  case rest=>
   obtain⟨M,O,N,V9,rfl,au,ar,HK9,U,B,aq⟩:=hcut;have pn:wc.cell? (A_ w 1)=some (I_ x):=U.o.cell 1;have q0:wc.cell? (A2 w 0)=some (pF none 0 0):=B.o.cell 0;have q1:wc.cell? (A2 w 1)=some (I_ 0):=B.o.cell 1;have f0:=B.o.frozen 0;have f1:=B.o.frozen 1;have bv:IntKind.i64.wrap (x+1)=x+1:=IntWalk.i64_in _ bB;have hw1:∀u v,((wc.drew.setCell (A2 w 0) u).setCell (A2 w 1) v).cell? (A_ w 1)=some (I_ x):=fun u v=>(((U.o.drew).far (p:=A2 w 0) bH u).far (p:=A2 w 1) bH v).cell 1;have HW1:=lH hw1;have HBF:=lH (Bl (B.o.set_ 0 (pF M O N)) ((B.o.set_ 0 (pF M O N)).set_ 1 (I_ (x+1))));have HKF:=lH ((HK9.o.drew.setCell (p:=A2 w 0) (.inr bH) (pF M O N)).setCell (p:=A2 w 1) (.inr bH) (I_ (x+1)));have HPF:=lH ((ar.o.keepsS (Aa.drew (Aa.refl [w.heap.size+1+1] wc) |>.setCell (p:=A2 w 0) (.inl bA) (pF M O N) |>.setCell (p:=A2 w 1) (.inl bA) (I_ (x+1))) (fun k hk=>by simp at hk;subst hk;exact⟨_,B.o,by decide,by decide⟩)));clear hw1;go_wp2_with fail;refine wp_region_held_drew (S:=(fun w':World=>w'.cell? (A_ w 1)=some (I_ x))) bC lK (fun hHeld=>?_);refine rQ 0 ?_;refine rQ 1 ?_;refine rQ 2 ?_;refine rQ 3 ?_;refine rQ 4 ?_;refine rQ 5 ?_;refine rQ 6 ?_;refine rC 7 fun K hK=>?_;go_simp;refine rO hK lK fun hHeld=>?_;clear hK K;refine rQ 8 ?_;refine rQ 9 ?_;refine wpAnyH_done bC ?_ _
   (go_wp2;refine bodyPost_ret (v:=.tuple #[pH #[pF M O N,I_ (x+1)],I_ x,I_ 0]) (by have q0:_=some (pF M O N):=HBF.o.1.cell 0;have q1:_=some (pE .i64 (x+1)):=HBF.o.2.cell 1;simp [results,results166,go_sem,q0,q1]) rfl ?_;exact⟨M,O,N,V9,rfl,au.o,HPF.o,HKF.o,aq.o⟩)
 ·have bx:((k:Int)==3)=false:=by simp;omega
  have ae:Hi (Da w4 w2 (pF a1 k c1) F):=lH hs1;have HM4:Hi (Mt w4 F (JO p.l now)):=lH (by unfold JO;rw [<- ak.o.len,HKF.o,if_neg hk3];exact ak.o);have aj:=a4;have Y:Hi (F.length<=1000):=lH (by rw [HKF.o];omega);clear hs1 av hk1;go_wp2;have ai:∀w':World,w'.heap[w.heap.size]? = w4.heap[w.heap.size]?->w'.heap[w.heap.size+1]? = w4.heap[w.heap.size+1]?->(w'.cell? (A_ w 1)=some (I_ x)/\w'.cell? (A1 w 0)=some (I_ now)):=fun w' h0 h1=>⟨(BL (a:=A_ w 1) h0).trans pn,(BL (a:=A1 w 0) h1).trans pw⟩;have HSS:=lH ai;clear ai pn pw ab;go_cut [11] (fun v wx=>∃M O N V9,v = pF M O N/\Hi (V9.length=O)/\Hi (BP wx M N V9 ⟨JO p.l now++[⟨x,xs,now⟩],x+1⟩)/\Hi (Aa [] w wx)/\Hi (Blk wx w 32 #[pF a n c,I_ x])/\Hi (Blk wx (w+1+1) 32 #[pF none 0 0,I_ 0])/\Hi (∀z∈V9,SO w z))
  case first=>
   refine wp_region_held_drew (S:=(fun w':World=>w'.cell? (A_ w 1)=some (I_ x)/\w'.cell? (A1 w 0)=some (I_ now))) bC fB (fun hHeld=>?_);refine rQ 0 ?_;refine rQ 1 ?_;refine rQ 2 ?_;refine rQ 3 ?_;refine rQ 5 ?_;refine rC 4 fun K hK=>?_;go_simp
   (first | ((with_reducible refine(Gy ia ic xs m HM.o _ (ad.o.keeps ((Aa.refl [] w4).drew))).mono ?_);rintro e5 w5 ⟨T,c5,rfl,G,hk5,E⟩;have X:Hi (Fr w T m):=lH (E.down HK4.o.size);have HK5:=lH (((Aa.refl [] w4).drew).trans hk5);have aa:=lH G;have hS5:=HSS.o w5 (HK5.o.block _ HB0.o.lt bA) (HK5.o.block _ HB1.o.lt bA);have hS5a:=fun o=>HSS.o (w5.alloc o) ((HK5.o.alloc o).block _ HB0.o.lt bA) ((HK5.o.alloc o).block _ HB1.o.lt bA);clear G hk5 E) | (obtain⟨v9,w9,D,J,hk9⟩:=Da.push ((ae.o.keeps HK5.o).keeps ((Aa.refl [] w5).alloc (.cells (SV.arr (⟨x,T,m,c5,now⟩:SV)) 147))) Y.o iU w5 (⟨x,T,m,c5,now⟩:SV) (Blk.new w5 147 (SV.arr (⟨x,T,m,c5,now⟩:SV))) 30;simp only [SV.arr] at D;refine Cf _ _ 30 bD bD bD bD D ?_;have hS9:=HSS.o w9 ((hk9.low.block _ bP).trans ((HK5.o.alloc _).block _ HB0.o.lt bA)) ((hk9.low.block _ bP).trans ((HK5.o.alloc _).block _ HB1.o.lt bA));have af:=lH J;have HK9:=lH hk9;clear J hk9 D))
   refine rO hK fB fun hHeld=>?_;clear hK K;refine rQ 6 ?_;refine rC 7 fun K hK=>?_;go_simp;refine rO hK fB fun hHeld=>?_;clear hK K;refine rC 8 fun K hK=>?_
   (first | ((with_reducible refine(Gy ia ic xs m HM.o _ (ad.o.keeps ((Aa.refl [] w4).drew))).mono ?_);rintro e5 w5 ⟨T,c5,rfl,G,hk5,E⟩;have X:Hi (Fr w T m):=lH (E.down HK4.o.size);have HK5:=lH (((Aa.refl [] w4).drew).trans hk5);have aa:=lH G;have hS5:=HSS.o w5 (HK5.o.block _ HB0.o.lt bA) (HK5.o.block _ HB1.o.lt bA);have hS5a:=fun o=>HSS.o (w5.alloc o) ((HK5.o.alloc o).block _ HB0.o.lt bA) ((HK5.o.alloc o).block _ HB1.o.lt bA);clear G hk5 E) | (obtain⟨v9,w9,D,J,hk9⟩:=Da.push ((ae.o.keeps HK5.o).keeps ((Aa.refl [] w5).alloc (.cells (SV.arr (⟨x,T,m,c5,now⟩:SV)) 147))) Y.o iU w5 (⟨x,T,m,c5,now⟩:SV) (Blk.new w5 147 (SV.arr (⟨x,T,m,c5,now⟩:SV))) 30;simp only [SV.arr] at D;refine Cf _ _ 30 bD bD bD bD D ?_;have hS9:=HSS.o w9 ((hk9.low.block _ bP).trans ((HK5.o.alloc _).block _ HB0.o.lt bA)) ((hk9.low.block _ bP).trans ((HK5.o.alloc _).block _ HB1.o.lt bA));have af:=lH J;have HK9:=lH hk9;clear J hk9 D))
   refine rO hK fB fun hHeld=>?_;clear hK K;refine rQ 9 ?_;refine wpAnyH_done bC ?_ _
   (go_wp2_with fail;go_meet;exact Va af.o HK9.o (HM4.o.keeps (HK5.o.alloc _)) (aa.o.keeps ((Aa.refl [] w5).alloc _)) HM.o Y.o ((HK4.o.trans HK5.o).alloc _) ((HB0.o.keeps HK5.o bA).alloc _) ((HB2.o.keeps HK5.o bA).alloc _) HSZ.o iU aj.o X.o)
  case rest=>
   obtain⟨M,O,N,V9,rfl,au,ar,HK9,U,B,aq⟩:=hcut;have pn:wc.cell? (A_ w 1)=some (I_ x):=U.o.cell 1;have q0:wc.cell? (A2 w 0)=some (pF none 0 0):=B.o.cell 0;have q1:wc.cell? (A2 w 1)=some (I_ 0):=B.o.cell 1;have f0:=B.o.frozen 0;have f1:=B.o.frozen 1;have bv:IntKind.i64.wrap (x+1)=x+1:=IntWalk.i64_in _ bB;have hw1:∀u v,((wc.drew.setCell (A2 w 0) u).setCell (A2 w 1) v).cell? (A_ w 1)=some (I_ x):=fun u v=>(((U.o.drew).far (p:=A2 w 0) bH u).far (p:=A2 w 1) bH v).cell 1;have HW1:=lH hw1;have HBF:=lH (Bl (B.o.set_ 0 (pF M O N)) ((B.o.set_ 0 (pF M O N)).set_ 1 (I_ (x+1))));have HKF:=lH ((HK9.o.drew.setCell (p:=A2 w 0) (.inr bH) (pF M O N)).setCell (p:=A2 w 1) (.inr bH) (I_ (x+1)));have HPF:=lH ((ar.o.keepsS (Aa.drew (Aa.refl [w.heap.size+1+1] wc) |>.setCell (p:=A2 w 0) (.inl bA) (pF M O N) |>.setCell (p:=A2 w 1) (.inl bA) (I_ (x+1))) (fun k hk=>by simp at hk;subst hk;exact⟨_,B.o,by decide,by decide⟩)));clear hw1;go_wp2_with fail;refine wp_region_held_drew (S:=(fun w':World=>w'.cell? (A_ w 1)=some (I_ x))) bC lK (fun hHeld=>?_);refine rQ 0 ?_;refine rQ 1 ?_;refine rQ 2 ?_;refine rQ 3 ?_;refine rQ 4 ?_;refine rQ 5 ?_;refine rQ 6 ?_;refine rC 7 fun K hK=>?_;go_simp;refine rO hK lK fun hHeld=>?_;clear hK K;refine rQ 8 ?_;refine rQ 9 ?_;refine wpAnyH_done bC ?_ _
   (go_wp2;refine bodyPost_ret (v:=.tuple #[pH #[pF M O N,I_ (x+1)],I_ x,I_ 0]) (by have q0:_=some (pF M O N):=HBF.o.1.cell 0;have q1:_=some (pE .i64 (x+1)):=HBF.o.2.cell 1;simp [results,results166,go_sem,q0,q1]) rfl ?_;exact⟨M,O,N,V9,rfl,au.o,HPF.o,HKF.o,aq.o⟩)
end
section
open Go.RowKit Go.Shelf
attribute [local go_sem] pN
attribute [local go_sem ↓] wp_at_zero wp_at_succ
theorem N4(w:World):(callFunc 323 #[]).run prog w = .ok (.value (.tuple #[])) w:=run_call_mark0 func323 bC bC bC .disable bC w
theorem Pn(w:World):(callFunc 325 #[]).run prog w = .ok (.value (.tuple #[])) w:=run_call_mark0 func325 bC bC bC .enable bC w
theorem TS(a:Addr)(w:World):(callFunc 326 #[pG (some a)]).run prog w = .ok (.value (.tuple #[])) w:=run_call_marked func326 bC bC bC .acquire bC a w
theorem TT(a:Addr)(w:World):(callFunc 328 #[pG (some a)]).run prog w = .ok (.value (.tuple #[])) w:=run_call_marked func328 bC bC bC .releaseMerge bC a w
theorem XM(w:World):Calls prog 320 #[pI true] w fun e w'=>e = pJ (.int .u32 1)/\w=w':=by
 go_enter func320,ntmps320;go_wp2;go_ret;exact⟨rfl,rfl⟩
theorem Sb(b off:Nat)(x:Int)(w:World)(B:w.cell? (A_ b off)=some (.int .u32 x)):
  Calls prog 301 #[pG (some (A_ b off))] w fun e w'=>e = pJ (pI (x != 0))/\w=w':=by
 have hl:=run_call_load (P:=prog) func311 bC bC bC .u32 bC B;go_enter func301,ntmps301;go_wp2;go_ret;exact⟨rfl,rfl⟩
theorem NW(b off:Nat)(x:Value)(u:FrameMode)(w:World)(D:w.cell? (A_ b off)=some x)(hz:w.frozen? (A_ b off)=false):
  CallsD prog 314 #[pG (some (A_ b off)),pI true] u w fun e u' w'=>u'=u/\(e = pJ (.tuple #[])/\w'=w.drew.setCell (A_ b off) (.int .u32 1)):=by
 have hc':w.drew.cell? (A_ b off)=some x:=by go_simp
 have B:w.drew.frozen? (A_ b off)=false:=by go_simp
 have hst:=run_call_store (P:=prog) func319 bC bC bC bC (k:=.u32) (y:=1) hc' B
 go_enter_d func314,ntmps314
 go_wp2
 go_region_held3 (fun _=>True) (exact trivial) (with_reducible refine(XM _).mono ?_;rintro e E ⟨rfl,rfl⟩)
 all_goals (go_end0;exact⟨rfl,rfl⟩)
theorem iunlock(b off:Nat)(w:World)(D:w.cell? (A_ b off)=some (.int .i32 1))(hz:w.frozen? (A_ b off)=false):
  Calls prog 318 #[pG (some (A_ b off))] w fun e w'=>e = pJ (.tuple #[])/\w.setCell (A_ b off) (.int .i32 0)=w':=by
 have F:=N4;have he:=Pn;have hr:=TT;have B:=run_call_add (P:=prog) func329 bC bC bC .i32 bC (y:=-1) (s:=0) D hz (by simp [go_sem];rfl);have E:=run_convert_to_unsafe (P:=prog) (src:=506) (dst:=226) underlying506 underlying226 bC D;go_enter func318,ntmps318;go_wp2
 go_end0
 exact⟨rfl,rfl⟩
theorem M0(b off:Nat)(u:FrameMode)(w:World)(B:w.cell? (A_ b off)=some (.int .i32 1))(hz:w.frozen? (A_ b off)=false):
  CallsD prog 313 #[pG (some (A_ b off))] u w fun e u' w'=>u'=u/\(e = pJ (.tuple #[])/\w'=w.setCell (A_ b off) (.int .i32 0)):=by
 go_enter_d func313,ntmps313
 go_wp2_with (with_reducible refine(iunlock b off _ B hz).mono ?_;rintro e w' ⟨rfl,rfl⟩)
 go_end0
 exact⟨rfl,rfl⟩
theorem ilock(b off:Nat)(w:World)(B:w.cell? (A_ b off)=some (.int .i32 0))(hz:w.frozen? (A_ b off)=false):
  Calls prog 317 #[pG (some (A_ b off))] w fun e w'=>e = pJ (.tuple #[])/\w.setCell (A_ b off) (.int .i32 1)=w':=by
 have G:=N4;have he:=Pn;have F:=TS;have D:=run_call_cas_hit (P:=prog) func324 bC bC bC .i32 bC (y:=1) B hz;have hc':(w.setCell (A_ b off) (.int .i32 1)).cell? (A_ b off)=some (.int .i32 1):=World.cell?_setCell_same w _ _ B;have E:=run_convert_to_unsafe (P:=prog) (src:=506) (dst:=226) underlying506 underlying226 bC hc';go_enter func317,ntmps317;go_wp2;first | go_end0 | (simp only [Exit.inBlock,Exit.then];refine bodyPost_ret (results_none rfl _ _ _) rfl ?_) | refine bodyPost_ret (results_none rfl _ _ _) rfl ?_
 exact⟨rfl,rfl⟩
theorem Wx(b off:Nat)(w:World)(B:w.cell? (A_ b off)=some (.int .i32 0))(hz:w.frozen? (A_ b off)=false):
  Calls prog 312 #[pG (some (A_ b off))] w fun e w'=>e = pJ (.tuple #[])/\w.setCell (A_ b off) (.int .i32 1)=w':=by
 go_enter func312,ntmps312;go_wp2_with (with_reducible refine(ilock b off _ B hz).mono ?_;rintro e w' ⟨rfl,rfl⟩)
 go_end0
 exact⟨rfl,rfl⟩
end
section
open Go.RowKit Go.Shelf
attribute [local go_sem] pN Lr Ls Lp Lq
attribute [local go_sem ↓] wp_at_zero wp_at_succ
def z257:Array Value:=Array.replicate 257 (pF none 0 0)
def FM(a b t:Value):Array Value:=((z257.setIfInBounds 92 a).setIfInBounds 34 b).setIfInBounds 256 t
theorem ML:(prog.info? 490).map (fun i=>(i.zero,i.size))=some (some (.agg z257),257):=bC
theorem XR(w:World):(zeroValue 490).run prog w = .ok (.agg z257) w:=(zero_of_info ML).1 w
theorem OG(t:Value)(w:World)(h1:t.oneCell'=true):(Instr.storeAt 490 (p_ w 0) (.agg (z257.setIfInBounds 256 t))).run prog (w.alloc (.cells z257 490)) = .ok () (w.alloc (.cells (z257.setIfInBounds 256 t) 490)):=by
 refine run_storeAt_new w 490 z257 _ ?_ ?_ ?_
 ·have:=ML
  cases h:prog.info? 490 with
  | none=>rw [h] at this;cases this
  | some i=>rw [h] at this;simp at this ⊢;exact this.2
 ·simp
 ·rw [Array.all_eq_true_iff_forall_mem]
  intro v hv;obtain hv | rfl:v∈z257\/v=t:=Array.mem_or_eq_of_mem_setIfInBounds hv
  ·rw [z257] at hv
   have:=Array.eq_of_mem_replicate hv;subst this;rfl
  ·exact h1
theorem XS(a:Option Addr)(l c:Nat)(w:World):(binOp .eql 174 (pF a l c) (pF none 0 0)).run prog w = .ok (pI a.isNone) w:=AK w 174 5 a l c 0 0 underlying174
theorem PE:z257.size=257:=by simp [z257]
theorem VD(B:Option Addr)(E D:Nat)(w:World)(g:Nat)(hg:g=w.heap.size):(storeCells (A_ g 0) (z257.toList.set 256 (pF B E D))).run prog (w.alloc (.cells z257 490)) = .ok () (w.alloc (.cells (z257.setIfInBounds 256 (pF B E D)) 490)):=by
 have h:=OG (pF B E D) w rfl;rw [<- hg] at h;have hs:(sizeOf 490).run prog (w.alloc (.cells z257 490)) = .ok 257 (w.alloc (.cells z257 490)):=by
  have:=ML;cases hq:prog.info? 490 with
  | none=>rw [hq] at this;cases this
  | some i=>rw [hq] at this;simp at this;simp [sizeOf,typeInfo,hq,this.2]
 simpa [Instr.storeAt,Instr.sureAddr,storeVar,hs,Value.cells,PE] using h
theorem XQ(t:Value):FM (pF none 0 0) (pF none 0 0) t=z257.setIfInBounds 256 t:=by
 have h:∀i,z257.setIfInBounds i (pF none 0 0)=z257:=fun i=>by
  apply Array.ext_getElem?;intro j;rw [Bj];split
  ·rename_i hij
   subst hij;split
   ·rename_i h;rw [z257,Array.getElem?_replicate,if_pos (by simpa [z257] using h)]
   ·rename_i h;rw [z257,Array.getElem?_replicate,if_neg (by simpa [z257] using h)]
  ·rfl
 rw [FM,h,h]
section
variable (a b t u:Value)
theorem UC:(FM a b t)[92]? = some a:=by simp [FM,z257,Bj]
theorem UB:(FM a b t)[34]? = some b:=by simp [FM,z257,Bj]
theorem QY:(FM a b t)[256]? = some t:=by simp [FM,z257,Bj]
theorem Tf:(FM a b t).setIfInBounds 92 u=FM u b t:=by
 apply Array.ext_getElem?;intro i;simp only [FM,Bj,Array.size_setIfInBounds];by_cases h1:92=i
 ·subst h1;simp
 ·simp [h1]
theorem Te:(FM a b t).setIfInBounds 34 u=FM a u t:=by
 apply Array.ext_getElem?;intro i;simp only [FM,Bj,Array.size_setIfInBounds];by_cases h1:34=i
 ·subst h1;simp
 ·simp [h1]
theorem QZ:(FM a b t).setIfInBounds 256 u=FM a b u:=by
 apply Array.ext_getElem?;intro i;simp only [FM,Bj,Array.size_setIfInBounds];by_cases h1:256=i
 ·subst h1;simp
 ·simp [h1]
end
def Gf(s:ByteArray):List Value:=[Dz s]
def L0(w:World)(a:Value)(x y:Int):Prop:=∃q c C fr,a = pF (some ⟨q,0,none⟩) 2 c/\w.heap[q]? = some (.cells C 5 fr)/\C[0]? = some (.int .u8 x)/\C[1]? = some (.int .u8 y)
theorem L0.keeps{w w':World}{a:Value}{x y:Int}{S:List Nat}(h:L0 w a x y)(hk:Aa S w w')(hS:∀q C fr,w.heap[q]? = some (.cells C 5 fr)->q∉S):L0 w' a x y:=by
 obtain⟨q,c,C,fr,rfl,h1,h2,h3⟩:=h;exact⟨q,c,C,fr,rfl,(hk.block q (Ai.1 h1).1 (hS q C fr h1)).trans h1,h2,h3⟩
theorem L0.cells{w:World}{a:Value}{x y:Int}(h:L0 w a x y):∃q c,a = pF (some (A_ q 0)) 2 c/\q<w.heap.size/\w.cell? (A_ q 0)=some (.int .u8 x)/\w.cell? (A_ q 1)=some (.int .u8 y):=by
 obtain⟨q,c,C,B,rfl,h1,h2,h3⟩:=h;exact⟨q,c,rfl,(Ai.1 h1).1,(cell_of_row w q 0 C 5 B h1).trans h2,(cell_of_row w q 1 C 5 B h1).trans h3⟩
theorem N5{w:World}{B n k D:Nat}{e t:TypeId}{v:Value}{xs:List Value}{cs:Array Value}{E:Nat×Nat}(h:w.ownsRow B e n v k xs)(hb:w.heap[D]? = some (.cells cs t E))(hne:t≠e):D∉v.ownBlock.toList:=by
 rcases h.2 with⟨rfl,_⟩ | ⟨g,c,cur,rfl,F,hg,_⟩
 ·simp [EZ]
 ·simp only [EZ,Option.toList_some,Ag]
  rintro rfl;rw [hb] at hg;injection hg with hg
  injection hg with _ ht
  exact hne ht
theorem eV(w:World)(x y:UInt8):∃q c W,(convert 9 174 (Dz ⟨#[x,y]⟩)).run prog w = .ok (pF (some (A_ q 0)) 2 c) W/\L0 W (pF (some (A_ q 0)) 2 c) x.toNat y.toNat/\Aa [] w W:=by
 exact⟨w,_,_,run_bytes_of_string w 9 174 5 ⟨#[x,y]⟩ underlying9 underlying174 underlying5,⟨w,_,_,_,rfl,heap_alloc_new w.drew _,by rw [bytesRow,Array.getElem?_append_left bA];simp,by rw [bytesRow,Array.getElem?_append_left bA];simp⟩,(Aa.refl [] w).drew.alloc _⟩
end
end Go.Proofs.YtjieiikpolahfaaGreatDoor
