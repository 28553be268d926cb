/- Steps. -/
import Derived.Test.YtncebikgoleolaaGreatDoorKal
import Derived.Test.YtncebikgoleolaaGreatDoorKan
import Derived.RangeFuncBox
import Derived.RangeFuncLeaves
import Derived.RangeFuncNested
import Derived.RangeFuncBound
import Derived.RangeFuncCalls
import Derived.Shelf.Abstract
import Derived.Shelf.RegionOpen
import Derived.OwnWalkIn
import Derived.TacticsInMore
import Derived.LoopNIn
import Derived.LoopIn
import Derived.Maps.AppendAt
import Derived.Laws.EntriesVeiled
import Derived.Sort.QuietIn
import Derived.WalkMore
import Derived.Deep.RegionHeld3
import Derived.Deep.DrawnRows
import Derived.Laws.RangeAny
import Derived.Deep.Slices
import Derived.Deep.AppendLies
import Derived.Deep.Fields
import Derived.Laws.BytesArg
import Derived.Laws.IdiomStrings
import Derived.Deep.RegionLaw
import Derived.Sort.LoopGhostIn
import Derived.Deep.MidRow
import Derived.Laws.ResultCell
import Derived.Deep.WholeRow
import Derived.Deep.RegionHeld
set_option maxRecDepth 100000
set_option maxHeartbeats 8000000
set_option linter.all false
namespace Go.Proofs.YtncebikgoleolaaGreatDoor
open Tryz
open _root_.Go renaming undef→UD
open _root_.Array renaming getElem?_eq_some_iff→Ai,length_toList→BX,replicate_succ→Bt,replicate_zero→Bu
open _root_.Bool renaming eq_iff_iff→DI,false_and→Ep,true_and→DJ
open Builtin renaming append_→BI
open Ending renaming returned→pJ
open Exit renaming noGoto_normal→AY
open Fence renaming wide→Bx
open Instr renaming findNow→B0,lookup→Ed
open IntKind renaming i64→pK
open _root_.List renaming all_eq_true→Bm,append_assoc→CC,append_toArray→BD,cons_append→AL,eq_nil_of_length_eq_zero→Ds,getElem?_eq_getElem→Aq,getElem?_eq_some_iff→Ad,getElem?_map→qH,getElem?_take→Dh,getElem_mem→pS,length_append→Al,length_cons→Av,length_map→Bd,length_nil→D4,length_singleton→Bp,map_append→pO,map_cons→CR,mem_append→AQ,mem_cons_of_mem→Ca,mem_cons→Ac,mem_of_getElem?→CD,mem_singleton→Ag,nil_append→BH,push_toArray→Cd,size_toArray→Cz,take_append_drop→Dn,take_of_length_le→Ak,take_succ_eq_append_getElem→BJ
open _root_.Nat renaming add_zero→AT,le_refl→Aw,le_trans→A8,lt_of_lt_of_le→BS,reduceAdd→pL,reduceSub→pM,zero_add→AW,zero_le→Ba
open Oper renaming semAt_some→pN
open Result renaming andThen→Bg
open _root_.UInt8 renaming toNat_inj→DX
open Value renaming agg→pH,bool→pI,int→pE,ownBlock→EZ,pointer→pG,slice→pF,string→Dz
open World renaming alloc_heap_new→pV,block_lt_of_cell?→Be,cell?_of_block→BL,ownsRow_nil→BQ,putObj_heap_other→AM,putObj_heap_same→pU,size_alloc→Eo
section
open Go.RowKit Go.Shelf
theorem BW{n:Nat}{P:Program}{Q:Exit->Act->World->Prop}{a:Act}{w:World}{c:Code}(h:c.wpIn Bx n P (Exit.noGoto Q) a w):(Code.scope c).wpIn Bx n P Q a w:=
 wpIn_wide.2 (wp_scope_straight (wpIn_wide.1 h))
def GZ(L:List Nat)(W W':World):Prop:=∀k∈L,W'.heap[k]? = W.heap[k]?
theorem GZ.trans{L:List Nat}{A B C:World}(h:GZ L A B)(k:GZ L B C):GZ L A C:=fun i hi=>(k i hi).trans (h i hi)
theorem GZ.refl(L:List Nat)(A:World):GZ L A A:=fun _ _=>rfl
theorem GZ.put{L:List Nat}{N:Nat}(hL:∀k∈L,k<N)(W:World)(l:Nat)(o o':Obj)(hl:N<=l)(_:W.heap[l]? = some o)(_:o.isCells=false)(_:o.isWalk=false):GZ L W (W.putObj l o'):=
 fun k hk=>AM (by have:=hL k hk;omega)
theorem GZ.blk{L:List Nat}{W W':World}{g:Nat}{t:TypeId}{cs:Array Value}(h:GZ L W W')(hg:g∈L)(hb:Blk W g t cs):Blk W' g t cs:=(h g hg).trans hb
theorem Dq{P:Program}{F:Fence}{n l:Nat}{args:Array Value}{W:World}{G H:World->Prop}(h:YieldAt F n P l args W fun e W'=>(e = pJ (pI true)/\G W')\/(e = pJ (pI false)/\H W')):
  YieldAt F n P l args W fun e W'=>∃g:Bool,e = pJ (pI g)/\Hi (g=true->G W')/\Hi (g=false->H W'):=by
 obtain⟨fn,tmps,assign,body,hy,hR⟩:=h;refine⟨fn,tmps,assign,body,hy,hR.mono ?_⟩;rintro e W' (⟨rfl,h⟩ | ⟨rfl,h⟩)
 ·exact⟨true,rfl,(fun _=>h:true=true->G W'),(fun h=>(by cases h):true=false->H W')⟩
 ·exact⟨false,rfl,(fun h=>(by cases h):false=true->G W'),(fun _=>h:false=false->H W')⟩
def CA(B:Nat)(W W':World):Prop:=W.heap.size<=W'.heap.size/\∀k,B<=k->k<W.heap.size->W'.heap[k]? = W.heap[k]?
theorem CA.refl(B:Nat)(W:World):CA B W W:=⟨Aw _,fun _ _ _=>rfl⟩
theorem CA.trans{B:Nat}{X Y Z:World}(h:CA B X Y)(k:CA B Y Z):CA B X Z:=
 ⟨A8 h.1 k.1,fun i hi hl=>(k.2 i hi (BS hl h.1)).trans (h.2 i hi hl)⟩
theorem CA.mono{B C:Nat}{X Y:World}(h:CA B X Y)(hc:B<=C):CA C X Y:=⟨h.1,fun i hi hl=>h.2 i (A8 hc hi) hl⟩
theorem CA.putObj{B l:Nat}(hl:l<B)(W:World)(o:Obj):CA B W (W.putObj l o):=⟨by simp,fun k hk _=>AM bB⟩
theorem CA.setCell{B:Nat}{p:Addr}(hp:p.block<B)(W:World)(v:Value):CA B W (W.setCell p v):=⟨by simp [World.setCell],fun k hk _=>Below.heap_setCell W p v k bB⟩
theorem CA.drewN{B:Nat}{X Y:World}(h:CA B X Y)(n:Nat):CA B X (Y.drewN n):=h
def eY{β:Type}(B:Nat)(J:β->World->Prop):Prop:=∀s A A',J s A->Below B A A'->J s A'
theorem eY.put{β:Type}{B:Nat}{J:β->World->Prop}(h:eY B J){s:β}{W:World}{l:Nat}(o':Obj)(hs:J s W)(hB:B<=l)(hl:l<W.heap.size):J s (W.putObj l o'):=
 h s W _ hs ((Below.refl B W).grown (grownBy_putObj' W l o') bB (fun k e=>by cases e;omega))
def ZA{α:Type}(B:Nat)(I Ix:List α->World->Prop)(xs:List α)(W:World):Exit->Act->World->Prop
 | .normal,_,W'=>CA B W W'/\I xs W'
 | .ret,_,W'=>CA B W W'/\Ix xs W'
 | _,_,_=>False
variable {F:Fence} {n:Nat} {P:Program}
theorem EI{F:Fence}{B:Nat}{P:Program}(w:World){ops:Array Oper}{rest:List Oper}{o:Oper}{a:Act}{Q:Exit->Act->World->Prop}(hgd:o.guard=none)(s x:Operand)(t:TypeId)
 (ho:o.op = .call { callee:=.builtin .append,args:=#[s,x],argTypes:=#[t,t] }){v u v':Value}{w':World}(hs:a.eval s=v)(hx:a.eval x=u)
 (hr:(BI #[t,t] o.type #[v,u]).run P w = .ok v' w')(h:wpListIn F B P ops Q rest (a.put o.dst v') w'):wpListIn F B P ops Q (o::rest) a w:=by
 refine wpListIn_plain hgd fun K hK=>?_;unfold Oper.wpIn;refine⟨by simp [Oper.about,ho,resolve,Target.leads,Sem.run_pure],?_⟩;rw [Oper.semAt_plain F _ _ lN];simp [execOp,ho,resolve,invoke,builtin,hs,hx,hr,Bg];exact hK _ _ h
theorem CA.alloc{B:Nat}{X Y:World}(h:CA B X Y)(o:Obj):CA B X (Y.alloc o):=
 ⟨A8 h.1 bA,fun k hk hl=>(Below.heap_alloc Y o k (BS hl h.1)).trans (h.2 k hk hl)⟩
theorem CA.of_keeps{S:List Nat}{B:Nat}{X Y:World}(h:Aa S X Y)(hS:∀k∈S,k<B):CA B X Y:=
 ⟨h.size,fun k hk hl=>h.block k hl (fun hm=>by have:=hS k hm;omega)⟩
def fP{α:Type}(F:Fence)(n:Nat)(P:Program)(g:Nat)(lb:Array Value)(encs:α->Array Value)(ys:List α)(V:World->Prop)(w0:World):Prop:=
 ∀(l:Nat) (J Jx:List α->World->Prop) (W:World),Below w0.heap.size w0 W->eY W.heap.size J->eY W.heap.size Jx->(∀s A,J s A->V A)->
  (∀pre x W1,J pre W1->pre++[x] <+: ys->YieldAt F (n - 1) P l (encs x) W1 fun e W'=>
   (e = pJ (pI true)/\J (pre++[x]) W'/\CA W.heap.size W1 W')\/(e = pJ (pI false)/\Jx (pre++[x]) W'))->
  J [] W->
  CallsIn F n P g (#[.func (.yield l) #[] #[]]++lb) W fun e W'=>(∃v,e = pJ v)/\(J ys W'\/(∃pre,pre <+: ys/\Jx pre W'))
variable {F:Fence} {n:Nat} {P:Program}
theorem Fn{α:Type}{g:Operand}{ps:Array Tmp}{assign body:Code}{Q:Exit->Act->World->Prop}{a:Act}{w:World}
 (a2:F.round=none)(h1:1<=n){gf:Nat}{lb:Array Value}(hg:a.eval g = .func (.func gf) #[] lb)(ao:F.fn gf)(eg:∀args w,(callFunc gf args).run P w = .ok (.enter gf args) w)
 {E:α->Array Value}{ys:List α}{V:World->Prop}{w0:World}(ak:fP F (n - 1) P gf lb E ys V w0)(hb0:Below w0 w0 w)(a1:∀x,(E x).size=ps.size)
 (I Ix:List α->World->Prop)(hI:eY w I)(X:eY w Ix)(ap:∀s A,I s A->V A)(h0:I [] w)(a₁:α->Nat->Act)(G:α->Obj)
 (M:∀(l:Nat) (x:α) (W:World) (K:Act->World->Prop),K (a₁ x W) (W.alloc (G x))->
   assign.wpIn (F.inRound l) (n - 1 - 1) P (Exit.then K (fun _ _ _=>False)) { tmps:=(ps.zip (E x)).foldl (fun t (p,v)=>t.setIfInBounds p v) a.tmps,defers:=[] } W)
 (Y:∀(l:Nat) (pre:List α) (x:α) (b:Nat) (W:World),I pre W->pre++[x] <+: ys->w.heap.size<=b->W.heap[b]? = some (G x)->body.wpIn (F.inRound l) (n - 1 - 1) P (ZA w I Ix (pre++[x]) W) (a₁ x b) W)
 (ab:∀(D:Nat) (W:World),w.heap.size<=D->I ys W->W.heap[D]? = some (.deferred (some []))->Q .normal { a with defers:={ target:=.collected D,args:=#[] } :: a.defers } W)
 (ae:∀(D:Nat) (pre:List α) (W:World),w.heap.size<=D->pre <+: ys->Ix pre W->W.heap[D]? = some (.deferred (some []))->Code.ret.wpIn F n P Q { a with defers:={ target:=.collected D,args:=#[] } :: a.defers } W):
  (Code.rangeFunc g ps assign body).wpIn F n P Q a w:=by
 refine wpIn_rangeFunc fun fn ax=>?_;rw [a2]
 let D:=w.heap.size
 let l:=w.heap.size+1
 let rec_:LoopState->Option Code->Loop:=fun st pe=>{ state:=st,pending:=pe,fn,tmps:=a.tmps,params:=ps,assign,body,defers:=D }
 let W1:=(w.alloc (.deferred (some []))).alloc (.loop (rec_ .ready none))
 have hs1:W1.heap.size=w.heap.size+2:=by simp [W1]
 have hL:W1.heap[l]? = some (.loop (rec_ .ready none)):=by
  have:=pV (w.alloc (.deferred (some []))) (.loop (rec_ .ready none))
  rwa [Eo] at this
 have hD:W1.heap[D]? = some (.deferred (some [])):=(Below.heap_alloc _ _ _ (by simp [D])).trans (pV w _);have hb1:Below w w W1:=((Below.refl _ w).alloc (Aw _) _).alloc bA _;refine⟨l,[{ target:=.collected D,args:=#[] }],W1,{ target:=.fn (.func gf) lb,args:=#[.func (.yield l) #[] #[]] },W1,gf,#[.func (.yield l) #[] #[]]++lb,W1,run_enterLoop_outer _ _ _ _ _,?_,?_,?_,fun _=>h1,?_⟩
 ·simp only [resolve,hg];simp [go_sem]
 ·intro f' ag;simp [Target.leads] at ag;subst ag;exact ao
 ·simp [invoke,go_sem,eg]
 have ad:w.heap.size<=W1.heap.size:=bB;refine(ak l
  (fun pre W=>I pre W/\W1.heap.size<=W.heap.size/\W.heap[l]? = some (.loop (rec_ .ready none))/\W.heap[D]? = some (.deferred (some [])))
  (fun pre W=>Ix pre W/\W1.heap.size<=W.heap.size/\W.heap[l]? = some (.loop (rec_ .done (some .ret)))/\W.heap[D]? = some (.deferred (some [])))
  W1 (hb0.trans (hb1.mono hb0.size))
  (fun s A A' hs T=>⟨hI s A A' hs.1 (T.mono ad),A8 hs.2.1 T.size,(T.block l bB).trans hs.2.2.1,(T.block D bB).trans hs.2.2.2⟩)
  (fun s A A' hs T=>⟨X s A A' hs.1 (T.mono ad),A8 hs.2.1 T.size,(T.block l bB).trans hs.2.2.1,(T.block D bB).trans hs.2.2.2⟩)
  (fun s A hs=>ap s A hs.1)
  ?_ ⟨hI _ _ _ h0 hb1,Aw _,hL,hD⟩).mono ?_
 ·rintro pre x W ⟨hi,hsz,hl,hd⟩ aj
  have hlt:l<W.heap.size:=bB;have ai:(W.alloc (G x)).heap[l]? = some (.loop (rec_ .ready none)):=(Below.heap_alloc _ _ _ hlt).trans hl;have av:(W.alloc (G x)).heap[D]? = some (.deferred (some [])):=(Below.heap_alloc _ _ _ bB).trans hd;have U:l<(W.alloc (G x)).heap.size:=(Ai.1 ai).1;refine⟨fn,_,assign,body,run_yield (P:=P) (args:=E x) hl (a1 x),roundIn_of_wpIn ax (M _ x W _ ⟨_,run_beginRound ai rfl,?_⟩)⟩;have az:((W.alloc (G x)).putObj l (.loop { rec_ .ready none with state:=.busy })).heap[l]? = some (.loop { rec_ .ready none with state:=.busy }):=pU U;have ar:((W.alloc (G x)).putObj l (.loop { rec_ .ready none with state:=.busy })).heap[D]? = some (.deferred (some [])):=(AM bB).trans av;have hb2:((W.alloc (G x)).putObj l (.loop { rec_ .ready none with state:=.busy })).heap[W.heap.size]? = some (G x):=(AM bB).trans (pV W (G x));have aw:CA W1 W ((W.alloc (G x)).putObj l (.loop { rec_ .ready none with state:=.busy })):=((CA.refl _ W).alloc _).trans (CA.putObj bB _ _);have ay:I pre (W.alloc (G x)):=hI _ _ _ hi ((Below.refl _ W).alloc bB _);have a5:(W.alloc (G x)).heap.size=W.heap.size+1:=bA;refine wpIn_mono (Y _ pre x _ _ (hI.put _ ay bB U) aj bB hb2) ?_;rintro e a3 O hp;have J:∀(B:Option Code),CA w ((W.alloc (G x)).putObj l (.loop { rec_ .ready none with state:=.busy })) O->
    (Instr.endRound l B).run P O = .ok (pI B.isNone) (O.putObj l (.loop (rec_ (if B.isNone then .ready else .done) B)))/\l<O.heap.size/\W1.heap.size<=O.heap.size/\
    (O.putObj l (.loop (rec_ (if B.isNone then .ready else .done) B))).heap[l]? = some (.loop (rec_ (if B.isNone then .ready else .done) B))/\
    (O.putObj l (.loop (rec_ (if B.isNone then .ready else .done) B))).heap[D]? = some (.deferred (some []))/\
    CA W1 W (O.putObj l (.loop (rec_ (if B.isNone then .ready else .done) B))):=fun B hk=>by
   have hk1:=hk.1;rw [World.putObj_size,a5] at hk1;have a0:O.heap[l]? = some (.loop { rec_ .ready none with state:=.busy }):=(hk.2 l bB (by rw [World.putObj_size];omega)).trans az;have au:O.heap[D]? = some (.deferred (some [])):=(hk.2 D bB (by rw [World.putObj_size];omega)).trans ar;exact⟨run_endRound (P:=P) B a0,by omega,by omega,pU bB,(AM bB).trans au,(aw.trans (hk.mono ad)).trans (CA.putObj bB _ _)⟩
  cases e with
  | normal=>
   obtain⟨hr,N,a4,ac,aa,ah⟩:=J none hp.1;exact⟨_,_,hr,.inl ⟨rfl,⟨hI.put _ hp.2 bB N,by simp;omega,ac,aa⟩,ah⟩⟩
  | ret=>
   obtain⟨hr,N,a4,ac,aa,ah⟩:=J (some .ret) hp.1;exact⟨_,_,hr,.inr ⟨rfl,X.put _ hp.2 bB N,by simp;omega,ac,aa⟩⟩
  | exit id=>exact hp.elim
  | goto t=>exact hp.elim
  | panic ch=>exact hp.elim
  | outgrown=>exact hp.elim
 ·rintro e W2 ⟨⟨v,rfl⟩,(⟨hi,hsz,hl,hd⟩ | ⟨pre,aq,hi,hsz,hl,hd⟩)⟩
  ·exact⟨none,_,run_endLoop (P:=P) hl (by simp [rec_]),ab D _ (Aw _) (hI.put _ hi bB bB) ((AM bB).trans hd)⟩
  ·exact⟨some .ret,_,run_endLoop (P:=P) hl (by simp [rec_]),ae D pre _ (Aw _) aq (X.put _ hi bB bB) ((AM bB).trans hd)⟩
end
section
open Go.RowKit Go.Shelf
attribute [local go_sem ↓] wp_at_zero wp_at_succ
theorem Th(b:UInt8)(h:128<=b.toNat):GM b=false:=by
 unfold GM;simp;omega
theorem Ue(s:ByteArray)(k:Nat)(h:k<s.size):(s.data.toList.take (k+1)).all GM=((s.data.toList.take k).all GM&&GM (s[k]'h)):=by
 rw [BJ bK,List.all_append];simp;rfl
theorem Pw(s:ByteArray)(k:Nat)(h:k<s.size)(hb:GM (s[k]'h)=false):Hc s=false:=by
 unfold Hc;apply Bool.eq_false_iff.2;intro B;rw [Bm] at B;have:=B (s[k]'h) (by
  have:s.data.toList[k]' bK∈s.data.toList:=pS _;exact this)
 rw [hb] at this;cases this
theorem Ff(w:World)(s:ByteArray)(k:Nat):Aa [] w (w.iter s k):=(Aa.refl [] w).alloc _
theorem Jl(s:ByteArray)(b:Bool)(hb:Hc s=b)(w:World):Calls prog 75 #[Dz s] w fun r w'=>r = pJ (pI b)/\Aa [] w w':=by
 have HB:=lH hb;clear hb;go_enter func75,ntmps75;go_wp2;go_loopw [4] (fun _ w'=>∃k:Nat,k<=s.size/\w'=w.iter s k/\Hi ((s.data.toList.take k).all GM=true)) (fun _ w'=>s.size - w'.iterPos w)
 case atStart=>exact⟨0,Ba _,rfl,lH rfl⟩
 case round=>
  obtain⟨k,hk,rfl,O⟩:=hrel;by_cases hp:k<s.size
  ·obtain⟨c,F⟩:=eX ((s[k]'hp))
   by_cases ha:c.toNat<128
   ·have G:∀B,(Instr.next (p_ w 0) true B).run prog (w.iter s k) = .ok (.tuple #[pI true,I_ k,.int .i32 c.toNat]) (w.iter s (k+1)):=fun B=>by
     have:=run_next_ascii (P:=prog) w s k B hp (by rw [F];exact ha);rw [F] at this;exact this
    have HC:=lH F;have HP:=lH hp;have J:=lH (Ue s k hp);clear F;cases hcb:GM c with
    | true=>
     have E:¬(c.toNat:Int)<32:=by unfold GM at hcb;simp at hcb;omega
     have D:¬(126:Int)<(c.toNat:Int):=by unfold GM at hcb;simp at hcb;omega
     have M:Hi ((s.data.toList.take (k+1)).all GM=true):=lH (by rw [J.o,O.o,HC.o,hcb];rfl);clear hcb;go_wp2;go_roundw;case rel=>exact⟨k+1,by omega,rfl,M⟩
     case measure=>simp;omega
    | false=>
     obtain rfl:b=false:=by rw [<- HB.o];exact Pw s k HP.o (by rw [HC.o];exact hcb)
     have N:(c.toNat:Int)<32\/(¬(c.toNat:Int)<32/\(126:Int)<(c.toNat:Int)):=by unfold GM at hcb;simp at hcb;omega
     clear hcb;rcases N with E | ⟨E,D⟩
     all_goals
      go_wp2;go_ret;exact⟨rfl,Ff w s _⟩
   ·obtain rfl:b=false:=by rw [<- HB.o];exact Pw s k hp (by rw [F];exact Th c bB)
    have T:=decode_high s k hp (by rw [F];omega);obtain⟨r,hr⟩:∃r:Nat,(Utf8.decode s k).1=r:=⟨_,rfl⟩;obtain⟨q,hq⟩:=eX (k+(Utf8.decode s k).2);have G:∀B,(Instr.next (p_ w 0) true B).run prog (w.iter s k) = .ok (.tuple #[pI true,I_ k,.int .i32 r]) (w.iter s q):=fun B=>by
     have:=run_next_any (P:=prog) w s k B hp;rw [hr,hq] at this;exact this
    have E:¬(r:Int)<32:=bB;have D:(126:Int)<(r:Int):=bB;clear F T hr hq;go_wp2;go_ret;exact⟨rfl,Ff w s _⟩
  ·obtain rfl:k=s.size:=bB;obtain rfl:b=true:=by
    rw [<- HB.o];have:=O.o
    rwa [Ak bA] at this
   have G:∀B,(Instr.next (p_ w 0) true B).run prog (w.iter s s.size)=_:=fun B=>run_next_end w s s.size B hp;go_wp2;go_ret;exact⟨rfl,Ff w s _⟩
theorem Od(s:ByteArray)(hs:s.size<=maxLen)(b:Bool)(hb:Gi s=b)(w:World):Calls prog 98 #[Dz s] w fun r w'=>r = pJ (pI b)/\Aa [] w w':=by
 have HS:=lH hs;unfold maxLen at hs;unfold Gi at hb;by_cases h:s.size<=64
 ·rw [decide_eq_true h,DJ] at hb
  have HB:=lH hb;have h1:(s.size:Int)<=64:=bB;clear hb;go_enter func98,ntmps98;go_wp2_with fail;refine(Jl s b HB.o _).mono ?_;rintro r w' ⟨rfl,hk⟩;go_wp2;go_ret;exact⟨rfl,hk⟩
 ·rw [decide_eq_false h,Ep] at hb
  subst hb;have h1:¬(s.size:Int)<=64:=bB;go_enter func98,ntmps98;go_wp2_with fail;go_ret;exact⟨rfl,Aa.refl [] w⟩
theorem Me(s:ByteArray)(hs:s.size<=maxLen)(b:Bool)(hb:Gi s=b)(w:World):Calls prog 147 #[Dz s] w fun r w'=>r = pJ (pI (!b))/\Aa [] w w':=by
 have HB:=lH hb;have HS:=lH hs;clear hb hs;go_enter func147,ntmps147;go_wp2_with fail;refine(Od s HS.o b HB.o _).mono ?_;rintro r w' ⟨rfl,hk⟩;go_wp2;go_ret;exact⟨rfl,hk⟩
def ST(w:World)(g off:Nat)(L:List ByteArray):Prop:=∀i (h:i<L.length),w.cell? ⟨g,off+i,none⟩=some (Dz L[i])
def EF(w:World)(a:Option Addr)(L:List ByteArray):Prop:=L≠[]->∃g off cs fz,a=some ⟨g,off,none⟩/\w.heap[g]? = some (.cells cs 9 fz)/\ST w g off L
def ID(w:World)(S:List Nat):Prop:=∀k∈S,∀cs fz,w.heap[k]?≠some (.cells cs 9 fz)
theorem EF.keepsS{S:List Nat}{w w':World}{a:Option Addr}{L:List ByteArray}(h:EF w a L)(hk:Aa S w w')(hS:ID w S):EF w' a L:=fun hn=>by
 obtain⟨g,off,cs,fz,ha,hg,hat⟩:=h hn;have hl:=(Ai.1 hg).1;have hgS:g∉S:=fun hm=>hS g hm cs fz hg;exact⟨g,off,cs,fz,ha,(hk.block g hl hgS).trans hg,fun i hi=>(hk.cell (p:=A_ g (off+i)) hl hgS).trans (hat i hi)⟩
theorem ID.nil(w:World):ID w []:=fun _ h=>by cases h
theorem EF.keeps{w w':World}{a:Option Addr}{L:List ByteArray}(h:EF w a L)(hk:Aa [] w w'):EF w' a L:=h.keepsS hk (ID.nil w)
theorem EF.take{w:World}{a:Option Addr}{L:List ByteArray}(h:EF w a L)(k:Nat):EF w a (L.take k):=fun hn=>by
 obtain⟨g,off,cs,fz,ha,hg,hat⟩:=h (by rintro rfl;simp at hn);exact⟨g,off,cs,fz,ha,hg,fun i hi=>by
  have hi2:i<L.length:=by simp at hi;omega
  rw [hat i hi2];simp⟩
theorem Nh(a:Option Addr)(c:Nat)(L:List ByteArray)(b:Bool)(hb:L.all Gi=b)(w:World)(hL:EF w a L)(F:L.length<=1000000)(hs:∀s∈L,s.size<=maxLen):
  Calls prog 180 #[pF a L.length c,.func (.func 147) #[] #[]] w fun r w'=>(∃i:Int,r = pJ (I_ i)/\(decide (0<=i) = !b))/\Aa [] w w':=by
 have HB:=lH hb;have U:=lH hL;have HS:=lH hs;obtain⟨N,hN⟩:=eX L.length;have HN:=lH hN;have Y:N<=1000000:=bB;rw [hN];clear hb hL hs hN F;go_enter func180,ntmps180;go_wp2;go_loopw [5,8] (fun _ i wr=>∃k:Nat,k<=N/\i = I_ k/\Hi ((L.take k).all Gi=true)/\Hi (Aa [] w wr)) (fun _ i _=>N - (intOf i).toNat)
 case atStart=>exact⟨0,Ba _,rfl,lH rfl,lH (Aa.refl [] w)⟩
 case round=>
  obtain⟨k,hk,rfl,O,HK⟩:=hrel;by_cases hlt:k<N
  ·have hk1:k<L.length:=by rw [HN.o];exact hlt
   obtain⟨g,off,cs,fz,rfl,E,hat⟩:=U.o gC;have hg:=(Ai.1 E).1;obtain⟨x,hx⟩:=eX (L[k]);have q1:=hat k hk1;rw [hx,<- HK.o.cell (by exact hg) bA] at q1;have i1:(0:Int)<=(k:Int):=bB;have i2:(k:Int)<(N:Int):=bB;have J:x.size<=maxLen:=HS.o x kG;have G:(L.take (k+1)).all Gi=((L.take k).all Gi&&Gi x):=by
    rw [BJ hk1,List.all_append,hx];simp
   have B:x∈L:=by rw [<- hx];exact pS _
   have HM:=lH B;have X:=lH G;have D:=lH J;clear hat hx G J B hk1 E;cases hr:Gi x with
   | true=>
    have M:Hi ((L.take (k+1)).all Gi=true):=lH (by rw [X.o,O.o,hr];rfl);have HR:=lH hr;clear hr;go_wp2_with fail;refine(Me x D.o true HR.o _).mono ?_;rintro r w2 ⟨rfl,hk2⟩;have HK2:=lH (HK.o.trans hk2);clear hk2;go_wp2;go_roundw;case rel=>exact⟨k+1,by omega,by go_num,M,HK2⟩
    case measure=>simp [intOf];omega
   | false=>
    obtain rfl:b=false:=by
     rw [<- HB.o];apply Bool.eq_false_iff.2;intro T;rw [Bm] at T;have:=T x HM.o;rw [hr] at this;cases this
    have HR:=lH hr;clear hr;go_wp2_with fail;refine(Me x D.o false HR.o _).mono ?_;rintro r w2 ⟨rfl,hk2⟩;have HK2:=lH (HK.o.trans hk2);clear hk2;go_wp2;go_ret;exact⟨⟨_,rfl,by simp⟩,HK2.o⟩
  ·obtain rfl:k=N:=bB;obtain rfl:b=true:=by
    rw [<- HB.o];have:=O.o
    rwa [Ak bL] at this
   go_wp2;go_ret;exact⟨⟨_,rfl,by simp⟩,HK.o⟩
theorem KF(a:Option Addr)(c:Nat)(L:List ByteArray)(b:Bool)(hb:L.all Gi=b)(w:World)(hL:EF w a L)(B:L.length<=1000000)(hs:∀s∈L,s.size<=maxLen):
  Calls prog 148 #[pF a L.length c,.func (.func 147) #[] #[]] w fun r w'=>r = pJ (pI (!b))/\Aa [] w w':=by
 have HB:=lH hb;have D:=lH hL;have HS:=lH hs;have HN:=lH B;clear hb hL hs B;go_enter func148,ntmps148;go_wp2_with fail;refine(Nh a c L b HB.o _ D.o HN.o HS.o).mono ?_;rintro r w' ⟨⟨i,rfl,hi⟩,hk⟩;have HK:=lH hk;clear hk;go_wp2;go_ret;exact⟨rfl,HK.o⟩
theorem Gk(a:Option Addr)(c:Nat)(L:List ByteArray)(b:Bool)(hb:Dd L=b)(w:World)(hL:EF w a L)(B:L.length<=1000000)(hs:∀s∈L,s.size<=maxLen):
  Calls prog 109 #[pF a L.length c] w fun r w'=>r = pJ (pI b)/\Aa [] w w':=by
 have D:=lH hL;have HS:=lH hs;have HN:=lH B;unfold Dd at hb;by_cases h:L.length<=64
 ·rw [decide_eq_true h,DJ] at hb
  have HB:=lH hb;have h1:(L.length:Int)<=64:=bB;clear hb hL hs;go_enter func109,ntmps109;go_wp2_with fail;refine(KF a c L b HB.o _ D.o HN.o HS.o).mono ?_;rintro r w' ⟨rfl,hk⟩;have HK:=lH hk;clear hk;go_wp2;go_ret;exact⟨by simp,HK.o⟩
 ·rw [decide_eq_false h,Ep] at hb
  subst hb;have h1:¬(L.length:Int)<=64:=bB;clear hL hs;go_enter func109,ntmps109;go_wp2_with fail;go_ret;exact⟨rfl,Aa.refl [] w⟩
end
section
open Go.RowKit Go.Shelf
attribute [local go_sem] pN
attribute [local go_sem ↓] wp_at_zero wp_at_succ
theorem ZS:(prog.info? 5).map (fun i=>(i.zero,i.size,i.bytes))=some (some (.int .u8 0),1,1):=bC
theorem Xk:(prog.info? 9).map (fun i=>(i.zero,i.size,i.bytes))=some (some (Dz ⟨#[]⟩),1,16):=bC
def Dk(l:List UInt8):ByteArray:=⟨l.toArray⟩
def FZ:Option Int->Value
 | none=>.nilIface
 | some k=>.iface 182 (pH #[pE pK k])
def Mx(x:Bool×Int):List Value:=[pI x.1,pE pK x.2]
def CU:List (Bool×Int)->Option Int
 | []=>none
 | x::l=>if x.1 then some x.2 else CU l
theorem Mb{L:List (Bool×Int)}{k:Nat}{x:Bool×Int}(h:CU (L.take k)=none)(hx:L[k]? = some x):CU (L.take (k+1))=(if x.1 then some x.2 else none):=by
 have hk:=(Ad.1 hx);obtain⟨hk1,rfl⟩:=hk;rw [BJ hk1];have:∀(l:List (Bool×Int)) (y:Bool×Int),CU l=none->CU (l++[y])=(if y.1 then some y.2 else none):=by
  intro l y;induction l with
  | nil=>intro _;rfl
  | cons z l ih=>
   intro h;unfold CU at h;split at h
   ·cases h
   ·rename_i hz
    show(if z.1 then some z.2 else CU (l++[y]))=_;rw [if_neg hz,ih h]
 exact this _ _ h
theorem T4{L:List (Bool×Int)}{k:Nat}{x:Bool×Int}(h:CU (L.take k)=none)(hx:L[k]? = some x)(hb:x.1=true):CU L=some x.2:=by
 have h1:=Mb h hx;rw [if_pos hb] at h1;have:∀(l m:List (Bool×Int)) (z:Int),CU l=some z->CU (l++m)=some z:=by
  intro l m z;induction l with
  | nil=>intro h;cases h
  | cons y l ih=>
   intro h;unfold CU at h;show(if y.1 then some y.2 else CU (l++m))=_;split at h
   ·rename_i hy;rw [if_pos hy,<- h]
   ·rename_i hy;rw [if_neg hy,ih h]
 have h2:=this _ (L.drop (k+1)) _ h1
 rwa [Dn] at h2
theorem CY(a:Option Addr)(c:Nat)(L:List (Bool×Int))(n:Nat)(hn:L.length=n)(hL:n<=1000)(R:Option Int)(hR:CU L=R)(w:World)(h:AR Mx 2 w a c L):
  Calls prog 74 #[pF a n c] w fun e w'=>e = pJ (FZ R)/\Aa [] w w':=by
 have HA:=lH h.at_;have HN:=lH hn;have HR:=lH hR;clear h hn hR;go_enter func74,ntmps74;go_wp2;go_loopw [7] (fun i wr=>∃k:Nat,i = I_ k/\k<=n/\Hi (CU (L.take k)=none)/\Hi (Aa [] w wr)) (fun i _=>n - (intOf i).toNat)
 case atStart=>exact⟨0,rfl,Ba _,lH rfl,lH (Aa.refl _ _)⟩
 case round=>
  obtain⟨k,rfl,hk,D,HK⟩:=hrel;by_cases hlt:k<n
  ·have hk1:k<L.length:=by rw [HN.o];exact hlt
   obtain⟨g,off,rfl,hg,hat⟩:=HA.o bB;obtain⟨⟨b,y⟩,hx⟩:∃x,L[k]? = some x:=⟨_,Aq hk1⟩;have B:L[k]=(b,y):=by rw [Aq hk1] at hx;injection hx
   have F:=hat k hk1 0 (pI b) (by rw [B];rfl);have G:=hat k hk1 1 (I_ y) (by rw [B];rfl);rw [AT] at F;rw [<- HK.o.cell (p:=A_ g (off+k*2)) hg bA] at F;rw [<- HK.o.cell (p:=A_ g (off+k*2+1)) hg bA] at G;have i1:(0:Int)<=(k:Int):=bB;have i2:(k:Int)<(n:Int):=bB
   cases b with
   | true=>
    have hr:=T4 D.o hx rfl;rw [HR.o] at hr;subst hr;clear hat B hx hk1 hg D;go_wp2;go_ret;exact⟨rfl,HK.o.alloc _⟩
   | false=>
    have E:Hi (CU (L.take (k+1))=none):=lH (Mb D.o hx);clear hat B hx hk1 hg D;go_wp2;go_roundw;case rel=>exact⟨k+1,by go_num,by omega,E,lH (HK.o.alloc _)⟩
    case measure=>simp [intOf];omega
  ·obtain rfl:k=n:=bB;have hr:=D.o;rw [Ak bL,HR.o] at hr;subst hr;go_wp2;go_ret;exact⟨rfl,HK.o⟩
theorem Jy(w:World)(b:Bool)(k:Int):AR Mx 2 (w.alloc (.cells #[pI b,I_ k] 175)) (some (A_ w 0)) 1 [(b,k)]:=
 ⟨by simp,(fun e=>by cases e),fun _=>⟨w,0,rfl,by simp,fun i hi j u hj=>by
  have h0:i=0:=by simpa using hi
  subst h0;have hb:=Blk.new w 175 #[pI b,I_ k];rw [hb.cell]
  match j,hj with
  | 0,hj=>simpa [Mx] using hj
  | 1,hj=>simpa [Mx] using hj
  | j+2,hj=>simp [Mx] at hj⟩⟩
theorem NM(w:World)(b b':Bool)(k k':Int):AR Mx 2 (w.alloc (.cells #[pI b,I_ k,pI b',I_ k'] 175)) (some (A_ w 0)) 2 [(b,k),(b',k')]:=
 ⟨by simp,(fun e=>by cases e),fun _=>⟨w,0,rfl,by simp,fun i hi j u hj=>by
  have hb:=Blk.new w 175 #[pI b,I_ k,pI b',I_ k'];rw [hb.cell]
  match i,hi,j,hj with
  | 0,_,0,hj=>simpa [Mx] using hj
  | 0,_,1,hj=>simpa [Mx] using hj
  | 0,_,j+2,hj=>simp [Mx] at hj
  | 1,_,0,hj=>simpa [Mx] using hj
  | 1,_,1,hj=>simpa [Mx] using hj
  | 1,_,j+2,hj=>simp [Mx] at hj
  | i+2,hi,_,_=>exact absurd hi bA⟩⟩
structure EE(w:World)(r base:Nat)(dv wv:Value)(R:Cm):Prop where
 blk:Blk w r 170 #[dv,wv]
 d:w.ownsRow base 9 1 dv R.done.length (R.done.map fun s=>Dz (Dk s))
 wd:w.ownsRow base 5 1 wv R.word.length (R.word.map fun b=>.int .u8 (b.toNat:Int))
 lt:r<base
 le:base≤w.heap.size
 ne:∀g,dv.ownBlock=some g→wv.ownBlock≠some g
 hd:R.done.length≤12
 hw:R.word.length≤65
def EE.S(r:Nat)(dv wv:Value):List Nat:=r::(dv.ownBlock.toList++wv.ownBlock.toList)
theorem ER{w:World}{base n:Nat}{e:TypeId}{sz:Nat}{v:Value}{xs:List Value}(h:w.ownsRow base e sz v n xs):∀g,v.ownBlock=some g->base<=g/\g<w.heap.size:=fun g hg=>by
 rcases h.2 with⟨rfl,_⟩ | ⟨g',cap,cur,rfl,hb,hg',_⟩
 ·cases hg
 ·simp only [EZ,Option.some.injEq] at hg
  subst hg;exact⟨hb,Blk.lt (t:=e) (cs:=cur) hg'⟩
theorem Ah{w w':World}{S:List Nat}{base n:Nat}{e:TypeId}{B:Nat}{v:Value}{xs:List Value}(h:w.ownsRow base e B v n xs)(hk:Aa S w w')(hS:∀g,v.ownBlock=some g->g∉S):w'.ownsRow base e B v n xs:=by
 refine⟨h.1,?_⟩;rcases h.2 with h0 | ⟨g,cap,cur,rfl,hb,hg,D⟩
 ·exact .inl h0
 ·exact .inr ⟨g,cap,cur,rfl,hb,(hk.block g (Blk.lt (t:=e) (cs:=cur) hg) (hS g rfl)).trans hg,D⟩
theorem EE.keeps{w w':World}{S:List Nat}{r base:Nat}{dv wv:Value}{R:Cm}(h:EE w r base dv wv R)(hk:Aa S w w')(hS:∀y∈EE.S r dv wv,y∉S):EE w' r base dv wv R:=
 ⟨h.blk.keeps hk (hS r (by simp [EE.S])),Ah h.d hk (fun g hg=>hS g (by simp [EE.S,hg])),Ah h.wd hk (fun g hg=>hS g (by simp [EE.S,hg])),h.lt,A8 h.le hk.size,h.ne,h.hd,h.hw⟩
theorem PI(r base:Nat)(dv wv:Value)(R:Cm)(b:UInt8)(hw:R.word.length<=64)(w:World)(h:EE w r base dv wv R):
  Calls prog 151 #[pG (some (A_ r 0)),.int .u8 (b.toNat:Int)] w fun e w'=>e = pJ (FZ (if 64<R.word.length+1 then some 14 else none))/\∃wv',EE w' r base dv wv' ⟨R.st,R.done,R.word++[b]⟩/\Aa (EE.S r dv wv) w w'/\(∀g,wv'.ownBlock=some g->wv.ownBlock=some g\/w.heap.size<=g):=by
 obtain⟨i0,hi,ad,ae,af⟩:=info_parts ZS;have B:=lH h;obtain⟨n,hn⟩:=eX R.word.length;have hrow:=h.wd;rw [hn] at hrow hw ⊢;have HRW:=lH hrow;have HN:=lH hn;have c1:=h.blk.cell 1;simp at c1;have ap:=h.le;have hlt:=h.lt;have hcase:(64<n+1/\decide ((64:Int)<(n:Int)+1)=true)\/(¬64<n+1/\decide ((64:Int)<(n:Int)+1)=false):=by
  by_cases h1:64<n+1
  ·exact .inl ⟨h1,decide_eq_true bB⟩
  ·exact .inr ⟨h1,decide_eq_false bB⟩
 obtain⟨bi,J⟩:∃bi:Int,(b.toNat:Int)=bi:=⟨_,rfl⟩;have aa:=lH J;rw [J];clear h hrow hn J;rcases hcase with⟨h1,h2⟩ | ⟨h1,h2⟩
 all_goals
  simp only [h1,if_true,if_false];go_enter func151,ntmps151;go_wp2_with (at_builtin;(refine wpList_append_lies _ rfl _ _ _ bD base 5 i0 _ 1 1 underlying166 hi ad ae af rfl bB wv n _ bD (World.ownsRow.alloc HRW.o _) (A_ w 0) 1 1 _ bD bD (World.news_of_block (heap_alloc_new _ _)) aG bB bZ bB bG (w+1) bA ?_;intro g2 D w4 F E hat ak;have T:∀j,wv.ownBlock=some j->base<=j:=(fun j hj=>(ER HRW.o j hj).1);have k4:Aa wv.ownBlock.toList w w4:=((Aa.refl _ w).alloc _).grown E (fun j hj=>.inl (by simp [hj]));have M:=B.o.blk.keeps k4 (fun hm=>by have:=T r bT;omega);have N:=M.cell 0;have O:=M.cell 1;have f1:=M.frozen 1;simp at N O;have B4:=lH M;have K4:=lH k4;have HO:=lH F;have Y:=lH hat;clear HRW c1 F E hat T k4 M));obtain⟨w5,hw5⟩:=eX (w4.setCell (A_ r 1) (pF (some (A_ g2 0)) (n+1) D));have hs5:w4.heap.size=w5.heap.size:=by rw [<- hw5];simp [World.setCell]
  have B5:Hi (Blk w5 r 170 #[dv,pF (some (A_ g2 0)) (n+1) D]):=lH (by rw [<- hw5];exact B4.out.set_ 1 _);have G:Hi (Aa [r] w4 w5):=lH (by rw [<- hw5];exact(Aa.refl [r] w4).setCell (p:=A_ r 1) (.inl bA) _);rw [hw5,hs5];clear hw5 hs5 h2 N O f1;refine(CY (some (A_ w5 0)) 1 [(_,14)] 1 rfl bB _ rfl _ (Jy w5 _ 14)).mono ?_;rintro e w6 ⟨rfl,k5⟩;have X:Hi (Aa [] w5 w6):=lH (((Aa.refl [] w5).alloc _).trans k5);clear k5;go_wp2;go_ret;have hK:Aa (EE.S r dv wv) w w6:=((K4.out.mono (fun y hy=>by simp [EE.S,AQ];exact .inr (.inr bU))).trans (G.out.mono (by simp [EE.S]))).trans (X.out.mono bA);have ac:∀g,dv.ownBlock=some g->g∉wv.ownBlock.toList:=fun g hg hm=>B.o.ne g hg bT;have ab:∀g,dv.ownBlock=some g->g∉[r]:=fun g hg hm=>by
   have:=(ER B.o.d g hg).1;simp only [Ag] at hm;have:=B.o.lt;omega
  have ao:base<=g2/\g2<w4.heap.size:=ER HO.o g2 rfl;have U:wv.ownBlock=some g2\/w.heap.size<=g2:=by rcases Y.o with h | h<;>first | exact .inl h | exact .inr bB
  refine⟨rfl,pF (some (A_ g2 0)) (n+1) D,⟨B5.out.keeps X.out bA,Ah (Ah (Ah B.o.d K4.out ac) G.out ab) X.out bA,?_,B.o.lt,A8 B.o.le hK.size,fun g hg he=>?_,B.o.hd,?_⟩,hK,fun g hg=>?_⟩
  ·have h9:=Ah (Ah HO.o G.out (fun g hg hm=>by
    simp only [EZ,Option.some.injEq] at hg;simp only [Ag] at hm;have:=B.o.lt;omega)) X.out bA
   dsimp only;rw [Al,pO,HN.o,CR,List.map_nil,aa.o];exact h9
  ·simp only [EZ,Option.some.injEq] at he
   subst he;rcases U with h | h
   ·exact B.o.ne _ hg h
   ·have:=(ER B.o.d _ hg).2;omega
  ·dsimp only;rw [Al,HN.o];simp;omega
  ·simp only [EZ,Option.some.injEq] at hg
   subst hg;exact U
theorem BG{P:Program}{w:World}{o:Oper}{a:Act}{K:Act->World->Prop}{Q:Exit->Act->World->Prop}(s x:Operand)(t:TypeId)
 (ho:o.op = .call { callee:=.builtin .append,args:=#[s,x],argTypes:=#[t,t] }){d:Nat}(B:o.dst=some d){v u v':Value}{w':World}(hs:a.eval s=v)(hx:a.eval x=u)
 (hr:(BI #[t,t] o.type #[v,u]).run P w = .ok v' w')(h:K (a.put (some d) v') w'):o.wp P a w K Q:=by
 rw [<- B] at h;unfold Oper.wp execOp;simp only [ho,resolve,invoke,builtin,Sem.run_bind,Sem.run_pure,Result.andThen_ok,List.map_toArray,CR,List.map_nil,hs,hx,hr];exact h
theorem Ct{w:World}{p:Addr}{v:Value}(h:w.cell? p=some v)(o:Obj):(w.alloc o).cell? p=some v:=((Aa.refl [] w).alloc o).cell (p:=p) (Be w _ h) bA |>.trans h
theorem QC{w:World}{base n:Nat}{e:TypeId}{B:Nat}{v:Value}{xs:List Value}(h:w.ownsRow base e B v (n+1) xs):∃g c,v = pF (some (A_ g 0)) (n+1) c/\base<=g/\g<w.heap.size:=by
 rcases h.2 with⟨_,h0⟩ | ⟨g,cap,cur,hv,hb,hg,_⟩
 ·omega
 ·exact⟨g,cap,hv,hb,Blk.lt (t:=e) (cs:=cur) hg⟩
theorem Re{w:World}{base:Nat}{v:Value}{l:List UInt8}(h:w.ownsRow base 5 1 v l.length (l.map fun b=>.int .u8 (b.toNat:Int))):
  (convert 166 9 v).run prog w = .ok (Dz (Dk l)) w:=by
 rcases h.2 with⟨rfl,h0⟩ | ⟨g,cap,cur,rfl,hb,hg,B,E,hs,D⟩
 ·obtain rfl:=Ds h0
  exact run_convert_bytes_nil (P:=prog) w 166 5 underlying166 underlying5 0 0 9 underlying9
 ·refine run_convert_bytes_back (P:=prog) w 166 9 5 (A_ g 0) cap l underlying166 underlying5 underlying9 (fun j hj=>?_)
  rw [BR,AW,Blk.cell (t:=5) (cs:=cur) hg];have h1:(l.map fun b=>pE .u8 (b.toNat:Int))[j]? = some (.int .u8 (l[j].toNat:Int)):=by rw [qH,Aq hj];rfl
  rw [<- D,Dh,if_pos bB] at h1;simpa using h1
theorem UI(r base:Nat)(dv wv:Value)(R:Cm)(hd:R.done.length<12)(st:WS)(w:World)(h:EE w r base dv wv R):
  Calls prog 152 #[pG (some (A_ r 0))] w fun e w'=>e = pJ (.tuple #[])/\∃dv',EE w' r base dv' (pF none 0 0) (R.shutW st)/\Aa (EE.S r dv wv) w w':=by
 obtain⟨i0,hi,ad,ae,af⟩:=info_parts Xk;have c0:=h.blk.cell 0;have c1:=h.blk.cell 1;simp at c0 c1;have G:(convert 166 9 wv).run prog w.drew = .ok (Dz (Dk R.word)) w.drew:=Re (World.ownsRow.drew h.wd);obtain⟨W,hW⟩:=eX ((w.drew).alloc (.cells #[Dz (Dk R.word)] 9));have kW:Aa [] w W:=by rw [<- hW];exact((Aa.refl [] w).drew).alloc _
 have bW:Blk W w 9 #[Dz (Dk R.word)]:=by rw [<- hW];exact Blk.new w.drew _ _
 have aa:W.ownsRow base 9 1 dv R.done.length (R.done.map fun s=>Dz (Dk s)):=Ah h.d kW bA;have F:(convert 166 9 wv).run prog W = .ok (Dz (Dk R.word)) W:=Re (Ah h.wd kW bA);obtain⟨v9,w9,N,D,B,-⟩:=run_append_own (P:=prog) W base 41 41 9 i0 _ 1 16 underlying41 hi ad ae af rfl bE dv R.done.length _ aa (A_ w 0) 1 1 [Dz (Dk R.word)] rfl (fun j u hj=>by
  match j,hj with
  | 0,hj=>rw [BR,bW.cell];simpa using hj) aG bZ bB (A8 h.le kW.size)
 obtain⟨O,X,rfl,aj,al⟩:=QC D;have k9:Aa dv.ownBlock.toList w w9:=(kW.mono bA).grown B (fun j hj=>.inl (by simp [hj]));have ab:∀j,dv.ownBlock=some j->base<=j/\j<w.heap.size:=fun j hj=>ER h.d j hj;have ac:r∉dv.ownBlock.toList:=fun hm=>by have:=(ab r bT).1;have:=h.lt;omega
 have U:=h.blk.keeps k9 ac;have e0:=U.cell 0;have e1:=U.cell 1;have f0:=U.frozen 0;have f1:=U.frozen 1;simp at e0 e1;have HH:=lH h;have B9:=lH U;have K9:=lH k9;have Y:=lH D;obtain⟨wd,T⟩:=eX (Dk R.word);rw [T] at G F hW;rw [<- hW] at F;have ar:=lH T;have E:(BI #[41,41] 41 #[dv,pF (some (A_ w 0)) 1 1]).run prog ((w.drew).alloc (.cells #[Dz wd] 9)) = .ok (pF (some (A_ O 0)) (R.done.length+1) X) w9:=by rw [hW];exact N
 have J:=lH E;have ah:=lH G;have aq:=lH F;clear h hi ad ae af bW aa N D B k9 U ab ac kW hW T E G F;obtain⟨n,hn⟩:=eX (R.done.length+1);rw [hn] at J;have hK:Aa [r] w9 ((w9.setCell (A_ r 0) (pF (some (A_ O 0)) n X)).setCell (A_ r 1) (pF none 0 0)):=((Aa.refl [r] w9).setCell (p:=A_ r 0) (.inl bA) _).setCell (p:=A_ r 1) (.inl bA) _;have ak:O∉[r]:=fun hm=>by
  simp only [Ag] at hm;have:=HH.o.lt;omega
 have M:pJ (.tuple #[]) = pJ (.tuple #[])/\∃dv',EE ((w9.setCell (A_ r 0) (pF (some (A_ O 0)) n X)).setCell (A_ r 1) (pF none 0 0)) r base dv' (pF none 0 0) (R.shutW st)/\Aa (EE.S r dv wv) w ((w9.setCell (A_ r 0) (pF (some (A_ O 0)) n X)).setCell (A_ r 1) (pF none 0 0)):=by
  have hkk:Aa (EE.S r dv wv) w ((w9.setCell (A_ r 0) (pF (some (A_ O 0)) n X)).setCell (A_ r 1) (pF none 0 0)):=(K9.out.mono (fun y hy=>by simp [EE.S];exact .inr (.inl bU))).trans (hK.mono (by simp [EE.S]));refine⟨rfl,pF (some (A_ O 0)) n X,⟨(B9.out.set_ 0 _).set_ 1 _,?_,BQ _ _ _ _,HH.o.lt,A8 HH.o.le hkk.size,(fun g _ he=>by cases he),?_,by simp [Cm.shutW]⟩,hkk⟩
  ·have h9:=Ah Y.o hK (fun g hg=>by simp only [EZ,Option.some.injEq] at hg;subst hg;exact ak)
   rw [hn] at h9;simp only [Cm.shutW,Al,pO,CR,List.map_nil];rw [show R.done.length + [R.word].length=n from hn];exact h9
  ·simp only [Cm.shutW,Al,Bp];omega
 have HFIN:=lH M;clear M hK hn aj al;go_enter func152,ntmps152;go_wp2;have G:=ah.o;have d0:=Ct c0 (.cells #[Dz wd] 9);have d1:=Ct c1 (.cells #[Dz wd] 9)
 go_region_law (refine BG _ _ 41 bD bD bD bD J.o ?_)
 all_goals
  go_wp2
  go_end0
  exact⟨rfl,HFIN.o.2⟩
structure SV where
 cur:Int
 ia:Option Addr
 il:Nat
 ic:Nat
 used:Int
def SV.cells(s:SV):List Value:=[pE pK s.cur,pF s.ia s.il s.ic,pE pK s.used]
def SV.arr(s:SV):Array Value:=#[pE pK s.cur,pF s.ia s.il s.ic,pE pK s.used]
def SV.v(s:SV):Value:=pH #[pE pK s.cur,pF s.ia s.il s.ic,pE pK s.used]
structure Cy(w:World)(a:Option Addr)(c:Nat)(xs:List ByteArray):Prop where
 le:xs.length≤c
 at_:EF w a xs
 small:xs.length≤1000000
 size:∀x∈xs,x.size≤maxLen
 nil:a=none→c=0
theorem Cy.keepsS{S:List Nat}{w w':World}{a:Option Addr}{c:Nat}{xs:List ByteArray}(h:Cy w a c xs)(hk:Aa S w w')(hS:ID w S):Cy w' a c xs:=⟨h.le,h.at_.keepsS hk hS,h.small,h.size,h.nil⟩
theorem Cy.keeps{w w':World}{a:Option Addr}{c:Nat}{xs:List ByteArray}(h:Cy w a c xs)(hk:Aa [] w w'):Cy w' a c xs:=⟨h.le,h.at_.keeps hk,h.small,h.size,h.nil⟩
def F3(w:World)(a:Option Addr)(V:List SV):Prop:=V≠[]->∃g off cs fz,a=some ⟨g,off,none⟩/\w.heap[g]? = some (.cells cs 43 fz)/\∀i (h:i<V.length),
 w.cell? ⟨g,off+i*3,none⟩=some (pE pK V[i].cur)/\w.cell? ⟨g,off+i*3+1,none⟩=some (.slice V[i].ia V[i].il V[i].ic)/\w.cell? ⟨g,off+i*3+2,none⟩=some (pE pK V[i].used)
theorem F3.keepsS{S:List Nat}{w w':World}{a:Option Addr}{V:List SV}(h:F3 w a V)(hk:Aa S w w')(hS:∀k∈S,∀(cs:Array Value) (fz:Nat×Nat),w.heap[k]?≠some (Obj.cells cs 43 fz)):F3 w' a V:=fun hn=>by
 obtain⟨g,off,cs,fz,ha,hb,hat⟩:=h hn;have hg:=(Ai.1 hb).1;have hgS:g∉S:=fun hm=>hS g hm cs fz hb;exact⟨g,off,cs,fz,ha,(hk.block g hg hgS).trans hb,fun i hi=>by
  obtain⟨h0,h1,h2⟩:=hat i hi;exact⟨(hk.cell (p:=A_ g (off+i*3)) hg hgS).trans h0,(hk.cell (p:=A_ g (off+i*3+1)) hg hgS).trans h1,(hk.cell (p:=A_ g (off+i*3+2)) hg hgS).trans h2⟩⟩
theorem F3.keeps{w w':World}{a:Option Addr}{V:List SV}(h:F3 w a V)(hk:Aa [] w w'):F3 w' a V:=h.keepsS hk (fun _ h=>by cases h)
def Oh(w:World)(v:SV)(s:Sn):Prop:=v.cur=s.cur/\v.used=s.used/\v.il=s.items.length/\Cy w v.ia v.ic s.items
def Mt(w:World):List SV->List Sn->Prop
 | [],[]=>True
 | v::V,s::L=>Oh w v s/\Mt w V L
 | _,_=>False
theorem Oh.keeps{w w':World}{v:SV}{s:Sn}(h:Oh w v s)(hk:Aa [] w w'):Oh w' v s:=⟨h.1,h.2.1,h.2.2.1,h.2.2.2.keeps hk⟩
theorem Oh.keepsS{S:List Nat}{w w':World}{v:SV}{s:Sn}(h:Oh w v s)(hk:Aa S w w')(hS:ID w S):Oh w' v s:=⟨h.1,h.2.1,h.2.2.1,h.2.2.2.keepsS hk hS⟩
theorem Mt.keepsS{S:List Nat}{w w':World}(hk:Aa S w w')(hS:ID w S):∀ {V:List SV} {L:List Sn},Mt w V L->Mt w' V L
 | [],[],_=>trivial
 | _::_,_::_,h=>⟨h.1.keepsS hk hS,Mt.keepsS hk hS h.2⟩
 | [],_::_,h=>h.elim
 | _::_,[],h=>h.elim
theorem Mt.keeps{w w':World}(hk:Aa [] w w'):∀ {V:List SV} {L:List Sn},Mt w V L->Mt w' V L
 | [],[],_=>trivial
 | _::_,_::_,h=>⟨h.1.keeps hk,Mt.keeps hk h.2⟩
 | [],_::_,h=>h.elim
 | _::_,[],h=>h.elim
theorem Mt.len{w:World}: ∀ {V:List SV} {L:List Sn},Mt w V L->V.length=L.length
 | [],[],_=>rfl
 | _::_,_::_,h=>by rw [Av,Av,Mt.len h.2]
 | [],_::_,h=>h.elim
 | _::_,[],h=>h.elim
theorem Mt.get{w:World}: ∀ {V:List SV} {L:List Sn},Mt w V L->∀(i:Nat) (h:i<V.length) (h':i<L.length),Oh w V[i] L[i]
 | _::_,_::_,h,0,_,_=>h.1
 | _::_,_::_,h,i+1,h1,h2=>Mt.get h.2 i bR kC
theorem Mt.app{w:World}: ∀ {V V':List SV} {L L':List Sn},Mt w V L->Mt w V' L'->Mt w (V++V') (L++L')
 | [],_,[],_,_,h=>h
 | _::_,_,_::_,_,h,h'=>⟨h.1,Mt.app h.2 h'⟩
 | [],_,_::_,_,h,_=>h.elim
 | _::_,_,[],_,h,_=>h.elim
theorem Mt.drop{w:World}: ∀ {V:List SV} {L:List Sn} (k:Nat),Mt w V L->Mt w (V.drop k) (L.drop k)
 | _,_,0,h=>h
 | [],[],_+1,_=>trivial
 | _::_,_::_,k+1,h=>Mt.drop k h.2
 | [],_::_,_+1,h=>h.elim
 | _::_,[],_+1,h=>h.elim
theorem Mt.erase{w:World}: ∀ {V:List SV} {L:List Sn} (k:Nat),Mt w V L->Mt w (V.eraseIdx k) (L.eraseIdx k)
 | [],[],_,_=>trivial
 | _::_,_::_,0,h=>h.2
 | _::_,_::_,k+1,h=>⟨h.1,Mt.erase k h.2⟩
 | [],_::_,_,h=>h.elim
 | _::_,[],_,h=>h.elim
structure BP(w:World)(a:Option Addr)(c:Nat)(V:List SV)(p:Po):Prop where
 le:V.length≤c
 small:V.length≤1000000
 row:F3 w a V
 mt:Mt w V p.l
theorem BP.keeps{w w':World}{a:Option Addr}{c:Nat}{V:List SV}{p:Po}(h:BP w a c V p)(hk:Aa [] w w'):BP w' a c V p:=⟨h.le,h.small,h.row.keeps hk,h.mt.keeps hk⟩
theorem Hv(a:Option Addr)(n c:Nat)(next:Int)(w:World):
  Calls prog 108 #[pH #[pF a n c,I_ next]] w fun r w'=>r = pJ (.func (.func 146) #[] #[pG (some (A_ w 0))])/\w.alloc (.cells #[pF a n c,I_ next] 161)=w':=by
 go_enter func108,ntmps108;go_wp2;go_ret;exact⟨rfl,rfl⟩
def Mf(x:SV×Nat):Array Value:=#[pE pK (x.2:Int),pH #[pE pK x.1.cur,(pF x.1.ia x.1.il x.1.ic),pE pK x.1.used]]
theorem aE(V:List SV)(k:Nat)(h:k<V.length):V.zipIdx.take (k+1)=V.zipIdx.take k++[(V[k],k)]:=by
 rw [BJ bK];simp
theorem MB{V:List SV}{B:List (SV×Nat)}{x:SV×Nat}(h:B++[x] <+: V.zipIdx):∃hk:B.length<V.length,B=V.zipIdx.take B.length/\x=(V[B.length],B.length):=by
 obtain⟨t,D⟩:=h;have hl:=congrArg List.length D;simp only [Al,Av,D4,List.length_zipIdx] at hl;have hk:B.length<V.length:=bB;refine⟨hk,?_,?_⟩
 ·rw [<- D,CC,List.take_left]
 ·have h1:V.zipIdx[B.length]? = some x:=by rw [<- D];simp
  rw [Aq (by simpa using hk)] at h1;simpa using(Option.some.inj h1).symm
theorem WY(n l pb:Nat)(a:Option Addr)(c:Nat)(V:List SV)(hV:V.length<=1000000)(J Jx:List (SV×Nat)->World->Prop)(W:World)(hJ:eY W J)(hR:∀s A,J s A->F3 A a V)
 (hY:∀pre x W1,J pre W1->pre++[x] <+: V.zipIdx->YieldAt Bx (n - 1) prog l (Mf x) W1 fun e W'=>
   (e = pJ (pI true)/\J (pre++[x]) W'/\CA W W1 W')\/(e = pJ (pI false)/\Jx (pre++[x]) W'))
 (hF:W.cell? (A_ pb 0)=some (pF a V.length c))(h0:J [] W):
  CallsIn Bx n prog 146 #[.func (.yield l) #[] #[],p_ pb 0] W fun e W'=>(∃v,e = pJ v)/\
   (J V.zipIdx W'\/(∃pre,pre <+: V.zipIdx/\Jx pre W')):=by
 have HJ:=lH hJ;have HR:=lH hR;have HY:=lH hY;have O:=lH h0;obtain⟨N,hN⟩:=eX V.length;have HN:=lH hN;rw [hN] at hF hV;clear hJ hR hY h0 hN;have Y:Fence.wide.depth.isSome=true->1<=n:=by intro h;cases h
 refine callsIn_of_wp func146 rfl trivial ?_ rfl;simp only [ntmps146,Cz,Av,D4,pL,pM,Bt,Bu,Cd,BD,BH,AL];gi_wp2;refine BW (wpIn_seq (wpIn_label ?_));gi_wp2
 gi_loopw [9] (fun i wr=>∃k:Nat,i = I_ k/\k<=N/\Hi (J (V.zipIdx.take k) wr)/\W.heap.size<=wr.heap.size) (fun i _=>N - (intOf i).toNat)
 case atStart=>exact⟨0,rfl,Ba _,O,Aw _⟩
 case round=>
  obtain⟨k,rfl,hk,B,hsz⟩:=hrel;by_cases hlt:k<N
  ·have hk1:k<V.length:=by rw [HN.o];exact hlt
   obtain⟨g,off,ag,ah,rfl,-,hat⟩:=HR.o _ _ B.o gC;obtain⟨x,hx⟩:=eX (V[k]);have q1:=hat k hk1;rw [hx] at q1;obtain⟨p0,p1,p2⟩:=q1;have i1:(0:Int)<=(k:Int):=bB;have i2:(k:Int)<(N:Int):=bB;have hz:=aE V k hk1;rw [hx] at hz;have F:J (V.zipIdx.take k) (wr.alloc (.cells #[pE pK x.cur,(pF x.ia x.il x.ic),I_ x.used] 43)):=HJ.o _ _ _ B.o ((Below.refl _ wr).alloc hsz _);have M:=Dq (HY.o _ (x,k) _ F (by rw [<- hz];exact List.take_prefix _ _));rw [<- hz] at M;obtain⟨fn,tmps,assign,body,hy,hR⟩:=M;simp only [Mf] at hy;have hb:=Blk.new wr 43 #[pE pK x.cur,(pF x.ia x.il x.ic),I_ x.used];have d0:=hb.cell 0;have d1:=hb.cell 1;have d2:=hb.cell 2;have HZ:=lH hz;clear hat hx hz F hb hk1;gi_wp2;refine⟨Y,?_⟩;refine hR.mono ?_;rintro e W3 ⟨g,rfl,X,hF⟩;clear hR hy;cases g with
   | false=>
    have U:=lH (hF.out rfl);clear X hF;gi_wp2;try rw [AY]
    go_end0
    exact⟨⟨_,rfl⟩,.inr ⟨V.zipIdx.take (k+1),List.take_prefix _ _,U.out⟩⟩
   | true=>
    obtain⟨D,E⟩:=X.out rfl;have T:=lH D;have G:W.heap.size<=W3.heap.size:=by have:=E.1;rw [Eo] at this;omega
    clear X hF D E;gi_wp2;go_roundw;case rel=>exact⟨k+1,by go_num,by omega,T,G⟩
    case measure=>simp [intOf];omega
  ·obtain rfl:k=N:=bB;gi_wp2;try rw [AY]
   go_end0
   refine⟨⟨_,rfl⟩,.inl ?_⟩;have:=B.o
   rwa [Ak (by rw [List.length_zipIdx,HN.o];exact Aw _)] at this
theorem Hw(n pb:Nat)(a:Option Addr)(c:Nat)(V:List SV)(hV:V.length<=1000000)(w:World)(hF:w.cell? (A_ pb 0)=some (pF a V.length c)):
  fP Bx n prog 146 #[pG (some (A_ pb 0))] Mf V.zipIdx (fun A=>F3 A a V) w:=fun l J Jx W hW hJ _ hR hY h0=>
 WY n l pb a c V hV J Jx W hJ hR hY ((BL (a:=A_ pb 0) (hW.block pb (Be w _ hF))).trans hF) h0
inductive oP|mk (A:SV)
abbrev N_:=oP.mk
instance(A:SV):CoeDep oP (N_ A) (Array Value):=⟨#[pE pK A.cur,.slice A.ia A.il A.ic,pE pK A.used]⟩
theorem Df{B:Nat}{A A':World}{g:Nat}{ty:TypeId}{cs:Array Value}(h:Blk A g ty cs)(hg:g<B)(hb:Below B A A'):Blk A' g ty cs:=(hb.block _ hg).trans h
theorem Ar(W:World)(t:TypeId)(cs:Array Value)(n:Nat)(hn:W.heap.size=n):Blk (W.alloc (.cells cs t)) n t cs:=by
 subst hn;exact Blk.new W t cs
theorem TL(l:List Sn)(s:Sn):EQ (l++[s])=s.used:=by simp [EQ]
def Nt(l:List (SV×Nat)):Int:=(l.getLast?.map (·.1.used)).getD 0
theorem TN(l:List (SV×Nat))(x:SV×Nat):Nt (l++[x])=x.1.used:=by simp [Nt]
theorem Wr{w:World}{V:List SV}{L:List Sn}(h:Mt w V L):Nt V.zipIdx=EQ L:=by
 have hl:=h.len;unfold Nt EQ;rcases Nat.eq_zero_or_pos L.length with h0 | h0
 ·obtain rfl:=Ds h0
  obtain rfl:=Ds (hl.trans h0);rfl
 ·rw [List.getLast?_eq_getElem?,List.getLast?_eq_getElem?,List.length_zipIdx]
  have h1:V.length - 1<V.length:=bB;have h2:L.length - 1<L.length:=bB;rw [Aq bR,Aq h2];simp only [List.getElem_zipIdx,Option.map_some,Option.getD_some];have:=h.get (V.length - 1) h1 bB;rw [this.2.1]
  congr 2
  omega
theorem YO(a:Option Addr)(c:Nat)(next:Int)(V:List SV)(hV:V.length<=1000000)(w:World)(hR:F3 w a V)(u:Int)(hu:Nt V.zipIdx=u):
  Calls prog 216 #[pH #[pF a V.length c,I_ next]] w fun r w'=>r = pJ (I_ u)/\Aa [] w w':=by
 refine(callsIn_wide (n:=9)).1 ?_;have HU:=lH hu;have HR:=lH hR;obtain⟨N,hN⟩:=eX V.length;have HN:=lH hN;rw [hN] at hV ⊢;clear hu hR hN;refine callsIn_of_wp_marks func216 rfl trivial ?_ rfl;simp only [ntmps216,Cz,Av,D4,pL,pM,Bt,Bu,Cd,BD,BH,AL];gi_wp2_with fail;refine⟨trivial,(callsIn_wide.2 (Hv _ _ _ _ _)).mono ?_⟩;rintro e w1 ⟨rfl,rfl⟩;gi_wp2_with fail;obtain⟨W0,B⟩:=eX ((((w.alloc (.cells #[pF a N c,I_ next] 161)).alloc (.cells #[pE pK 0] 3)).alloc (.cells #[pF a N c,I_ next] 161)));have O:W0.heap.size=w.heap.size+3:=by rw [<- B];simp
 have J:Below w w W0:=by
  rw [<- B];exact(((Below.refl _ w).alloc (Aw _) _).alloc bA _).alloc bG _
 have T:Blk W0 (w+1) 3 #[pE pK 0]:=by
  rw [<- B];exact(Ar _ _ _ _ bA).alloc _
 have U:W0.cell? (A2 w 0)=some (pF a V.length c):=by
  rw [<- B,HN.o];exact(Ar _ 161 _ _ bA).cell 0
 rw [B];clear B;refine Fn rfl bB (gf:=146) (lb:=#[pG (some (A2 w 0))]) rfl trivial (enters_of func146 bC rfl) (Hw 8 (w+1+1) a c V lR W0 U) (Below.refl _ _) (fun _=>rfl)
  (fun E A=>Below w w A/\Blk A (w+1) 3 #[pE pK (Nt E)]) (fun _ _=>False)
  (fun s A X h hb=>⟨h.1.trans (hb.mono bB),Df h.2 bB hb⟩) (fun s A X h hb=>h)
  (fun s A h=>HR.o.keeps (Aa.of_below h.1 [])) ⟨J,T⟩
  (fun x b=>{ tmps:=#[pH #[pF a N c,I_ next],p_ w 0,I_ 0,p1 w 0,UD,p_ b 0,pH #[pF a N c,I_ next],.func (.func 146) #[] #[pG (some (A2 w 0))],I_ (x.2:Int),pH (N_ x.1),UD,UD,UD],defers:=[] })
  (fun x=>.cells (N_ x.1) 43) ?assign ?body ?done ?stop
 case assign=>
  intro l x W K hK;unfold Mf;gi_wp2;exact hK
 case body=>
  rintro l E x b W ⟨G,F⟩ _ hb M;have hb2:Blk W b 43 (N_ x.1):=M;have d2:=hb2.cell 2;have e1:W.cell? (A1 w 0)=some (I_ (Nt E)):=F.cell 0;have f1:=F.frozen 0;have HB:=lH G;have HC:=lH F;clear G F hb2 M;gi_wp2;refine⟨CA.setCell (p:=A1 w 0) bH W _,HB.o.setCell (p:=A1 w 0) bH _,?_⟩;rw [TN];exact HC.o.set_ 0 _
 case done=>
  rintro D W hD ⟨G,F⟩ hK;have Y:w.heap.size<=D:=bB;rw [HU.o] at F;have e1:W.cell? (A1 w 0)=some (I_ u):=F.cell 0;have HB:=lH G;clear G F O J T U;gi_wp2;refine⟨by simp,.inl ⟨_,_,rfl,run_takeDeferred hK,?_⟩⟩;exact⟨_,results_tmp rfl _ _ _,rfl,Aa.of_below (HB.o.trans (belowK_b (n₀:=w.heap.size) (w:=w) (Aw _) _ D _ _ bB hK rfl rfl)) []⟩
 case stop=>
  rintro D E W _ _ h _;exact h.elim
end
section
open Go.RowKit Go.MapKept
def DV{α:Type}(kv:α->Value)(A:World)(b:Nat)(met:List α):Prop:=∃es c,A.heap[b]? = some (.map es c)/\es.toList.map (fun e=>(e.key,e.val))=met.map fun m=>(kv m,pI true)
structure X4{α:Type}[DecidableEq α](kv:α→Value)(d:TypeDesc):Prop where
 same:∀k m,Instr.sameNow d (kv k) (kv m)=some (decide (k=m))
 key:∀k,IsKey d (kv k)
theorem KQ:X4 (pE .i64) (.int .i64):=⟨fun k m=>by simp [Instr.sameNow,BEq.beq],fun _=>rfl⟩
theorem RZ:X4 Dz .string:=⟨fun k m=>by
 obtain⟨r,h1,h2⟩:=sameNow_of_keys (d:=.string) (a:=Dz k) (b:=Dz m) trivial trivial;rw [h1]
 congr 1
 rw [DI,h2,decide_eq_true_eq];constructor
 ·intro h;injection h
 ·rintro rfl;rfl,fun _=>trivial⟩
section
variable {α:Type} [DecidableEq α] {kv:α->Value} {d:TypeDesc} {P:Program} {t kt et:TypeId} {A A':World} {b:Nat} {met:List α}
theorem LN(hk:X4 kv d)(k:α):∀(es:List MapEntry) (met:List α) (i:Nat),es.map (fun e=>(e.key,e.val))=met.map (fun m=>(kv m,pI true))->
  (k∈met/\∃j,B0 d (kv k) es i=some (some (j,pI true)))\/(k∉met/\B0 d (kv k) es i=some none)
 | [],[],_,_=>.inr ⟨by simp,rfl⟩
 | e::es,m::met,i,h=>by
  rw [CR,CR] at h;injection h with h1 h2
  injection h1 with hkey hv
  have hs:=hk.same k m;by_cases hkm:k=m
  ·subst hkm
   exact .inl ⟨by simp,i,by simp [B0,hkey,hv,hs]⟩
  ·rcases LN hk k es met (i+1) h2 with⟨h3,j,h4⟩ | ⟨h3,h4⟩
   ·exact .inl ⟨Ca _ h3,j,by simp [B0,hkey,hs,hkm,h4]⟩
   ·exact .inr ⟨by simp [h3,hkm],by simp [B0,hkey,hs,hkm,h4]⟩
 | [],_::_,_,h=>by cases h
 | _::_,[],_,h=>by cases h
theorem DV.look(h:DV kv A b met)(hk:X4 kv d)(hm:P.underlying t=some (.map kt et))(B:P.underlying kt=some d)(hz:(zeroValue et).run P A = .ok (pI false) A)(k:α):
  (Ed t (.map (some b)) (kv k) false).run P A = .ok (pI (decide (k∈met))) A:=by
 obtain⟨D,c,hb,he⟩:=h;rcases LN hk k D.toList met 0 he with⟨h1,j,h2⟩ | ⟨h1,h2⟩
 ·rw [(DD hm B hb (hk.key k) h2).2,decide_eq_true h1]
 ·rw [(EW hm B hb (hk.key k) h2 hz).2,decide_eq_false h1]
theorem DV.update(h:DV kv A b met)(hk:X4 kv d)(hm:P.underlying t=some (.map kt et))(D:P.underlying kt=some d)(k:α)(hn:k∉met):
  ∃o,(Instr.mapUpdate t (.map (some b)) (kv k) (pI true)).run P A = .ok () (A.putObj b o)/\DV kv (A.putObj b o) b (met++[k]):=by
 obtain⟨B,c,hb,he⟩:=h;rcases LN hk k B.toList met 0 he with⟨h1,_⟩ | ⟨_,h2⟩
 ·exact absurd h1 hn
 ·refine⟨_,DA hm D hb (hk.key k) h2,_,_,pU (Ai.1 hb).1,?_⟩
  simp [he]
end
section
variable {α:Type} {kv:α->Value} {A A':World} {b:Nat} {met:List α}
theorem DV.new(A:World):DV kv (A.alloc (.map #[] 0)) A []:=⟨#[],0,heap_alloc_new A _,rfl⟩
theorem DV.lt(h:DV kv A b met):b<A.heap.size:=by obtain⟨B,c,h1,_⟩:=h;exact(Ai.1 h1).1
theorem DV.keeps{S:List Nat}(h:DV kv A b met)(hk:Aa S A A')(hn:b∉S):DV kv A' b met:=by
 obtain⟨B,c,h1,h2⟩:=h;exact⟨B,c,(hk.block _ (Ai.1 h1).1 hn).trans h1,h2⟩
theorem Ec(A:World)(b:Nat)(o:Obj):Aa [b] A (A.putObj b o):=
 ⟨rfl,rfl,rfl,by simp,fun k _ hn=>AM (fun e=>hn (by simp [e]))⟩
end
end
section
open Go.RowKit Go.Shelf
def PG{β:Type}(S:List Nat)(J:β->World->Prop):Prop:=∀s A A',J s A->Aa S A A'->J s A'
def QL{α:Type}(F:Fence)(n:Nat)(P:Program)(g:Nat)(lb:Array Value)(encs:α->Array Value)(ys:List α)(V:World->Prop):Prop:=
 ∀(l:Nat) (J Jx:List α->World->Prop) (W:World),PG [] J->PG [] Jx->(∀s A,J s A->V A)->
  (∀pre x W1,J pre W1->pre++[x] <+: ys->YieldAt F (n - 1) P l (encs x) W1 fun e W'=>
   (e = pJ (pI true)/\J (pre++[x]) W')\/(e = pJ (pI false)/\Jx (pre++[x]) W'))->
  J [] W->
  CallsIn F n P g (#[.func (.yield l) #[] #[]]++lb) W fun e W'=>(∃v,e = pJ v)/\(J ys W'\/(∃pre,pre <+: ys/\Jx pre W'))
def Jw{α:Type}(B:Nat)(I Ix:List α->World->Prop)(xs:List α)(W:World):Exit->Act->World->Prop
 | .normal,_,W'=>W.heap.size<=W'.heap.size/\(∀k∈[B,B+1],W'.heap[k]? = W.heap[k]?)/\I xs W'
 | .ret,_,W'=>W.heap.size<=W'.heap.size/\(∀k∈[B,B+1],W'.heap[k]? = W.heap[k]?)/\Ix xs W'
 | _,_,_=>False
theorem AG{S:List Nat}{l:Nat}(W:World)(o:Obj)(hl:l∈S):Aa S W (W.putObj l o):=
 ⟨rfl,rfl,rfl,by simp,fun k _ hn=>AM (fun e=>hn (e▸hl))⟩
variable {F:Fence} {n:Nat} {P:Program}
theorem Cc{α:Type}{g:Operand}{ps:Array Tmp}{assign body:Code}{Q:Exit->Act->World->Prop}{a:Act}{w:World}
 (az:F.round=none)(h1:1<=n){gf:Nat}{lb:Array Value}(hg:a.eval g = .func (.func gf) #[] lb)(am:F.fn gf)(eg:∀args w,(callFunc gf args).run P w = .ok (.enter gf args) w)
 {G:α->Array Value}{ys:List α}{V:World->Prop}(ai:QL F (n - 1) P gf lb G ys V)(ay:∀x,(G x).size=ps.size)
 (I Ix:List α->World->Prop)(hI:PG [w.heap.size,w.heap.size+1] I)(T:PG [w.heap.size,w.heap.size+1] Ix)(an:∀s A,I s A->V A)(h0:I [] w)(E:α->World->Act×World)
 (M:∀x W,Aa [] W (E x W).2)
 (N:∀(l:Nat) (x:α) (W:World) (K:Act->World->Prop),K (E x W).1 (E x W).2->
   assign.wpIn (F.inRound l) (n - 1 - 1) P (Exit.then K (fun _ _ _=>False)) { tmps:=(ps.zip (G x)).foldl (fun t (p,v)=>t.setIfInBounds p v) a.tmps,defers:=[] } W)
 (U:∀(l:Nat) (pre:List α) (x:α) (W W2:World),I pre W->pre++[x] <+: ys->w.heap.size+2<=W.heap.size->Aa [w.heap.size,w.heap.size+1] (E x W).2 W2->body.wpIn (F.inRound l) (n - 1 - 1) P (Jw w I Ix (pre++[x]) W2) (E x W).1 W2)
 (Y:∀(W:World),I ys W->w.heap.size+2<=W.heap.size->W.heap[w.heap.size]? = some (.deferred (some []))->Q .normal { a with defers:={ target:=.collected w,args:=#[] } :: a.defers } W)
 (ac:∀(pre:List α) (W:World),pre <+: ys->Ix pre W->w.heap.size+2<=W.heap.size->W.heap[w.heap.size]? = some (.deferred (some []))->Code.ret.wpIn F n P Q { a with defers:={ target:=.collected w,args:=#[] } :: a.defers } W):
  (Code.rangeFunc g ps assign body).wpIn F n P Q a w:=by
 refine wpIn_rangeFunc fun fn au=>?_;rw [az]
 let D:=w.heap.size
 let l:=w.heap.size+1
 let rec_:LoopState->Option Code->Loop:=fun st pe=>{ state:=st,pending:=pe,fn,tmps:=a.tmps,params:=ps,assign,body,defers:=D }
 let W1:=(w.alloc (.deferred (some []))).alloc (.loop (rec_ .ready none))
 have hs1:W1.heap.size=w.heap.size+2:=by simp [W1]
 have hL:W1.heap[l]? = some (.loop (rec_ .ready none)):=by
  have:=pV (w.alloc (.deferred (some []))) (.loop (rec_ .ready none))
  rwa [Eo] at this
 have hD:W1.heap[D]? = some (.deferred (some [])):=(Below.heap_alloc _ _ _ (by simp [D])).trans (pV w _);have hk1:Aa [w.heap.size,w.heap.size+1] w W1:=((Aa.refl _ w).alloc _).alloc _;refine⟨l,[{ target:=.collected D,args:=#[] }],W1,{ target:=.fn (.func gf) lb,args:=#[.func (.yield l) #[] #[]] },W1,gf,#[.func (.yield l) #[] #[]]++lb,W1,run_enterLoop_outer _ _ _ _ _,?_,?_,?_,fun _=>h1,?_⟩
 ·simp only [resolve,hg];simp [go_sem]
 ·intro f' ae;simp [Target.leads] at ae;subst ae;exact am
 ·simp [invoke,go_sem,eg]
 have a0:∀ {k:Nat},k<w.heap.size+2->k<W1.heap.size:=fun hk=>by omega
 refine(ai l
  (fun pre W=>I pre W/\W1.heap.size<=W.heap.size/\W.heap[l]? = some (.loop (rec_ .ready none))/\W.heap[D]? = some (.deferred (some [])))
  (fun pre W=>Ix pre W/\W1.heap.size<=W.heap.size/\W.heap[l]? = some (.loop (rec_ .done (some .ret)))/\W.heap[D]? = some (.deferred (some [])))
  W1
  (fun s A A' hs hk=>⟨hI s A A' hs.1 (hk.mono bA),A8 hs.2.1 hk.size,(hk.block l lS bA).trans hs.2.2.1,(hk.block D lS bA).trans hs.2.2.2⟩)
  (fun s A A' hs hk=>⟨T s A A' hs.1 (hk.mono bA),A8 hs.2.1 hk.size,(hk.block l lS bA).trans hs.2.2.1,(hk.block D lS bA).trans hs.2.2.2⟩)
  (fun s A hs=>an s A hs.1) ?_ ⟨hI _ _ _ h0 hk1,Aw _,hL,hD⟩).mono ?_
 ·rintro pre x W ⟨hi,hsz,hl,hd⟩ af
  have hlt:l<W.heap.size:=bB;have ax:(E x W).2.heap[l]? = some (.loop (rec_ .ready none)):=((M x W).block l hlt bA).trans hl;have ar:(E x W).2.heap[D]? = some (.deferred (some [])):=((M x W).block D bB bA).trans hd;have a4:=(M x W).size;have ah:l<(E x W).2.heap.size:=bB;refine⟨fn,_,assign,body,run_yield (P:=P) (args:=G x) hl (ay x),roundIn_of_wpIn au (N _ x W _ ⟨_,run_beginRound ax rfl,?_⟩)⟩;have av:((E x W).2.putObj l (.loop { rec_ .ready none with state:=.busy })).heap[l]? = some (.loop { rec_ .ready none with state:=.busy }):=pU ah;have ap:((E x W).2.putObj l (.loop { rec_ .ready none with state:=.busy })).heap[D]? = some (.deferred (some [])):=(AM bB).trans ar;refine wpIn_mono (U _ pre x W _ hi af bB (AG _ _ (by simp [l]))) ?_;rintro e a3 O hp;have J:∀(B:Option Code),((E x W).2.putObj l (.loop { rec_ .ready none with state:=.busy })).heap.size<=O.heap.size->(∀k∈[w.heap.size,w.heap.size+1],O.heap[k]? = ((E x W).2.putObj l (.loop { rec_ .ready none with state:=.busy })).heap[k]?)->
    (Instr.endRound l B).run P O = .ok (pI B.isNone) (O.putObj l (.loop (rec_ (if B.isNone then .ready else .done) B)))/\l<O.heap.size/\W1.heap.size<=O.heap.size/\
    (O.putObj l (.loop (rec_ (if B.isNone then .ready else .done) B))).heap[l]? = some (.loop (rec_ (if B.isNone then .ready else .done) B))/\
    (O.putObj l (.loop (rec_ (if B.isNone then .ready else .done) B))).heap[D]? = some (.deferred (some [])):=fun B ab hk=>by
   rw [World.putObj_size] at ab;have aw:O.heap[l]? = some (.loop { rec_ .ready none with state:=.busy }):=(hk l (by simp [l])).trans av;have aq:O.heap[D]? = some (.deferred (some [])):=(hk D (by simp [D])).trans ap;exact⟨run_endRound (P:=P) B aw,by omega,by omega,pU bB,(AM bB).trans aq⟩
  cases e with
  | normal=>
   obtain⟨hr,ag,ab,aa,X⟩:=J none hp.1 hp.2.1;exact⟨_,_,hr,.inl ⟨rfl,hI _ _ _ hp.2.2 (AG _ _ (by simp [l])),by simp;omega,aa,X⟩⟩
  | ret=>
   obtain⟨hr,ag,ab,aa,X⟩:=J (some .ret) hp.1 hp.2.1;exact⟨_,_,hr,.inr ⟨rfl,T _ _ _ hp.2.2 (AG _ _ (by simp [l])),by simp;omega,aa,X⟩⟩
  | exit id=>exact hp.elim
  | goto t=>exact hp.elim
  | panic ch=>exact hp.elim
  | outgrown=>exact hp.elim
 ·rintro e W2 ⟨⟨v,rfl⟩,(⟨hi,hsz,hl,hd⟩ | ⟨pre,ao,hi,hsz,hl,hd⟩)⟩
  ·exact⟨none,_,run_endLoop (P:=P) hl (by simp [rec_]),Y _ (hI _ _ _ hi (AG _ _ (by simp [l]))) bG ((AM bB).trans hd)⟩
  ·exact⟨some .ret,_,run_endLoop (P:=P) hl (by simp [rec_]),ac pre _ ao (T _ _ _ hi (AG _ _ (by simp [l]))) bG ((AM bB).trans hd)⟩
end
section
open Go.RowKit Go.Shelf
attribute [local go_sem] pN
attribute [local go_sem ↓] wp_at_zero wp_at_succ
def eJ(r sb:Nat):WS->Value
 | .bet=>.func (.func 73) #[pG (some ⟨r,0,none⟩)] #[]
 | .bare=>.func (.func 111) #[pG (some ⟨r,0,none⟩)] #[]
 | .quo=>.func (.func 110) #[pG (some ⟨r,0,none⟩)] #[]
 | .shut=>.func (.func 181) #[] #[pG (some ⟨sb,0,none⟩)]
 | .esc=>.func (.func 182) #[] #[pG (some ⟨sb,0,none⟩)]
def oZ:WS->Nat
 | .bet=>73
 | .bare=>111
 | .quo=>110
 | .shut=>181
 | .esc=>182
def oY(r sb:Nat)(b:UInt8)(e:Bool):WS->Array Value
 | .bet=>#[pG (some ⟨r,0,none⟩),.int .u8 (b.toNat:Int),pI e]
 | .bare=>#[pG (some ⟨r,0,none⟩),.int .u8 (b.toNat:Int),pI e]
 | .quo=>#[pG (some ⟨r,0,none⟩),.int .u8 (b.toNat:Int),pI e]
 | .shut=>#[.int .u8 (b.toNat:Int),pI e,pG (some ⟨sb,0,none⟩)]
 | .esc=>#[.int .u8 (b.toNat:Int),pI e,pG (some ⟨sb,0,none⟩)]
def iS(w:World)(r sb:Nat)(base:Nat):WS->Prop
 | .shut=>Blk w sb 165 #[pG (some ⟨r,0,none⟩)]/\base<=sb
 | .esc=>Blk w sb 165 #[pG (some ⟨r,0,none⟩)]/\base<=sb
 | _=>True
def IG(r base:Nat)(S:List Nat)(w:World)(res:Except Int Cm)(x:Ending)(w':World):Prop:=match res with
 | .error k=>(∃v,x = pJ (.tuple #[v,FZ (some k)]))/\Aa S w w'
 | .ok R'=>∃dv' wv' sb',x = pJ (.tuple #[eJ r sb' R'.st,.nilIface])/\EE w' r base dv' wv' R'/\iS w' r sb' base R'.st/\Aa S w w'
theorem K2(b k:UInt8):(((b.toNat:Int))==((k.toNat:Nat):Int))=decide (b=k):=by
 rw [DI,beq_iff_eq,decide_eq_true_eq];constructor
 ·intro h;exact DX.1 bB
 ·rintro rfl;rfl
theorem XO(r base:Nat)(dv wv:Value)(R:Cm)(b:UInt8)(e:Bool)(M:R.done.length<12)(w:World)(h:EE w r base dv wv R)(F:e=true\/b=32):
  Calls prog 111 #[pG (some (A_ r 0)),.int .u8 (b.toNat:Int),pI e] w (IG r base (EE.S r dv wv) w (.ok (R.shutW .bet))):=by
 have G:=lH h;have D:e=true\/(e=false/\((b.toNat:Int)==32)=true):=by
  cases e with
  | true=>exact .inl rfl
  | false=>exact .inr ⟨rfl,(K2 b 32).trans (by simpa using F)⟩
 obtain⟨bi,B⟩:∃bi:Int,(b.toNat:Int)=bi:=⟨_,rfl⟩;rw [B] at D ⊢;clear h F B;rcases D with rfl | ⟨rfl,J⟩
 all_goals
  go_enter func111,ntmps111;go_wp2_with fail;refine(UI r base dv wv R M .bet _ G.o).mono ?_;rintro x w' ⟨rfl,E,hR,hk⟩;have HR:=lH hR;have HK:=lH hk;clear hR hk;go_wp2;go_ret2;exact⟨E,pF none 0 0,0,rfl,HR.o,trivial,HK.o⟩
theorem Vz(r base:Nat)(dv wv:Value)(b:UInt8)(w:World)(D:b=34):
  Calls prog 111 #[pG (some (A_ r 0)),.int .u8 (b.toNat:Int),pI false] w (IG r base (EE.S r dv wv) w (.error 12)):=by
 subst D;have e1:((UInt8.toNat 34:Nat):Int)=34:=rfl;rw [e1];go_enter func111,ntmps111;go_wp2_with fail;refine(CY (some (A_ w 0)) 2 [(true,12),(false,13)] 2 rfl bB (some 12) rfl _ (NM w true false 12 13)).mono ?_;rintro x w' ⟨rfl,B⟩;have HK:=lH (((Aa.refl [] w).alloc _).trans B);clear B;simp only [FZ];go_wp2;go_ret2;exact⟨⟨_,rfl⟩,HK.o.mono bA⟩
theorem V4(r base:Nat)(dv wv:Value)(b:UInt8)(w:World)(D:b=92):
  Calls prog 111 #[pG (some (A_ r 0)),.int .u8 (b.toNat:Int),pI false] w (IG r base (EE.S r dv wv) w (.error 13)):=by
 subst D;have e1:((UInt8.toNat 92:Nat):Int)=92:=rfl;rw [e1];go_enter func111,ntmps111;go_wp2_with fail;refine(CY (some (A_ w 0)) 2 [(false,12),(true,13)] 2 rfl bB (some 13) rfl _ (NM w false true 12 13)).mono ?_;rintro x w' ⟨rfl,B⟩;have HK:=lH (((Aa.refl [] w).alloc _).trans B);clear B;simp only [FZ];go_wp2;go_ret2;exact⟨⟨_,rfl⟩,HK.o.mono bA⟩
def XC(R:Cm)(st:WS)(b:UInt8):Except Int Cm:=if 64<R.word.length+1 then .error 14 else .ok ⟨st,R.done,R.word++[b]⟩
theorem MG{r base:Nat}{dv wv:Value}{R:Cm}{st:WS}{b:UInt8}{w w1 w':World}{wv':Value}(sb:Nat)(hk1:Aa [] w w1)(hS:st = .bare\/st = .quo)(h:EE w' r base dv wv' ⟨R.st,R.done,R.word++[b]⟩)(hk:Aa (EE.S r dv wv) w1 w'):
  IG r base (EE.S r dv wv) w (XC R st b) (pJ (.tuple #[eJ r sb st,FZ (if 64<R.word.length+1 then some 14 else none)])) w':=by
 have hkk:Aa (EE.S r dv wv) w w':=(hk1.mono bA).trans hk;unfold XC;by_cases hc:64<R.word.length+1
 ·rw [if_pos hc,if_pos hc]
  exact⟨⟨_,rfl⟩,hkk⟩
 ·rw [if_neg hc,if_neg hc]
  refine⟨dv,wv',sb,rfl,⟨h.blk,h.d,h.wd,h.lt,h.le,h.ne,h.hd,h.hw⟩,?_,hkk⟩;rcases hS with rfl | rfl<;>trivial
theorem XN(r base:Nat)(dv wv:Value)(R:Cm)(b:UInt8)(hw:R.word.length<=64)(w:World)(h:EE w r base dv wv R)(h1:b≠32)(h2:b≠34)(h3:b≠92):
  Calls prog 111 #[pG (some (A_ r 0)),.int .u8 (b.toNat:Int),pI false] w (IG r base (EE.S r dv wv) w (XC R .bare b)):=by
 have T:=lH h;have f1:((b.toNat:Int)==32)=false:=(K2 b 32).trans bR;have X:((b.toNat:Int)==34)=false:=(K2 b 34).trans kC;have Y:((b.toNat:Int)==92)=false:=(K2 b 92).trans (by simpa using h3);have D:=(fun W hW=>PI r base dv wv R b hw W hW);have B:=(fun M U wv' (hk1:Aa [] w M) h hk=>MG (r:=r) (base:=base) (dv:=dv) (wv:=wv) (R:=R) (b:=b) (w:=w) (w1:=M) (w':=U) (wv':=wv') (st:=.bare) 0 hk1 (.inl rfl) h hk);obtain⟨er,J⟩:∃er:Option Int,(if 64<R.word.length+1 then some 14 else none)=er:=⟨_,rfl⟩;rw [J] at D B;have E:=lH D;have F:=lH B;clear D B J;obtain⟨bi,G⟩:∃bi:Int,(b.toNat:Int)=bi:=⟨_,rfl⟩;rw [G] at f1 X Y E ⊢;clear h h1 h2 h3 G;go_enter func111,ntmps111;go_wp2_with fail;refine(CY (some (A_ w 0)) 2 [(false,12),(false,13)] 2 rfl bB none rfl _ (NM w false false 12 13)).mono ?_;rintro x w1 ⟨rfl,N⟩;have HK:=lH (((Aa.refl [] w).alloc _).trans N);clear N;simp only [FZ];go_wp2_with fail;refine(E.o _ (T.o.keeps HK.o bA)).mono ?_;rintro x w2 ⟨rfl,wv',hR,hk,-⟩;have O:=lH (F.o _ _ _ HK.o hR hk);clear hR hk;go_wp2;go_ret2;exact O.o
theorem QV(r base:Nat)(dv wv:Value)(R:Cm)(b:UInt8)(e:Bool)(B:R.done.length<12)(hw:R.word.length<=64)(w:World)(h:EE w r base dv wv R):
  Calls prog 111 #[pG (some (A_ r 0)),.int .u8 (b.toNat:Int),pI e] w (IG r base (EE.S r dv wv) w (R.bareS b e)):=by
 unfold Cm.bareS;by_cases hc:e=true\/b=32
 ·rw [if_pos hc];exact XO r base dv wv R b e B w h hc
 ·rw [if_neg hc]
  obtain rfl:e=false:=by cases e with | true=>exact absurd (.inl rfl) hc | false=>rfl
  by_cases h2:b=34
  ·rw [if_pos h2];exact Vz r base dv wv b w h2
  ·rw [if_neg h2]
   by_cases h3:b=92
   ·rw [if_pos h3];exact V4 r base dv wv b w h3
   ·rw [if_neg h3];exact XN r base dv wv R b hw w h (fun e=>hc (.inr e)) h2 h3
theorem QX(r base:Nat)(dv wv:Value)(R:Cm)(b:UInt8)(e:Bool)(hs:R.st = .bet)(hd:R.done.length<=12)(hw:R.word.length<=64)(w:World)(h:EE w r base dv wv R):
  Calls prog 73 #[pG (some (A_ r 0)),.int .u8 (b.toNat:Int),pI e] w (IG r base (EE.S r dv wv) w (R.step b e)):=by
 have D:R.step b e=if e=true\/b=32 then .ok R else if R.done.length=12 then .error 15 else if b=34 then .ok ⟨.quo,R.done,R.word⟩ else R.bareS b false:=by unfold Cm.step;rw [hs]
 rw [D];have E:=lH h;have X:=h.blk.cell 0;simp at X;obtain⟨n,hn⟩:=eX R.done.length;have N:(∃a c,dv = pF a n c):=by
  rw [<- hn];rcases h.d.2 with⟨rfl,h0⟩ | ⟨g,c,cur,rfl,_⟩
  ·exact⟨none,0,by rw [h0]⟩
  ·exact⟨_,_,rfl⟩
 obtain⟨da,dc,rfl⟩:=N;have HS:=lH hs;rw [hn] at hd ⊢;have HN:=lH hn;clear D hs hn;by_cases hc:e=true\/b=32
 ·rw [if_pos hc]
  have G:e=true\/(e=false/\((b.toNat:Int)==32)=true):=by
   cases e with
   | true=>exact .inl rfl
   | false=>exact .inr ⟨rfl,(K2 b 32).trans (by simpa using hc)⟩
  obtain⟨bi,B⟩:∃bi:Int,(b.toNat:Int)=bi:=⟨_,rfl⟩;rw [B] at G ⊢;clear h hc B X;rcases G with rfl | ⟨rfl,ad⟩
  all_goals
   go_enter func73,ntmps73;go_wp2;go_ret2;exact⟨_,wv,0,by rw [HS.o];rfl,E.o,by rw [HS.o];trivial,Aa.refl _ _⟩
 ·rw [if_neg hc]
  obtain rfl:e=false:=by cases e with | true=>exact absurd (.inl rfl) hc | false=>rfl
  have f1:((b.toNat:Int)==32)=false:=(K2 b 32).trans (by simpa using hc);by_cases h12:n=12
  ·rw [if_pos h12]
   subst h12;obtain⟨bi,B⟩:∃bi:Int,(b.toNat:Int)=bi:=⟨_,rfl⟩;rw [B] at f1 ⊢;clear h hc B;go_enter func73,ntmps73;go_wp2;go_ret2;exact⟨⟨_,rfl⟩,Aa.refl _ _⟩
  ·rw [if_neg h12]
   have ac:((n:Int)==12)=false:=by simpa using(show ¬(n:Int)=12 by omega)
   by_cases h34:b=34
   ·rw [if_pos h34]
    have M:((b.toNat:Int)==34)=true:=(K2 b 34).trans (by simpa using h34);obtain⟨bi,B⟩:∃bi:Int,(b.toNat:Int)=bi:=⟨_,rfl⟩;rw [B] at f1 M ⊢;clear h hc B h34 h12;go_enter func73,ntmps73;go_wp2;go_ret2;exact⟨_,wv,0,rfl,⟨E.o.blk,E.o.d,E.o.wd,E.o.lt,E.o.le,E.o.ne,E.o.hd,E.o.hw⟩,trivial,Aa.refl _ _⟩
   ·rw [if_neg h34]
    have M:((b.toNat:Int)==34)=false:=(K2 b 34).trans (by simpa using h34);have hb:=QV r base (pF da n dc) wv R b false (by have:=HN.o;omega) hw w h;obtain⟨O,F⟩:=eX (R.bareS b false);rw [F] at hb ⊢;have HB:=lH hb;obtain⟨bi,B⟩:∃bi:Int,(b.toNat:Int)=bi:=⟨_,rfl⟩;rw [B] at f1 M HB ⊢;clear h hc B h34 h12 hb F;go_enter func73,ntmps73;go_wp2_with fail;refine HB.o.mono ?_;intro x w' hx;cases O with
    | error k=>
     obtain⟨⟨v,rfl⟩,hk⟩:=hx;have HK:=lH hk;clear hk;go_wp2;go_ret2;exact⟨⟨_,rfl⟩,HK.o⟩
    | ok R'=>
     obtain⟨J,U,T,rfl,h1,h2,h3⟩:=hx;have Y:=lH h1;have H2:=lH h2;have H3:=lH h3;clear h1 h2 h3;go_wp2;go_ret2;exact⟨J,U,T,rfl,Y.o,H2.o,H3.o⟩
theorem EE.S_lt{w:World}{r base:Nat}{dv wv:Value}{R:Cm}(h:EE w r base dv wv R):∀y∈EE.S r dv wv,y<w.heap.size:=fun y hy=>by
 simp only [EE.S,Ac,AQ,Option.mem_toList] at hy;rcases hy with rfl | hy | hy
 ·exact h.blk.lt
 ·exact(h.d.lt y hy).2
 ·exact(h.wd.lt y hy).2
theorem ZH(r base:Nat)(dv wv:Value)(R:Cm)(D:R.done.length<12)(w:World)(h:EE w r base dv wv R):
  Calls prog 149 #[pG (some (A_ r 0))] w fun e w'=>e = pJ (eJ r w .shut)/\Blk w' w 165 #[pG (some (A_ r 0))]/\∃dv',EE w' r base dv' (pF none 0 0) (R.shutW .shut)/\Aa (EE.S r dv wv) w w':=by
 have B:=lH h;have HB:=lH (Blk.new w 165 #[pG (some (A_ r 0))]);have HK:=lH ((Aa.refl [] w).alloc (.cells #[pG (some (A_ r 0))] 165));clear h;go_enter func149,ntmps149;go_wp2_with fail;refine(UI r base dv wv R D .shut _ (B.o.keeps HK.o bA)).mono ?_;rintro x w' ⟨rfl,dv',hR,hk⟩;have HR:=lH hR;have HB2:=lH (HB.o.keeps hk (fun hm=>by have:=B.o.S_lt _ hm;omega));have HK2:=lH ((HK.o.mono bA).trans hk);clear hR hk;go_wp2;go_ret;exact⟨rfl,HB2.o,dv',HR.o,HK2.o⟩
theorem Ty(r:Nat)(w:World):
  Calls prog 150 #[pG (some (A_ r 0))] w fun e w'=>e = pJ (eJ r w .esc)/\Blk w' w 165 #[pG (some (A_ r 0))]/\Aa [] w w':=by
 have HB:=lH (Blk.new w 165 #[pG (some (A_ r 0))]);have HK:=lH ((Aa.refl [] w).alloc (.cells #[pG (some (A_ r 0))] 165));go_enter func150,ntmps150;go_wp2;go_ret;exact⟨rfl,HB.o,HK.o⟩
theorem WW(r base sb:Nat)(dv wv:Value)(R:Cm)(b:UInt8)(e:Bool)(hs:R.st = .shut)(w:World)(h:EE w r base dv wv R)(hb:Blk w sb 165 #[pG (some (A_ r 0))]):
  Calls prog 181 #[.int .u8 (b.toNat:Int),pI e,p_ sb 0] w (IG r base (EE.S r dv wv) w (R.step b e)):=by
 have B:R.step b e=if e=false/\b≠32 then .error 12 else .ok ⟨.bet,R.done,R.word⟩:=by unfold Cm.step;rw [hs]
 rw [B];have G:=lH h;have D:=hb.cell 0;simp at D;have hcase:(e=false/\b≠32)\/(e=true)\/(e=false/\b=32):=by cases e<;>by_cases E:b=32<;>simp [E]
 rcases hcase with⟨rfl,E⟩ | rfl | ⟨rfl,rfl⟩
 ·rw [if_pos ⟨rfl,E⟩]
  have f1:((b.toNat:Int) != 32)=true:=by rw [bne,show((b.toNat:Int)==32)=false from(K2 b 32).trans (by simpa using E)];rfl
  obtain⟨bi,F⟩:∃bi:Int,(b.toNat:Int)=bi:=⟨_,rfl⟩;rw [F] at f1 ⊢;clear h hb B hs E F;go_enter func181,ntmps181;go_wp2_with fail
  go_region_held3 (fun w'=>w'.cell? (A_ sb 0)=some (p_ r 0)/\Aa [] w w') (first | exact⟨D,((Aa.refl [] w).drew)⟩ | exact⟨(Aa.refl [] w).drew.alloc _ |>.cellsV _ _ D,((Aa.refl [] w).drew).alloc _⟩ | exact⟨hkk.cellsV _ _ D,hkk⟩) (first | (go_at_call 74;refine(CY (some (A_ w 0)) 1 [(true,12)] 1 rfl bB (some 12) rfl _ (Jy w.drew true 12)).mono ?_;rintro e w1 ⟨rfl,hk⟩;have hkk:=(((Aa.refl [] w).drew).alloc _).trans hk;simp only [FZ]))
  all_goals
   have HK:=lH hkk;clear hkk hk D;go_wp2;go_ret2;exact⟨⟨_,rfl⟩,HK.o.mono bA⟩
 ·rw [if_neg bA]
  obtain⟨bi,F⟩:∃bi:Int,(b.toNat:Int)=bi:=⟨_,rfl⟩;rw [F];clear h hb B hs F;go_enter func181,ntmps181;go_wp2_with fail;refine wp_region_held_drew (S:=(fun w':World=>w'.cell? (A_ sb 0)=some (p_ r 0)/\Aa [] w w')) bC (by((try dsimp only);(first | exact⟨D,((Aa.refl [] w).drew)⟩ | exact⟨(Aa.refl [] w).drew.alloc _ |>.cellsV _ _ D,((Aa.refl [] w).drew).alloc _⟩ | exact⟨hkk.cellsV _ _ D,hkk⟩))) (fun hHeld=>?_)
  repeat' (first | exact rZ | refine rX ?_ | ((first | (refine rA 1 (fun K hK=>?_) ?_;go_simp) | (refine rA 9 (fun K hK=>?_) ?_;go_simp) | (refine rA 10 (fun K hK=>?_) ?_;go_simp;refine(CY (some (A_ w 0)) 1 [(false,12)] 1 rfl bB none rfl _ (Jy w.drew false 12)).mono ?_;rintro e w1 ⟨rfl,hk⟩;have hkk:=(((Aa.refl [] w).drew).alloc _).trans hk;simp only [FZ]));refine rO hK (by((try dsimp only);(first | exact⟨D,((Aa.refl [] w).drew)⟩ | exact⟨(Aa.refl [] w).drew.alloc _ |>.cellsV _ _ D,((Aa.refl [] w).drew).alloc _⟩ | exact⟨hkk.cellsV _ _ D,hkk⟩))) fun hHeld=>?_;clear hK K) | (refine rQ 0 ?_;refine rQ 2 ?_;refine rQ 3 ?_;refine rQ 4 ?_;refine rN 5 ?_;refine rN 6 ?_;refine rQ 7 ?_;refine rQ 8 ?_) | (refine rQ 11 ?_;refine rQ 12 ?_) | refine rB [1,9,10] ?_ | (refine wpAnyH_done bC ?_ _;(have HK:=lH hkk;clear hkk hk D;go_wp2;go_ret2;have hR:=G.o.keeps HK.o bA;exact⟨dv,wv,0,rfl,⟨hR.blk,hR.d,hR.wd,hR.lt,hR.le,hR.ne,hR.hd,hR.hw⟩,trivial,HK.o.mono bA⟩)))
 ·rw [if_neg bA]
  have e1:((UInt8.toNat 32:Nat):Int)=32:=rfl;rw [e1];clear h hb B hs;go_enter func181,ntmps181;go_wp2_with fail
  go_region_held3 (fun w'=>w'.cell? (A_ sb 0)=some (p_ r 0)/\Aa [] w w') (first | exact⟨D,((Aa.refl [] w).drew)⟩ | exact⟨(Aa.refl [] w).drew.alloc _ |>.cellsV _ _ D,((Aa.refl [] w).drew).alloc _⟩ | exact⟨hkk.cellsV _ _ D,hkk⟩) (first | (go_at_call 74;refine(CY (some (A_ w 0)) 1 [(false,12)] 1 rfl bB none rfl _ (Jy w.drew false 12)).mono ?_;rintro e w1 ⟨rfl,hk⟩;have hkk:=(((Aa.refl [] w).drew).alloc _).trans hk;simp only [FZ]))
  all_goals
   have HK:=lH hkk;clear hkk hk D;go_wp2;go_ret2;have hR:=G.o.keeps HK.o bA;exact⟨dv,wv,0,rfl,⟨hR.blk,hR.d,hR.wd,hR.lt,hR.le,hR.ne,hR.hd,hR.hw⟩,trivial,HK.o.mono bA⟩
theorem V7{w:World}{g g':Nat}{t t':TypeId}{cs cs':Array Value}(h:Blk w g t cs)(h':w.heap[g']? = some (.cells cs' t' (0,0)))(hne:t≠t'):g≠g':=Blk.ne_ h (show Blk w g' t' cs' from h') hne
theorem EE.S_ne{w:World}{r base:Nat}{dv wv:Value}{R:Cm}(h:EE w r base dv wv R){sb:Nat}{cs:Array Value}(hb:Blk w sb 165 cs):sb∉EE.S r dv wv:=fun hm=>by
 have row:∀ {e:TypeId} {sz k:Nat} {v:Value} {xs:List Value},w.ownsRow base e sz v k xs->165≠e->v.ownBlock≠some sb:=fun hr hne he=>by
  rcases hr.2 with⟨rfl,_⟩ | ⟨g,c,cur,rfl,_,hg,_⟩
  ·cases he
  ·simp only [EZ,Option.some.injEq] at he
   subst he;exact V7 hb hg hne rfl
 simp only [EE.S,Ac,AQ,Option.mem_toList] at hm;rcases hm with hm | hm | hm
 ·exact Blk.ne_ hb h.blk bE hm
 ·exact row h.d bE hm
 ·exact row h.wd bE hm
theorem Rx(r base sb:Nat)(dv wv:Value)(R:Cm)(b:UInt8)(e:Bool)(hs:R.st = .esc)(hw:R.word.length<=64)(w:World)(h:EE w r base dv wv R)(hb:Blk w sb 165 #[pG (some (A_ r 0))]):
  Calls prog 182 #[.int .u8 (b.toNat:Int),pI e,p_ sb 0] w (IG r base (EE.S r dv wv) w (R.step b e)):=by
 have B:R.step b e=if e=true\/(b≠34/\b≠92) then .error 13 else XC R .quo b:=by unfold Cm.step;rw [hs];rfl
 rw [B];have HH:=lH h;have HB:=lH hb;by_cases hc:e=true\/(b≠34/\b≠92)
 ·rw [if_pos hc]
  have F:e=true\/(e=false/\((b.toNat:Int) != 34)=true/\((b.toNat:Int) != 92)=true):=by
   cases e with
   | true=>exact .inl rfl
   | false=>
    rcases hc with h1 | ⟨h1,h2⟩
    ·cases h1
    ·exact .inr ⟨rfl,by rw [bne,show((b.toNat:Int)==34)=false from(K2 b 34).trans bR];rfl,by rw [bne,show((b.toNat:Int)==92)=false from(K2 b 92).trans kC];rfl⟩
  obtain⟨bi,E⟩:∃bi:Int,(b.toNat:Int)=bi:=⟨_,rfl⟩;rw [E] at F ⊢;clear h hb B hs hc E;rcases F with rfl | ⟨rfl,f1,f2⟩
  all_goals
   go_enter func182,ntmps182;go_wp2_with fail;refine(CY (some (A_ w 0)) 1 [(true,13)] 1 rfl bB (some 13) rfl _ (Jy w true 13)).mono ?_;rintro x w1 ⟨rfl,X⟩;have HK:=lH (((Aa.refl [] w).alloc _).trans X);clear X;simp only [FZ];go_wp2;go_ret2;exact⟨⟨_,rfl⟩,HK.o.mono bA⟩
 ·rw [if_neg hc]
  obtain rfl:e=false:=by cases e with | true=>exact absurd (.inl rfl) hc | false=>rfl
  have F:(((b.toNat:Int) != 34)=false)\/(((b.toNat:Int) != 34)=true/\((b.toNat:Int) != 92)=false):=by
   by_cases h34:b=34
   ·exact .inl (by rw [bne,show((b.toNat:Int)==34)=true from(K2 b 34).trans (by simpa using h34)];rfl)
   ·have M:b=92:=by
     apply Classical.byContradiction;intro M;exact hc (.inr ⟨h34,M⟩)
    exact .inr ⟨by rw [bne,show((b.toNat:Int)==34)=false from(K2 b 34).trans (by simpa using h34)];rfl,by rw [bne,show((b.toNat:Int)==92)=true from(K2 b 92).trans (by simpa using M)];rfl⟩
  have D:=(fun W hW=>PI r base dv wv R b hw W hW);have B:=(fun W1 W' wv' (hk1:Aa [] w W1) h hk=>MG (r:=r) (base:=base) (dv:=dv) (wv:=wv) (R:=R) (b:=b) (w:=w) (w1:=W1) (w':=W') (wv':=wv') (st:=.quo) 0 hk1 (.inr rfl) h hk);obtain⟨er,U⟩:∃er:Option Int,(if 64<R.word.length+1 then some 14 else none)=er:=⟨_,rfl⟩;rw [U] at D B;have G:=lH D;have J:=lH B;obtain⟨bi,E⟩:∃bi:Int,(b.toNat:Int)=bi:=⟨_,rfl⟩;rw [E] at F G ⊢;clear h hb D B U hc E hs;rcases F with f1 | ⟨f1,f2⟩
  all_goals
   go_enter func182,ntmps182;go_wp2_with fail;refine(CY (some (A_ w 0)) 1 [(false,13)] 1 rfl bB none rfl _ (Jy w false 13)).mono ?_;rintro x w1 ⟨rfl,X⟩;have HK:=lH (((Aa.refl [] w).alloc _).trans X);clear X;simp only [FZ];have c0:w1.cell? (A_ sb 0)=some (p_ r 0):=(HB.o.keeps HK.o bA).cell 0;have O:=(HH.o.keeps HK.o bA);have N:=(HB.o.keeps HK.o bA);have HN:=lH (O.S_ne N);have Y:=lH O;have HB1:=lH N;clear O N;go_wp2_with fail
   go_region_held3 (fun w'=>w'.cell? (A_ sb 0)=some (p_ r 0)) (first | exact c0 | exact T) (first | (go_at_call 151;refine(G.o _ (Y.o.keeps ((Aa.refl [] w1).drew) bA)).mono ?_;rintro x w2 ⟨rfl,wv',hR,hk,-⟩;have T:w2.cell? (A_ sb 0)=some (p_ r 0):=(HB1.o.keeps (S:=EE.S r dv wv) ((Aa.refl _ w1).drew.trans hk) HN.o).cell 0))
   all_goals
    have HF:=lH (J.o _ _ _ (HK.o.trans ((Aa.refl [] w1).drew)) hR hk);clear hR hk c0 T;go_wp2;go_ret2;exact HF.o
def Sd(k:Int)(f:Nat)(n:Nat):MapEntry:={ key:=.int .u8 k,val:=.func (.func f) #[] #[],born:=n }
def Gb:Array MapEntry:=#[Sd 34 149 0,Sd 92 150 1]
theorem Sf(es:Array MapEntry)(c:Nat)(k:Int)(f:Nat)(hf:B0 (.int .u8) (.int .u8 k) es.toList 0=some none)(w:World):
  (Instr.mapUpdate 282 (.map (some w)) (.int .u8 k) (.func (.func f) #[] #[])).run prog (w.alloc (.map es c)) = .ok () (w.alloc (.map (es.push (Sd k f c)) (c+1))):=
 Fh underlying282 underlying5 rfl hf
theorem Se(k:Int)(f i:Nat)(hf:B0 (.int .u8) (.int .u8 k) Gb.toList 0=some (some (i,.func (.func f) #[] #[])))(w:World):
  (Ed 282 (.map (some w)) (.int .u8 k) true).run prog (w.alloc (.map Gb 2)) = .ok (.tuple #[.func (.func f) #[] #[],pI true]) (w.alloc (.map Gb 2)):=
 (DD underlying282 underlying5 (heap_alloc_new w _) bS hf).1
theorem W8(k:Int)(h1:¬k=34)(h2:¬k=92)(w:World):
  (Ed 282 (.map (some w)) (.int .u8 k) true).run prog (w.alloc (.map Gb 2)) = .ok (.tuple #[.nilFunc,pI false]) (w.alloc (.map Gb 2)):=by
 have hz:(zeroValue 280).run prog (w.alloc (.map Gb 2)) = .ok .nilFunc (w.alloc (.map Gb 2)):=bC;exact(EW underlying282 underlying5 (heap_alloc_new w _) bS (by simp [Gb,Sd,B0,Instr.sameNow,beq_eq_false_iff_ne.2 h1,beq_eq_false_iff_ne.2 h2]) hz).1
theorem jR(b k:UInt8)(h:(b.toNat:Int)=((k.toNat:Nat):Int)):b=k:=DX.1 bB
theorem Uh(r base:Nat)(dv wv:Value)(R:Cm)(b:UInt8)(e:Bool)(hs:R.st = .quo)(hd:R.done.length<12)(hw:R.word.length<=64)(w:World)(h:EE w r base dv wv R):
  Calls prog 110 #[pG (some (A_ r 0)),.int .u8 (b.toNat:Int),pI e] w (IG r base (EE.S r dv wv) w (R.step b e)):=by
 have B:R.step b e=if e=true then .error 12 else if b=34 then .ok (R.shutW .shut) else if b=92 then .ok ⟨.esc,R.done,R.word⟩ else XC R .quo b:=by unfold Cm.step;rw [hs];rfl
 rw [B];clear B;have N:=lH h;cases e with
 | true=>
  rw [if_pos rfl];obtain⟨bi,F⟩:∃bi:Int,(b.toNat:Int)=bi:=⟨_,rfl⟩;rw [F];clear h hs F;go_enter func110,ntmps110;go_wp2;go_ret2;exact⟨⟨_,rfl⟩,Aa.refl _ _⟩
 | false=>
  rw [if_neg bE];have hm:=fun W=>run_makeMap (P:=prog) 282 W;have p1:=Sf #[] 0 34 149 rfl w;have p2:=Sf #[Sd 34 149 0] 1 92 150 rfl w;simp only [Cd,BH,AL,pL] at p1 p2;have D:=lH ((Aa.refl [] w).alloc (.map Gb 2));by_cases h34:b=34
  ·subst h34
   rw [if_pos rfl];have e1:((UInt8.toNat 34:Nat):Int)=34:=rfl;rw [e1];have G:=Se 34 149 0 rfl w;unfold Gb at G;have HS:=lH (ZH r base dv wv R hd _ (N.o.keeps D.o bA));clear h hs;go_enter func110,ntmps110;go_wp2_with fail;refine HS.o.mono ?_;rintro x w' ⟨rfl,hb,T,hR,hk⟩;rw [Eo] at hb;have HB:=lH hb;have HR:=lH hR;have HK:=lH hk;have HLE:Hi (base<=w.heap.size+1):=lH (by have:=N.o.le;omega);clear hb hR hk p1 p2 G;go_wp2;go_ret2;exact⟨T,pF none 0 0,_,rfl,HR.o,⟨HB.o,HLE.o⟩,(D.o.mono bA).trans HK.o⟩
  ·rw [if_neg h34]
   by_cases h92:b=92
   ·subst h92
    rw [if_pos rfl];have e1:((UInt8.toNat 92:Nat):Int)=92:=rfl;rw [e1];have G:=Se 92 150 1 rfl w;unfold Gb at G;clear h hs h34;go_enter func110,ntmps110;go_wp2_with fail;refine(Ty r _).mono ?_;rintro x w' ⟨rfl,hb,hk⟩;rw [Eo] at hb;have HB:=lH hb;have HK:=lH (D.o.trans hk);have HLE:Hi (base<=w.heap.size+1):=lH (by have:=N.o.le;omega);clear hb hk p1 p2 G;go_wp2;go_ret2;have hR:=N.o.keeps HK.o bA;exact⟨dv,wv,_,rfl,⟨hR.blk,hR.d,hR.wd,hR.lt,hR.le,hR.ne,hR.hd,hR.hw⟩,⟨HB.o,HLE.o⟩,HK.o.mono bA⟩
   ·rw [if_neg h92]
    have G:=W8 (b.toNat:Int) (fun e=>h34 (jR b 34 e)) (fun e=>h92 (jR b 92 e)) w;unfold Gb at G;have E:=(fun W hW=>PI r base dv wv R b hw W hW);have B:=(fun U Y wv' (hk1:Aa [] w U) h hk=>MG (r:=r) (base:=base) (dv:=dv) (wv:=wv) (R:=R) (b:=b) (w:=w) (w1:=U) (w':=Y) (wv':=wv') (st:=.quo) 0 hk1 (.inr rfl) h hk);obtain⟨er,O⟩:∃er:Option Int,(if 64<R.word.length+1 then some 14 else none)=er:=⟨_,rfl⟩;rw [O] at E B;have J:=lH E;have M:=lH B;obtain⟨bi,F⟩:∃bi:Int,(b.toNat:Int)=bi:=⟨_,rfl⟩;rw [F] at G J ⊢;clear h hs h34 h92 E B O F;go_enter func110,ntmps110;go_wp2_with fail;refine(J.o _ (N.o.keeps D.o bA)).mono ?_;rintro x w2 ⟨rfl,wv',hR,hk,-⟩;have X:=lH (M.o _ _ _ D.o hR hk);clear hR hk p1 p2 G;go_wp2;go_ret2;exact X.o
structure RF(R:Cm):Prop where
 done:R.done.length≤12
 word:R.word.length≤64
 room:R.st≠.bet→R.st≠.shut→R.done.length<12
theorem iN(r base sb:Nat)(dv wv:Value)(R:Cm)(b:UInt8)(e:Bool)(hf:RF R)(w:World)(h:EE w r base dv wv R)(hm:iS w r sb base R.st):
  Calls prog (oZ R.st) (oY r sb b e R.st) w (IG r base (EE.S r dv wv) w (R.step b e)):=by
 have hw:=hf.word;cases hs:R.st with
 | bet=>exact QX r base dv wv R b e hs hf.done hw w h
 | bare=>
  have:=QV r base dv wv R b e (hf.room bV bV) hw w h;have B:R.step b e=R.bareS b e:=by unfold Cm.step;rw [hs]
  rw [B];exact this
 | quo=>exact Uh r base dv wv R b e hs (hf.room bV bV) hw w h
 | shut=>rw [hs] at hm;exact WW r base sb dv wv R b e hs w h hm.1
 | esc=>rw [hs] at hm;exact Rx r base sb dv wv R b e hs hw w h hm.1
def PD(s:ByteArray):List (UInt8×Bool):=(s.data.toList.map fun b=>(b,false))++[((0:UInt8),true)]
def RT(x:UInt8×Bool):Array Value:=#[.int .u8 (x.1.toNat:Int),pI x.2]
theorem A0{α:Type}{L:List α}{k:Nat}{x:α}(h:L[k]? = some x):L.take (k+1)=L.take k++[x]:=by
 obtain⟨hk,rfl⟩:=Ad.1 h;exact BJ hk
theorem aD(s:ByteArray)(k:Nat)(h:k<s.size):(PD s).take (k+1)=(PD s).take k++[(s[k],false)]:=by
 refine A0 ?_;have h2:k<s.data.toList.length:=by rw [BX];exact h
 unfold PD;rw [List.getElem?_append_left kC,qH,Aq h2];rfl
theorem aC(s:ByteArray):(PD s).take s.size++[((0:UInt8),true)]=PD s:=by
 unfold PD;rw [List.take_left' (by rw [Bd,BX];rfl)]
theorem VG(s:ByteArray)(w:World):
  Calls prog 76 #[Dz s] w fun r w'=>r = pJ (.func (.func 112) #[] #[pG (some (A_ w 0))])/\w.alloc (.cells #[Dz s] 9)=w':=by
 go_enter func76,ntmps76;go_wp2;go_ret;exact⟨rfl,rfl⟩
theorem VF(n l pb:Nat)(s:ByteArray)(hs:s.size<=1000000)(J X:List (UInt8×Bool)->World->Prop)(W:World)(hV:∀z A,J z A->A.cell? (A_ pb 0)=some (Dz s))
 (Y:∀pre x W1,J pre W1->pre++[x] <+: PD s->YieldAt Bx (n - 1) prog l (RT x) W1 fun e W'=>
   (e = pJ (pI true)/\J (pre++[x]) W')\/(e = pJ (pI false)/\X (pre++[x]) W'))
 (h0:J [] W):
  CallsIn Bx n prog 112 #[.func (.yield l) #[] #[],p_ pb 0] W fun e W'=>(∃v,e = pJ v)/\
   (J (PD s) W'\/(∃pre,pre <+: PD s/\X pre W')):=by
 have HV:=lH hV;have U:=lH Y;have O:=lH h0;have d0:=hV _ _ h0;clear hV Y h0;have N:Fence.wide.depth.isSome=true->1<=n:=by intro h;cases h
 have hw1:wrap64 ((s.size:Int)+1)=(s.size:Int)+1:=by unfold wrap64;omega
 refine callsIn_of_wp func112 rfl trivial ?_ rfl;simp only [ntmps112,Cz,Av,D4,pL,pM,Bt,Bu,Cd,BD,BH,AL];gi_wp2;refine BW (wpIn_seq (wpIn_label ?_));gi_wp2
 gi_loopw [7] (fun i wr=>∃k:Nat,i = I_ k/\k<=s.size/\Hi (J ((PD s).take k) wr)) (fun i _=>s.size+1 - (intOf i).toNat)
 case atStart=>exact⟨0,rfl,Ba _,O⟩
 case round=>
  obtain⟨k,rfl,hk,F⟩:=hrel;have d1:=HV.o _ _ F.o;have i1:(0:Int)<=(k:Int):=bB;have i3:(k:Int)<(s.size:Int)+1:=bB;by_cases hlt:k<s.size
  ·have i2:(k:Int)<(s.size:Int):=bB;have i4:((k:Int)==(s.size:Int))=false:=by simp;omega
   have hz:=aD s k hlt;have B:(PD s).take k++[(s[k],false)] <+: PD s:=by rw [<- hz];exact List.take_prefix _ _
   have D:=Dq (U.o _ _ _ F.o B);rw [<- hz] at D;obtain⟨fn,tmps,assign,body,hy,hR⟩:=D;simp only [RT] at hy;have HZ:=lH hz;clear hz B;gi_wp2;refine⟨N,?_⟩;refine hR.mono ?_;rintro e W3 ⟨g,rfl,M,hF⟩;clear hR hy;cases g with
   | false=>
    have G:=lH (hF.out rfl);clear M hF;gi_wp2;try rw [AY]
    go_end0
    exact⟨⟨_,rfl⟩,.inr ⟨(PD s).take (k+1),List.take_prefix _ _,G.out⟩⟩
   | true=>
    have E:=lH (M.out rfl);clear M hF;gi_wp2;go_roundw;case rel=>exact⟨k+1,by go_num,by omega,E⟩
    case measure=>simp [intOf];omega
  ·obtain rfl:k=s.size:=bB;have i4:((s.size:Int)==(s.size:Int))=true:=bA;have hz:=aC s;have B:(PD s).take s.size++[((0:UInt8),true)] <+: PD s:=by rw [hz];exact List.prefix_refl _
   have D:=Dq (U.o _ _ _ F.o B);rw [hz] at D;obtain⟨fn,tmps,assign,body,hy,hR⟩:=D;have T:(_:Prop):=hy;simp only [RT] at hy;have e0:((UInt8.toNat 0:Nat):Int)=0:=rfl;rw [e0] at hy;clear hz B T;gi_wp2;refine⟨N,?_⟩;refine hR.mono ?_;rintro e W3 ⟨g,rfl,M,hF⟩;clear hR hy;cases g with
   | false=>
    have G:=lH (hF.out rfl);clear M hF;gi_wp2;try rw [AY]
    go_end0
    exact⟨⟨_,rfl⟩,.inr ⟨PD s,List.prefix_refl _,G.out⟩⟩
   | true=>
    have E:=lH (M.out rfl);clear M hF;gi_wp2;try rw [AY]
    go_end0
    exact⟨⟨_,rfl⟩,.inl E.o⟩
theorem VH(n pb:Nat)(s:ByteArray)(hs:s.size<=1000000):
  QL Bx n prog 112 #[pG (some (A_ pb 0))] RT (PD s) (fun A=>A.cell? (A_ pb 0)=some (Dz s)):=fun l J Jx W _ _ hV hY h0=>
 VF n l pb s hs J Jx W hV hY h0
end
section
open Go.RowKit
theorem Blk.row{w:World}{g:Nat}{t:TypeId}{old:Array Value}(h:Blk w g t old)(cs:Array Value):Blk (w.setRow g cs) g t cs:=setRow_heap w g old cs t (0,0) h
theorem Br(w:World)(g:Nat)(cs:Array Value):Aa [g] w (w.setRow g cs):=
 ⟨rfl,rfl,rfl,by simp,fun i _ hn=>setRow_other w g i cs (fun e=>hn (by simp [e]))⟩
variable {P:Program}
theorem Ay{ops:Array Oper}{rest:List Oper}{op:Oper}{a:Act}{w:World}{Q:Exit->Act->World->Prop}(hgd:op.guard=none)(ty:TypeId)(x:Operand)(ho:op.op = .load ty x)
 (b o:Nat)(hx:a.eval x = p_ b o)(cs:Array Value)(d:TypeDesc)(hc:w.rangeAt b o cs.toList)
 (hu:P.underlying ty=some d)(hd:d.isRow=true)(hi:(P.info? ty).map (·.size)=some cs.toList.length)
 (h:wpList P ops Q rest (a.put op.dst (.agg cs)) w):wpList P ops Q (op::rest) a w:=
 wpList_load_mid hgd ty x ho b o hx cs.toList d hc hu hd hi (by rw [Array.toArray_toList];exact h)
theorem Blk.rng{w:World}{g:Nat}{t:TypeId}{cs:Array Value}(h:Blk w g t cs)(o:Nat)(ds:Array Value)(hd:∀j v,ds.toList[j]? = some v->cs[o+j]? = some v):w.rangeAt g o ds.toList:=fun j v hv=>by
 rw [h.cell];exact hd j v hv
theorem AS{fn:Func}{p u:Tmp}{ty:TypeId}(h:fn.results=#[.cell p ty,.tmp u])(tmps:Array Value)(w:World)(g:Nat)(t:TypeId)(cs:Array Value)(d:TypeDesc)(y:Value)
 (hp:tmps.getD p UD = p_ g 0)(hy:tmps.getD u UD=y)(hb:Blk w g t cs)(hu:P.underlying ty=some d)(B:(match d with | .struct _ | .array _ _=>true | _=>false)=true)(hi:(P.info? ty).map (·.size)=some cs.size):
  (results fn tmps).run P w = .ok (.tuple #[.agg cs,y]) w:=by
 rw [results_cell_tmp h,hp,hy];simp [asAddr,run_loadVar_row w g t ty cs (0,0) d hb hu B hi,Bg]
theorem Fy{F:Fence}{D:Nat}{ops:Array Oper}{rest:List Oper}{B:Oper}{a:Act}{w:World}{Q:Exit->Act->World->Prop}(hgd:B.guard=none)(ty:TypeId)(x:Operand)(ho:B.op = .load ty x)
 (b o:Nat)(hx:a.eval x = p_ b o)(cs:Array Value)(d:TypeDesc)(E:w.rangeAt b o cs.toList)
 (hu:P.underlying ty=some d)(G:d.isRow=true)(hi:(P.info? ty).map (·.size)=some cs.toList.length)
 (h:wpListIn F D P ops Q rest (a.put B.dst (.agg cs)) w):wpListIn F D P ops Q (B::rest) a w:=by
 refine wpListIn_plain hgd fun K hK=>?_;unfold Oper.wpIn;refine⟨by simp [Oper.about,ho],?_⟩;rw [Oper.semAt_plain F _ _ lN];have hr:=run_loadAt_mid (P:=P) w b o ty cs.toList d E hu G hi;rw [Array.toArray_toList] at hr;simp [execOp,ho,hx,hr,Bg];exact hK _ _ h
theorem Fi{F:Fence}{E:Nat}{ops:Array Oper}{rest:List Oper}{o:Oper}{a:Act}{w:World}{Q:Exit->Act->World->Prop}(hgd:o.guard=none)(ty:TypeId)(x y:Operand)(ho:o.op = .store ty x y)
 (g:Nat)(cells:Array Value)(hx:a.eval x = p_ g 0)(hy:a.eval y = .agg cells)
 (t:TypeId)(B:Array Value)(hg:w.heap[g]? = some (.cells B t (0,0)))(hi:(P.info? ty).map (·.size)=some cells.size)
 (D:B.size=cells.size)(h1:cells.all (·.oneCell')=true)
 (h:wpListIn F E P ops Q rest (a.put o.dst UD) (w.setRow g cells)):wpListIn F E P ops Q (o::rest) a w:=by
 refine wpListIn_plain hgd fun K hK=>?_;unfold Oper.wpIn;refine⟨by simp [Oper.about,ho],?_⟩;rw [Oper.semAt_plain F _ _ lN];have hr:=run_storeVar_row (P:=P) w g t ty B cells hg hi D h1;simp [execOp,ho,hx,hy,Instr.storeAt,Instr.sureAddr,hr,Bg];exact hK _ _ h
end
section
open Go
theorem Uv{l n:Nat}{P:Program}{o:Oper}{a:Act}{next B:Act->World->Prop}{Q:Exit->Act->World->Prop}(hn:∀a w,next a w->B a w):
  ∀(r:Result Next),o.upon P a next Q r->o.uponIn (Fence.wide.inRound l) n P a B Q r:=by
 intro r h;cases r with
 | ok v w=>
  cases v with
  | value v=>exact hn _ _ h
  | skip=>exact hn _ _ h
  | defer d=>exact hn _ _ h
  | enter f args=>
   refine⟨(fun e=>by cases e),CallsIn.inRound l (callsIn_wide.2 (Calls.mono h ?_))⟩;intro e w' he;cases e with
   | returned v=>exact hn _ _ he
   | panicked ch=>exact he
   | outgrown=>exact he
  | row row args=>
   refine⟨(fun e=>by cases e),fun c cs _=>?_⟩;obtain⟨v,w',hr,hs⟩:=h c cs;exact⟨v,w',hn _ _ hr,stepsIn_wide.2 hs⟩
  | _=>exact h.elim
 | halt x w=>
  cases x<;>first | exact h | exact h.elim
theorem GW{l n:Nat}{P:Program}{ops:Array Oper}{Q:Exit->Act->World->Prop}(hd:∀(i:Nat) (o:Oper),ops[i]? = some o->∀c,o.op≠Op.defer c)(hQ:∀a w,¬Q .outgrown a w):
  ∀(is:List Nat) (a:Act) (w:World),wpOps P ops Q is a w->wpOpsIn (Fence.wide.inRound l) n P ops Q is a w
 | [],_,_,h=>h
 | i::is,a,w,h=>by
  unfold wpOps at h;unfold wpOpsIn;split at h
  ·rename_i h0
   simp only [h0];exact GW hd hQ is a w h
  ·rename_i o h0
   simp only [h0];split at h
   ·rename_i hw
    rw [if_pos hw];rcases h with h | ⟨_,a',w',h⟩
    ·refine⟨fun _ _=>trivial,?_⟩
     show o.uponIn _ n P a _ Q ((o.semAt (some l) a.eval).run P w);rw [pN l _ _ (hd i o h0)];exact Uv (fun a w=>GW hd hQ is a w) _ h
    ·exact absurd h (hQ a' w')
   ·rename_i hw
    rw [if_neg hw];exact⟨fun _ _=>trivial,GW hd hQ is _ w h⟩
def Q0(ops:Array Oper):Bool:=ops.toList.all fun(o:Oper)=>match o.op with | Op.defer _=>false | _=>true
theorem KS{ops:Array Oper}(h:Q0 ops=true):∀(i:Nat) (o:Oper),ops[i]? = some o->∀c,o.op≠Op.defer c:=fun i o ho c hc=>by
 have h1:=Bm.1 h o (by
  rw [<- Array.getElem?_toList] at ho;exact CD ho)
 rw [hc] at h1;cases h1
theorem BA{l n:Nat}{P:Program}{ops:Array Oper}{Q:Exit->Act->World->Prop}{S:World->Prop}{id:Nat}{a:Act}{w:World}(hm:P.follows .mixedOrders=true)(hd:Q0 ops=true)(hQ:∀a w,¬Q .outgrown a w)(hS:S w.drew)
 (h:S w.drew->wpAnyH P .any ops Q S ops.size (Array.replicate ops.size false) a w.drew):(Code.region id ops true).wpIn (Fence.wide.inRound l) n P Q a w:=
 wpIn_region_draw fun t=>by
  simp only [Region.schedule,hm,Bool.true_or,if_true];exact GW (KS hd) hQ _ _ _ (wpAny_sound ops.size t _ a _ (wpAny_of_held _ _ _ _ (h hS)))
theorem Xl{n:Nat}{P:Program}{o:Oper}{a:Act}{next B:Act->World->Prop}{Q:Exit->Act->World->Prop}(hn:∀a w,next a w->B a w):
  ∀(r:Result Next),o.upon P a next Q r->o.uponIn Bx n P a B Q r:=by
 intro r h;cases r with
 | ok v w=>
  cases v with
  | value v=>exact hn _ _ h
  | skip=>exact hn _ _ h
  | defer d=>exact hn _ _ h
  | enter f args=>
   refine⟨(fun e=>by cases e),callsIn_wide.2 (Calls.mono h ?_)⟩;intro e w' he;cases e with
   | returned v=>exact hn _ _ he
   | panicked ch=>exact he
   | outgrown=>exact he
  | row row args=>
   refine⟨(fun e=>by cases e),fun c cs _=>?_⟩;obtain⟨v,w',hr,hs⟩:=h c cs;exact⟨v,w',hn _ _ hr,stepsIn_wide.2 hs⟩
  | _=>exact h.elim
 | halt x w=>
  cases x<;>first | exact h | exact h.elim
theorem I8{n:Nat}{P:Program}{ops:Array Oper}{Q:Exit->Act->World->Prop}(hd:∀(i:Nat) (o:Oper),ops[i]? = some o->∀c,o.op≠Op.defer c)(hQ:∀a w,¬Q .outgrown a w):
  ∀(is:List Nat) (a:Act) (w:World),wpOps P ops Q is a w->wpOpsIn Bx n P ops Q is a w
 | [],_,_,h=>h
 | i::is,a,w,h=>by
  unfold wpOps at h;unfold wpOpsIn;split at h
  ·rename_i h0
   simp only [h0];exact I8 hd hQ is a w h
  ·rename_i o h0
   simp only [h0];split at h
   ·rename_i hw
    rw [if_pos hw];rcases h with h | ⟨_,a',w',h⟩
    ·refine⟨fun _ _=>trivial,?_⟩
     show o.uponIn _ n P a _ Q ((o.semAt Fence.wide.round a.eval).run P w);rw [Oper.semAt_plain Bx _ _ (hd i o h0)];exact Xl (fun a w=>I8 hd hQ is a w) _ h
    ·exact absurd h (hQ a' w')
   ·rename_i hw
    rw [if_neg hw];exact⟨fun _ _=>trivial,I8 hd hQ is _ w h⟩
def YX(Q:Exit->Act->World->Prop):Exit->Act->World->Prop
 | .normal,a,w=>Q .normal a w
 | _,_,_=>False
theorem I6{n:Nat}{P:Program}{ops:Array Oper}{Q:Exit->Act->World->Prop}{S:World->Prop}{id:Nat}{a:Act}{w:World}(hm:P.follows .mixedOrders=true)(hd:Q0 ops=true)(hS:S w.drew)
 (h:S w.drew->wpAnyH P .any ops (YX Q) S ops.size (Array.replicate ops.size false) a w.drew):(Code.region id ops true).wpIn Bx n P Q a w:=
 wpIn_mono (Q:=YX Q) (wpIn_region_draw fun t=>by
  simp only [Region.schedule,hm,Bool.true_or,if_true];exact I8 (KS hd) (fun _ _ h=>h) _ _ _ (wpAny_sound ops.size t _ a _ (wpAny_of_held _ _ _ _ (h hS)))) (fun e a w h=>by
  cases e<;>first | exact h | exact h.elim)
end
end Go.Proofs.YtncebikgoleolaaGreatDoor
