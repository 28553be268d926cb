/- Steps of the proof: Iter, SetK, IterB, IterC, SnapA, SnapB, SnapC, IterG, WordA. -/
import Derived.Test.YtcjdkbgdahgjbaaGreatDoorK0
import Derived.Test.YtcjdkbgdahgjbaaGreatDoorKak
import Derived.Test.YtcjdkbgdahgjbaaGreatDoorKbb
import Derived.RangeFuncBox
import Derived.RangeFuncLeaves
import Derived.RangeFuncNested
import Derived.RangeFuncBound
import Derived.RangeFuncCalls
import Derived.Shelf.Abstract
import Derived.Shelf.RegionOpen
import Derived.OwnWalkIn
import Derived.TacticsInMore
import Derived.LoopNIn
import Derived.LoopIn
import Derived.Maps.AppendAt
import Derived.Laws.EntriesVeiled
import Derived.Sort.QuietIn
import Derived.WalkMore
import Derived.Deep.RegionHeld3
import Derived.Deep.DrawnRows
import Derived.Laws.RangeAny
import Derived.Sort.LoopGhostIn
import Derived.Deep.Slices
import Derived.Deep.AppendLies
import Derived.Deep.Fields
set_option maxRecDepth 100000
set_option maxHeartbeats 8000000
set_option linter.all false
namespace Go.Proofs.YtcjdkbgdahgjbaaGreatDoor
open _root_.Array renaming getElem?_eq_some_iff→Aj,replicate_succ→Bc,replicate_zero→Bd
open _root_.Bool renaming false_and→D4,true_and→De
open Builtin renaming append_→Bo
open Ending renaming returned→dM
open Exit renaming noGoto_normal→AH
open Fence renaming wide→Ba
open Instr renaming findNow→AV,lookup→Dx
open IntKind renaming i64→dN
open _root_.List renaming all_eq_true→BB,append_assoc→CO,append_toArray→B0,cons_append→A6,eq_nil_of_length_eq_zero→Er,getElem?_eq_getElem→Au,getElem?_eq_some_iff→Ad,length_append→Ag,length_cons→Ao,length_nil→Eh,map_cons→Cn,mem_append→AF,mem_cons_of_mem→Ci,mem_singleton→Am,nil_append→AX,push_toArray→By,size_toArray→Cx,take_append_drop→Bj,take_of_length_le→Ax,take_succ_eq_append_getElem→AR
open _root_.Nat renaming add_zero→CG,le_refl→Ap,le_trans→As,lt_of_lt_of_le→AT,zero_le→Cy
open Result renaming andThen→AI
open Value renaming agg→dK,bool→dL,int→dH,pointer→dJ,slice→dI,string→CZ
open World renaming alloc_heap_new→Ej,block_lt_of_cell?→A4,cell?_of_block→Cq,putObj_heap_other→A3,putObj_heap_same→D6
section
open Go.RowKit Go.Shelf
theorem Br{n:Nat}{P:Program}{Q:Exit→Act→World→Prop}{a:Act}{w:World}{c:Code}(h:c.wpIn Ba n P (Exit.noGoto Q) a w):(Code.scope c).wpIn Ba n P Q a w:=
 wpIn_wide.2 (wp_scope_straight (wpIn_wide.1 h))
theorem Cv{P:Program}{F:Fence}{n l:Nat}{args:Array Value}{W:World}{G H:World→Prop}(h:YieldAt F n P l args W fun e W'=>(e = dM (dL true)∧G W')∨(e = dM (dL false)∧H W')):
  YieldAt F n P l args W fun e W'=>∃g:Bool,e = dM (dL g)∧Hid (g=true→G W')∧Hid (g=false→H W'):=by
 obtain⟨fn,tmps,assign,body,hy,hR⟩:=h;refine⟨fn,tmps,assign,body,hy,hR.mono ?_⟩;rintro e W' (⟨rfl,h⟩ | ⟨rfl,h⟩)
 ·exact⟨true,rfl,(fun _=>h:true=true→G W'),(fun h=>(by cases h):true=false→H W')⟩
 ·exact⟨false,rfl,(fun h=>(by cases h):false=true→G W'),(fun _=>h:false=false→H W')⟩
end
section
open Go.RowKit Go.MapKept
def Do{α:Type}(kv:α→Value)(A:World)(b:Nat)(met:List α):Prop:=∃es c,A.heap[b]? = some (.map es c)∧es.toList.map (fun e=>(e.key,e.val))=met.map fun m=>(kv m,dL true)
structure T7{α:Type}[DecidableEq α](kv:α→Value)(d:TypeDesc):Prop where
 same:∀k m,Instr.sameNow d (kv k) (kv m)=some (decide (k=m))
 key:∀k,IsKey d (kv k)
theorem IZ:T7 (dH .i64) (.int .i64):=⟨fun k m=>by simp [Instr.sameNow,BEq.beq],fun _=>rfl⟩
theorem OJ:T7 CZ .string:=⟨fun k m=>by
 obtain⟨r,h1,h2⟩:=sameNow_of_keys (d:=.string) (a:=CZ k) (b:=CZ m) trivial trivial;rw [h1]
 congr 1
 rw [Bool.eq_iff_iff,h2,decide_eq_true_eq];constructor
 ·intro h;injection h
 ·rintro rfl;rfl,fun _=>trivial⟩
section
variable {α:Type} [DecidableEq α] {kv:α→Value} {d:TypeDesc} {P:Program} {t kt et:TypeId} {A A':World} {b:Nat} {met:List α}
theorem JG(hk:T7 kv d)(k:α):∀(es:List MapEntry) (met:List α) (i:Nat),es.map (fun e=>(e.key,e.val))=met.map (fun m=>(kv m,dL true))→
  (k∈met∧∃j,AV d (kv k) es i=some (some (j,dL true)))∨(k∉met∧AV d (kv k) es i=some none)
 | [],[],_,_=>.inr ⟨by simp,rfl⟩
 | e::es,m::met,i,h=>by
  rw [Cn,Cn] at h;injection h with h1 h2
  injection h1 with hkey hv
  have hs:=hk.same k m;by_cases hkm:k=m
  ·subst hkm
   exact .inl ⟨by simp,i,by simp [AV,hkey,hv,hs]⟩
  ·rcases JG hk k es met (i+1) h2 with⟨h3,j,h4⟩ | ⟨h3,h4⟩
   ·exact .inl ⟨Ci _ h3,j,by simp [AV,hkey,hs,hkm,h4]⟩
   ·exact .inr ⟨by simp [h3,hkm],by simp [AV,hkey,hs,hkm,h4]⟩
 | [],_::_,_,h=>by cases h
 | _::_,[],_,h=>by cases h
theorem Do.look(h:Do kv A b met)(hk:T7 kv d)(hm:P.underlying t=some (.map kt et))(hd:P.underlying kt=some d)(hz:(zeroValue et).run P A = .ok (dL false) A)(k:α):
  (Dx t (.map (some b)) (kv k) false).run P A = .ok (dL (decide (k∈met))) A:=by
 obtain⟨es,c,hb,he⟩:=h;rcases JG hk k es.toList met 0 he with⟨h1,j,h2⟩ | ⟨h1,h2⟩
 ·rw [(CY hm hd hb (hk.key k) h2).2,decide_eq_true h1]
 ·rw [(Eg hm hd hb (hk.key k) h2 hz).2,decide_eq_false h1]
theorem Do.update(h:Do kv A b met)(hk:T7 kv d)(hm:P.underlying t=some (.map kt et))(hd:P.underlying kt=some d)(k:α)(hn:k∉met):
  ∃o,(Instr.mapUpdate t (.map (some b)) (kv k) (dL true)).run P A = .ok () (A.putObj b o)∧Do kv (A.putObj b o) b (met++[k]):=by
 obtain⟨es,c,hb,he⟩:=h;rcases JG hk k es.toList met 0 he with⟨h1,_⟩ | ⟨_,h2⟩
 ·exact absurd h1 hn
 ·refine⟨_,CR hm hd hb (hk.key k) h2,_,_,D6 (Aj.1 hb).1,?_⟩
  simp [he]
end
section
variable {α:Type} {kv:α→Value} {A A':World} {b:Nat} {met:List α}
theorem Do.new(A:World):Do kv (A.alloc (.map #[] 0)) A.heap.size []:=⟨#[],0,heap_alloc_new A _,rfl⟩
theorem Do.lt(h:Do kv A b met):b<A.heap.size:=by obtain⟨es,c,h1,_⟩:=h;exact(Aj.1 h1).1
theorem Do.keeps{S:List Nat}(h:Do kv A b met)(hk:Aa S A A')(hn:b∉S):Do kv A' b met:=by
 obtain⟨es,c,h1,h2⟩:=h;exact⟨es,c,(hk.block _ (Aj.1 h1).1 hn).trans h1,h2⟩
theorem Dw(A:World)(b:Nat)(o:Obj):Aa [b] A (A.putObj b o):=
 ⟨rfl,rfl,rfl,by simp,fun k _ hn=>A3 (fun e=>hn (by simp [e]))⟩
end
end
section
open Go.RowKit Go.Shelf
def BZ(B:Nat)(W W':World):Prop:=W.heap.size≤W'.heap.size∧∀k,B≤k→k<W.heap.size→W'.heap[k]? = W.heap[k]?
theorem BZ.refl(B:Nat)(W:World):BZ B W W:=⟨Ap _,fun _ _ _=>rfl⟩
theorem BZ.trans{B:Nat}{X Y Z:World}(h:BZ B X Y)(k:BZ B Y Z):BZ B X Z:=
 ⟨As h.1 k.1,fun i hi hl=>(k.2 i hi (AT hl h.1)).trans (h.2 i hi hl)⟩
theorem BZ.mono{B C:Nat}{X Y:World}(h:BZ B X Y)(hc:B≤C):BZ C X Y:=⟨h.1,fun i hi hl=>h.2 i (As hc hi) hl⟩
theorem BZ.putObj{B l:Nat}(hl:l<B)(W:World)(o:Obj):BZ B W (W.putObj l o):=⟨by simp,fun k hk _=>A3 bB⟩
theorem BZ.setCell{B:Nat}{p:Addr}(hp:p.block<B)(W:World)(v:Value):BZ B W (W.setCell p v):=⟨by simp [World.setCell],fun k hk _=>Below.heap_setCell W p v k bB⟩
def Xa{β:Type}(B:Nat)(J:β→World→Prop):Prop:=∀s A A',J s A→Below B A A'→J s A'
theorem Xa.put{β:Type}{B:Nat}{J:β→World→Prop}(h:Xa B J){s:β}{W:World}{l:Nat}(o':Obj)(hs:J s W)(hB:B≤l)(hl:l<W.heap.size):J s (W.putObj l o'):=
 h s W _ hs ((Below.refl B W).grown (grownBy_putObj' W l o') bB (fun k e=>by cases e;omega))
def Vs{α:Type}(B:Nat)(I Ix:List α→World→Prop)(xs:List α)(W:World):Exit→Act→World→Prop
 | .normal,_,W'=>BZ B W W'∧I xs W'
 | .ret,_,W'=>BZ B W W'∧Ix xs W'
 | _,_,_=>False
variable {F:Fence} {n:Nat} {P:Program}
theorem DV{F:Fence}{nF:Nat}{P:Program}(w:World){ops:Array Oper}{rest:List Oper}{o:Oper}{a:Act}{Q:Exit→Act→World→Prop}(hgd:o.guard=none)(s x:Operand)(t:TypeId)
 (ho:o.op = .call { callee:=.builtin .append,args:=#[s,x],argTypes:=#[t,t] }){v u v':Value}{w':World}(hs:a.eval s=v)(hx:a.eval x=u)
 (hr:(Bo #[t,t] o.type #[v,u]).run P w = .ok v' w')(h:wpListIn F nF P ops Q rest (a.put o.dst v') w'):wpListIn F nF P ops Q (o::rest) a w:=by
 refine wpListIn_plain hgd fun K hK=>?_;unfold Oper.wpIn;refine⟨by simp [Oper.about,ho,resolve,Target.leads,Sem.run_pure],?_⟩;rw [Oper.semAt_plain F _ _ Zw];simp [execOp,ho,resolve,invoke,builtin,hs,hx,hr,AI];exact hK _ _ h
theorem BZ.alloc{B:Nat}{X Y:World}(h:BZ B X Y)(o:Obj):BZ B X (Y.alloc o):=
 ⟨As h.1 bA,fun k hk hl=>(Below.heap_alloc Y o k (AT hl h.1)).trans (h.2 k hk hl)⟩
theorem BZ.of_keeps{S:List Nat}{B:Nat}{X Y:World}(h:Aa S X Y)(hS:∀k∈S,k<B):BZ B X Y:=
 ⟨h.size,fun k hk hl=>h.block k hl (fun hm=>by have:=hS k hm;omega)⟩
def Xp{α:Type}(F:Fence)(n:Nat)(P:Program)(g:Nat)(lb:Array Value)(encs:α→Array Value)(ys:List α)(V:World→Prop)(w0:World):Prop:=
 ∀(l:Nat) (J Jx:List α→World→Prop) (W:World),Below w0.heap.size w0 W→Xa W.heap.size J→Xa W.heap.size Jx→(∀s A,J s A→V A)→
  (∀pre x W1,J pre W1→pre++[x] <+: ys→YieldAt F (n - 1) P l (encs x) W1 fun e W'=>
   (e = dM (dL true)∧J (pre++[x]) W'∧BZ W.heap.size W1 W')∨(e = dM (dL false)∧Jx (pre++[x]) W'))→
  J [] W→
  CallsIn F n P g (#[.func (.yield l) #[] #[]]++lb) W fun e W'=>(∃v,e = dM v)∧(J ys W'∨(∃pre,pre <+: ys∧Jx pre W'))
variable {F:Fence} {n:Nat} {P:Program}
theorem Ew{α:Type}{g:Operand}{ps:Array Tmp}{assign body:Code}{Q:Exit→Act→World→Prop}{a:Act}{w:World}
 (hro:F.round=none)(h1:1≤n){gf:Nat}{lb:Array Value}(hg:a.eval g = .func (.func gf) #[] lb)(hFg:F.fn gf)(eg:∀args w,(callFunc gf args).run P w = .ok (.enter gf args) w)
 {encs:α→Array Value}{ys:List α}{V:World→Prop}{w0:World}(hseq:Xp F (n - 1) P gf lb encs ys V w0)(hb0:Below w0.heap.size w0 w)(hps:∀x,(encs x).size=ps.size)
 (I Ix:List α→World→Prop)(hI:Xa w.heap.size I)(hIx:Xa w.heap.size Ix)(hIV:∀s A,I s A→V A)(h0:I [] w)(a₁:α→Nat→Act)(o₁:α→Obj)
 (hassign:∀(l:Nat) (x:α) (W:World) (K:Act→World→Prop),K (a₁ x W.heap.size) (W.alloc (o₁ x))→
   assign.wpIn (F.inRound l) (n - 1 - 1) P (Exit.then K (fun _ _ _=>False)) { tmps:=(ps.zip (encs x)).foldl (fun t (p,v)=>t.setIfInBounds p v) a.tmps,defers:=[] } W)
 (hbody:∀(l:Nat) (pre:List α) (x:α) (b:Nat) (W:World),I pre W→pre++[x] <+: ys→w.heap.size≤b→W.heap[b]? = some (o₁ x)→body.wpIn (F.inRound l) (n - 1 - 1) P (Vs w.heap.size I Ix (pre++[x]) W) (a₁ x b) W)
 (hdone:∀(D:Nat) (W:World),w.heap.size≤D→I ys W→W.heap[D]? = some (.deferred (some []))→Q .normal { a with defers:={ target:=.collected D,args:=#[] } :: a.defers } W)
 (hstop:∀(D:Nat) (pre:List α) (W:World),w.heap.size≤D→pre <+: ys→Ix pre W→W.heap[D]? = some (.deferred (some []))→Code.ret.wpIn F n P Q { a with defers:={ target:=.collected D,args:=#[] } :: a.defers } W):
  (Code.rangeFunc g ps assign body).wpIn F n P Q a w:=by
 refine wpIn_rangeFunc fun fn hfn=>?_;rw [hro]
 let D:=w.heap.size
 let l:=w.heap.size+1
 let rec_:LoopState→Option Code→Loop:=fun st pe=>{ state:=st,pending:=pe,fn,tmps:=a.tmps,params:=ps,assign,body,defers:=D }
 let W1:=(w.alloc (.deferred (some []))).alloc (.loop (rec_ .ready none))
 have hs1:W1.heap.size=w.heap.size+2:=by simp [W1]
 have hL:W1.heap[l]? = some (.loop (rec_ .ready none)):=by
  have:=Ej (w.alloc (.deferred (some []))) (.loop (rec_ .ready none))
  rwa [World.size_alloc] at this
 have hD:W1.heap[D]? = some (.deferred (some [])):=(Below.heap_alloc _ _ _ (by simp [D])).trans (Ej w _);have hb1:Below w.heap.size w W1:=((Below.refl _ w).alloc (Ap _) _).alloc bA _;refine⟨l,[{ target:=.collected D,args:=#[] }],W1,{ target:=.fn (.func gf) lb,args:=#[.func (.yield l) #[] #[]] },W1,gf,#[.func (.yield l) #[] #[]]++lb,W1,run_enterLoop_outer _ _ _ _ _,?_,?_,?_,fun _=>h1,?_⟩
 ·simp only [resolve,hg];simp [go_sem]
 ·intro f' hf';simp [Target.leads] at hf';subst hf';exact hFg
 ·simp [invoke,go_sem,eg]
 have hle:w.heap.size≤W1.heap.size:=by omega
 refine(hseq l
  (fun pre W=>I pre W∧W1.heap.size≤W.heap.size∧W.heap[l]? = some (.loop (rec_ .ready none))∧W.heap[D]? = some (.deferred (some [])))
  (fun pre W=>Ix pre W∧W1.heap.size≤W.heap.size∧W.heap[l]? = some (.loop (rec_ .done (some .ret)))∧W.heap[D]? = some (.deferred (some [])))
  W1 (hb0.trans (hb1.mono hb0.size))
  (fun s A A' hs hB=>⟨hI s A A' hs.1 (hB.mono hle),As hs.2.1 hB.size,(hB.block l bB).trans hs.2.2.1,(hB.block D bB).trans hs.2.2.2⟩)
  (fun s A A' hs hB=>⟨hIx s A A' hs.1 (hB.mono hle),As hs.2.1 hB.size,(hB.block l bB).trans hs.2.2.1,(hB.block D bB).trans hs.2.2.2⟩)
  (fun s A hs=>hIV s A hs.1)
  ?_ ⟨hI _ _ _ h0 hb1,Ap _,hL,hD⟩).mono ?_
 ·rintro pre x W ⟨hi,hsz,hl,hd⟩ hlen
  have hlt:l<W.heap.size:=by omega
  have hla:(W.alloc (o₁ x)).heap[l]? = some (.loop (rec_ .ready none)):=(Below.heap_alloc _ _ _ hlt).trans hl;have hda:(W.alloc (o₁ x)).heap[D]? = some (.deferred (some [])):=(Below.heap_alloc _ _ _ bB).trans hd;have hlta:l<(W.alloc (o₁ x)).heap.size:=(Aj.1 hla).1;refine⟨fn,_,assign,body,run_yield (P:=P) (args:=encs x) hl (hps x),roundIn_of_wpIn hfn (hassign _ x W _ ⟨_,run_beginRound hla rfl,?_⟩)⟩;have hl2:((W.alloc (o₁ x)).putObj l (.loop { rec_ .ready none with state:=.busy })).heap[l]? = some (.loop { rec_ .ready none with state:=.busy }):=D6 hlta;have hd2:((W.alloc (o₁ x)).putObj l (.loop { rec_ .ready none with state:=.busy })).heap[D]? = some (.deferred (some [])):=(A3 bB).trans hda;have hb2:((W.alloc (o₁ x)).putObj l (.loop { rec_ .ready none with state:=.busy })).heap[W.heap.size]? = some (o₁ x):=(A3 bB).trans (Ej W (o₁ x));have hf2:BZ W1.heap.size W ((W.alloc (o₁ x)).putObj l (.loop { rec_ .ready none with state:=.busy })):=((BZ.refl _ W).alloc _).trans (BZ.putObj bB _ _);have hia:I pre (W.alloc (o₁ x)):=hI _ _ _ hi ((Below.refl _ W).alloc bB _);have hsa:(W.alloc (o₁ x)).heap.size=W.heap.size+1:=by simp
  refine wpIn_mono (hbody _ pre x _ _ (hI.put _ hia bB hlta) hlen bB hb2) ?_;rintro e a3 W3 hp;have go_on:∀(jump:Option Code),BZ w.heap.size ((W.alloc (o₁ x)).putObj l (.loop { rec_ .ready none with state:=.busy })) W3→
    (Instr.endRound l jump).run P W3 = .ok (dL jump.isNone) (W3.putObj l (.loop (rec_ (if jump.isNone then .ready else .done) jump)))∧l<W3.heap.size∧W1.heap.size≤W3.heap.size∧
    (W3.putObj l (.loop (rec_ (if jump.isNone then .ready else .done) jump))).heap[l]? = some (.loop (rec_ (if jump.isNone then .ready else .done) jump))∧
    (W3.putObj l (.loop (rec_ (if jump.isNone then .ready else .done) jump))).heap[D]? = some (.deferred (some []))∧
    BZ W1.heap.size W (W3.putObj l (.loop (rec_ (if jump.isNone then .ready else .done) jump))):=fun jump hk=>by
   have hk1:=hk.1;rw [World.putObj_size,hsa] at hk1;have hl3:W3.heap[l]? = some (.loop { rec_ .ready none with state:=.busy }):=(hk.2 l bB (by rw [World.putObj_size];omega)).trans hl2;have hd3:W3.heap[D]? = some (.deferred (some [])):=(hk.2 D bB (by rw [World.putObj_size];omega)).trans hd2;exact⟨run_endRound (P:=P) jump hl3,by omega,by omega,D6 bB,(A3 bB).trans hd3,(hf2.trans (hk.mono hle)).trans (BZ.putObj bB _ _)⟩
  cases e with
  | normal=>
   obtain⟨hr,hlt3,hs3,hl4,hd4,hf4⟩:=go_on none hp.1;exact⟨_,_,hr,.inl ⟨rfl,⟨hI.put _ hp.2 bB hlt3,by simp;omega,hl4,hd4⟩,hf4⟩⟩
  | ret=>
   obtain⟨hr,hlt3,hs3,hl4,hd4,hf4⟩:=go_on (some .ret) hp.1;exact⟨_,_,hr,.inr ⟨rfl,hIx.put _ hp.2 bB hlt3,by simp;omega,hl4,hd4⟩⟩
  | exit id=>exact hp.elim
  | goto t=>exact hp.elim
  | panic ch=>exact hp.elim
  | outgrown=>exact hp.elim
 ·rintro e W2 ⟨⟨v,rfl⟩,(⟨hi,hsz,hl,hd⟩ | ⟨pre,hSp,hi,hsz,hl,hd⟩)⟩
  ·exact⟨none,_,run_endLoop (P:=P) hl (by simp [rec_]),hdone D _ (Ap _) (hI.put _ hi bB bB) ((A3 bB).trans hd)⟩
  ·exact⟨some .ret,_,run_endLoop (P:=P) hl (by simp [rec_]),hstop D pre _ (Ap _) hSp (hIx.put _ hi bB bB) ((A3 bB).trans hd)⟩
end
section
open Go.RowKit Go.Shelf
attribute [local go_sem ↓] Go.wp_at_zero Go.wp_at_succ
theorem PR(b:UInt8)(h:128≤b.toNat):FH b=false:=by
 unfold FH;simp;omega
theorem QG(s:ByteArray)(k:Nat)(h:k<s.size):(s.data.toList.take (k+1)).all FH=((s.data.toList.take k).all FH&&FH (s[k]'h)):=by
 rw [AR bK,List.all_append];simp;rfl
theorem ML(s:ByteArray)(k:Nat)(h:k<s.size)(hb:FH (s[k]'h)=false):FQ s=false:=by
 unfold FQ;apply Bool.eq_false_iff.2;intro ha;rw [BB] at ha;have:=ha (s[k]'h) (by
  have:s.data.toList[k]' bK∈s.data.toList:=List.getElem_mem _;exact this)
 rw [hb] at this;cases this
theorem El(w:World)(s:ByteArray)(k:Nat):Aa [] w (w.iter s k):=(Aa.refl [] w).alloc _
theorem Hb(s:ByteArray)(b:Bool)(hb:FQ s=b)(w:World):Calls Tryz.prog 104 #[CZ s] w fun r w'=>r = dM (dL b)∧Aa [] w w':=by
 have HB:=lH hb;clear hb;go_enter Tryz.func104,Tryz.ntmps104;go_wp2;go_loopw [4] (fun _ w'=>∃k:Nat,k≤s.size∧w'=w.iter s k∧Hid ((s.data.toList.take k).all FH=true)) (fun _ w'=>s.size - w'.iterPos w.heap.size)
 case atStart=>exact⟨0,Cy _,rfl,lH rfl⟩
 case round=>
  obtain⟨k,hk,rfl,HO⟩:=hrel;by_cases hp:k<s.size
  ·obtain⟨c,hc⟩:=eX ((s[k]'hp))
   by_cases ha:c.toNat<128
   ·have hnx:∀ty,(Instr.next (dJ (some ⟨w,0,none⟩)) true ty).run Tryz.prog (w.iter s k) = .ok (.tuple #[dL true,dH dN k,.int .i32 c.toNat]) (w.iter s (k+1)):=fun ty=>by
     have:=run_next_ascii (P:=Tryz.prog) w s k ty hp (by rw [hc];exact ha);rw [hc] at this;exact this
    have HC:=lH hc;have HP:=lH hp;have HNX:=lH (QG s k hp);clear hc;cases hcb:FH c with
    | true=>
     have h32:¬(c.toNat:Int)<32:=by unfold FH at hcb;simp at hcb;omega
     have h126:¬(126:Int)<(c.toNat:Int):=by unfold FH at hcb;simp at hcb;omega
     have HO2:Hid ((s.data.toList.take (k+1)).all FH=true):=lH (by rw [HNX.out,HO.out,HC.out,hcb];rfl);clear hcb;go_wp2;go_roundw;case rel=>exact⟨k+1,by omega,rfl,HO2⟩
     case measure=>simp;omega
    | false=>
     obtain rfl:b=false:=by rw [← HB.out];exact ML s k HP.out (by rw [HC.out];exact hcb)
     have hor:(c.toNat:Int)<32∨(¬(c.toNat:Int)<32∧(126:Int)<(c.toNat:Int)):=by unfold FH at hcb;simp at hcb;omega
     clear hcb;rcases hor with h32 | ⟨h32,h126⟩
     all_goals
      go_wp2;go_ret;exact⟨rfl,El w s _⟩
   ·obtain rfl:b=false:=by rw [← HB.out];exact ML s k hp (by rw [hc];exact PR c bB)
    have hd:=decode_high s k hp (by rw [hc];omega);obtain⟨r,hr⟩:∃r:Nat,(Utf8.decode s k).1=r:=⟨_,rfl⟩;obtain⟨q,hq⟩:=eX (k+(Utf8.decode s k).2);have hnx:∀ty,(Instr.next (dJ (some ⟨w,0,none⟩)) true ty).run Tryz.prog (w.iter s k) = .ok (.tuple #[dL true,dH dN k,.int .i32 r]) (w.iter s q):=fun ty=>by
     have:=run_next_any (P:=Tryz.prog) w s k ty hp;rw [hr,hq] at this;exact this
    have h32:¬(r:Int)<32:=by omega
    have h126:(126:Int)<(r:Int):=by omega
    clear hc hd hr hq;go_wp2;go_ret;exact⟨rfl,El w s _⟩
  ·obtain rfl:k=s.size:=by omega
   obtain rfl:b=true:=by
    rw [← HB.out];have:=HO.out
    rwa [Ax bA] at this
   have hnx:∀ty,(Instr.next (dJ (some ⟨w,0,none⟩)) true ty).run Tryz.prog (w.iter s s.size)=_:=fun ty=>run_next_end w s s.size ty hp;go_wp2;go_ret;exact⟨rfl,El w s _⟩
theorem LM(s:ByteArray)(hs:s.size≤maxLen)(b:Bool)(hb:Fk s=b)(w:World):Calls Tryz.prog 148 #[CZ s] w fun r w'=>r = dM (dL b)∧Aa [] w w':=by
 have HS:=lH hs;unfold maxLen at hs;unfold Fk at hb;by_cases h:s.size≤64
 ·rw [decide_eq_true h,De] at hb
  have HB:=lH hb;have h1:(s.size:Int)≤64:=by omega
  clear hb;go_enter Tryz.func148,Tryz.ntmps148;go_wp2_with (fail);refine(Hb s b HB.out _).mono ?_;rintro r w' ⟨rfl,hk⟩;go_wp2;go_ret;exact⟨rfl,hk⟩
 ·rw [decide_eq_false h,D4] at hb
  subst hb;have h1:¬(s.size:Int)≤64:=by omega
  go_enter Tryz.func148,Tryz.ntmps148;go_wp2_with (fail);go_ret;exact⟨rfl,Aa.refl [] w⟩
theorem JT(s:ByteArray)(hs:s.size≤maxLen)(b:Bool)(hb:Fk s=b)(w:World):Calls Tryz.prog 214 #[CZ s] w fun r w'=>r = dM (dL (!b))∧Aa [] w w':=by
 have HB:=lH hb;have HS:=lH hs;clear hb hs;go_enter Tryz.func214,Tryz.ntmps214;go_wp2_with (fail);refine(LM s HS.out b HB.out _).mono ?_;rintro r w' ⟨rfl,hk⟩;go_wp2;go_ret;exact⟨rfl,hk⟩
def Xr(w:World)(g off:Nat)(L:List ByteArray):Prop:=∀i (h:i<L.length),w.cell? ⟨g,off+i,none⟩=some (CZ L[i])
def EB(w:World)(a:Option Addr)(L:List ByteArray):Prop:=L≠[]→∃g off cs fz,a=some ⟨g,off,none⟩∧w.heap[g]? = some (.cells cs 9 fz)∧Xr w g off L
def GS(w:World)(S:List Nat):Prop:=∀k∈S,∀cs fz,w.heap[k]?≠some (.cells cs 9 fz)
theorem EB.keepsS{S:List Nat}{w w':World}{a:Option Addr}{L:List ByteArray}(h:EB w a L)(hk:Aa S w w')(hS:GS w S):EB w' a L:=fun hn=>by
 obtain⟨g,off,cs,fz,ha,hg,hat⟩:=h hn;have hl:=(Aj.1 hg).1;have hgS:g∉S:=fun hm=>hS g hm cs fz hg;exact⟨g,off,cs,fz,ha,(hk.block g hl hgS).trans hg,fun i hi=>(hk.cell (p:=⟨g,off+i,none⟩) hl hgS).trans (hat i hi)⟩
theorem GS.nil(w:World):GS w []:=fun _ h=>by cases h
theorem EB.keeps{w w':World}{a:Option Addr}{L:List ByteArray}(h:EB w a L)(hk:Aa [] w w'):EB w' a L:=h.keepsS hk (GS.nil w)
theorem KX(a:Option Addr)(c:Nat)(L:List ByteArray)(b:Bool)(hb:L.all Fk=b)(w:World)(hL:EB w a L)(hlen:L.length≤1000000)(hs:∀s∈L,s.size≤maxLen):
  Calls Tryz.prog 258 #[dI a L.length c,.func (.func 214) #[] #[]] w fun r w'=>(∃i:Int,r = dM (dH dN i)∧(decide (0≤i) = !b))∧Aa [] w w':=by
 have HB:=lH hb;have HL:=lH hL;have HS:=lH hs;obtain⟨N,hN⟩:=eX (L.length);have HN:=lH hN;have hNN:N≤1000000:=by omega
 rw [hN];clear hb hL hs hN hlen;go_enter Tryz.func258,Tryz.ntmps258;go_wp2;go_loopw [5,8] (fun _ i wr=>∃k:Nat,k≤N∧i = dH dN k∧Hid ((L.take k).all Fk=true)∧Hid (Aa [] w wr)) (fun _ i _=>N - (intOf i).toNat)
 case atStart=>exact⟨0,Cy _,rfl,lH rfl,lH (Aa.refl [] w)⟩
 case round=>
  obtain⟨k,hk,rfl,HO,HK⟩:=hrel;by_cases hlt:k<N
  ·have hk1:k<L.length:=by rw [HN.out];exact hlt
   obtain⟨g,off,cs,fz,rfl,hgb,hat⟩:=HL.out YA;have hg:=(Aj.1 hgb).1;obtain⟨x,hx⟩:=eX (L[k]);have q1:=hat k hk1;rw [hx,← HK.out.cell (by exact hg) bA] at q1;have i1:(0:Int)≤(k:Int):=by omega
   have i2:(k:Int)<(N:Int):=by omega
   have hxs:x.size≤maxLen:=HS.out x Zu;have htk:(L.take (k+1)).all Fk=((L.take k).all Fk&&Fk x):=by
    rw [AR hk1,List.all_append,hx];simp
   have hmem:x∈L:=by rw [← hx];exact List.getElem_mem _
   have HM:=lH hmem;have HT:=lH htk;have HXS:=lH hxs;clear hat hx htk hxs hmem hk1 hgb;cases hr:Fk x with
   | true=>
    have HO2:Hid ((L.take (k+1)).all Fk=true):=lH (by rw [HT.out,HO.out,hr];rfl);have HR:=lH hr;clear hr;go_wp2_with (fail);refine(JT x HXS.out true HR.out _).mono ?_;rintro r w2 ⟨rfl,hk2⟩;have HK2:=lH (HK.out.trans hk2);clear hk2;go_wp2;go_roundw;case rel=>exact⟨k+1,by omega,by go_num,HO2,HK2⟩
    case measure=>simp [intOf];omega
   | false=>
    obtain rfl:b=false:=by
     rw [← HB.out];apply Bool.eq_false_iff.2;intro ha;rw [BB] at ha;have:=ha x HM.out;rw [hr] at this;cases this
    have HR:=lH hr;clear hr;go_wp2_with (fail);refine(JT x HXS.out false HR.out _).mono ?_;rintro r w2 ⟨rfl,hk2⟩;have HK2:=lH (HK.out.trans hk2);clear hk2;go_wp2;go_ret;exact⟨⟨_,rfl,by simp⟩,HK2.out⟩
  ·obtain rfl:k=N:=by omega
   obtain rfl:b=true:=by
    rw [← HB.out];have:=HO.out
    rwa [Ax bL] at this
   go_wp2;go_ret;exact⟨⟨_,rfl,by simp⟩,HK.out⟩
theorem IS(a:Option Addr)(c:Nat)(L:List ByteArray)(b:Bool)(hb:L.all Fk=b)(w:World)(hL:EB w a L)(hlen:L.length≤1000000)(hs:∀s∈L,s.size≤maxLen):
  Calls Tryz.prog 215 #[dI a L.length c,.func (.func 214) #[] #[]] w fun r w'=>r = dM (dL (!b))∧Aa [] w w':=by
 have HB:=lH hb;have HL:=lH hL;have HS:=lH hs;have HN:=lH hlen;clear hb hL hs hlen;go_enter Tryz.func215,Tryz.ntmps215;go_wp2_with (fail);refine(KX a c L b HB.out _ HL.out HN.out HS.out).mono ?_;rintro r w' ⟨⟨i,rfl,hi⟩,hk⟩;have HK:=lH hk;clear hk;go_wp2;go_ret;exact⟨rfl,HK.out⟩
theorem Fl(a:Option Addr)(c:Nat)(L:List ByteArray)(b:Bool)(hb:Dl L=b)(w:World)(hL:EB w a L)(hlen:L.length≤1000000)(hs:∀s∈L,s.size≤maxLen):
  Calls Tryz.prog 159 #[dI a L.length c] w fun r w'=>r = dM (dL b)∧Aa [] w w':=by
 have HL:=lH hL;have HS:=lH hs;have HN:=lH hlen;unfold Dl at hb;by_cases h:L.length≤64
 ·rw [decide_eq_true h,De] at hb
  have HB:=lH hb;have h1:(L.length:Int)≤64:=by omega
  clear hb hL hs;go_enter Tryz.func159,Tryz.ntmps159;go_wp2_with (fail);refine(IS a c L b HB.out _ HL.out HN.out HS.out).mono ?_;rintro r w' ⟨rfl,hk⟩;have HK:=lH hk;clear hk;go_wp2;go_ret;exact⟨by simp,HK.out⟩
 ·rw [decide_eq_false h,D4] at hb
  subst hb;have h1:¬(L.length:Int)≤64:=by omega
  clear hL hs;go_enter Tryz.func159,Tryz.ntmps159;go_wp2_with (fail);go_ret;exact⟨rfl,Aa.refl [] w⟩
end
section
open Go.RowKit Go.Shelf
attribute [local go_sem] Oper.semAt_some
attribute [local go_sem ↓] Go.wp_at_zero Go.wp_at_succ
structure SV where
 cur:Int
 ia:Option Addr
 il:Nat
 ic:Nat
 used:Int
def SV.cells(s:SV):List Value:=[dH dN s.cur,dI s.ia s.il s.ic,dH dN s.used]
def SV.arr(s:SV):Array Value:=#[dH dN s.cur,dI s.ia s.il s.ic,dH dN s.used]
structure BR(w:World)(a:Option Addr)(c:Nat)(xs:List ByteArray):Prop where
 le:xs.length≤c
 at_:EB w a xs
 small:xs.length≤1000000
 size:∀x∈xs,x.size≤maxLen
 nil:a=none→c=0
theorem BR.keepsS{S:List Nat}{w w':World}{a:Option Addr}{c:Nat}{xs:List ByteArray}(h:BR w a c xs)(hk:Aa S w w')(hS:GS w S):BR w' a c xs:=⟨h.le,h.at_.keepsS hk hS,h.small,h.size,h.nil⟩
theorem BR.keeps{w w':World}{a:Option Addr}{c:Nat}{xs:List ByteArray}(h:BR w a c xs)(hk:Aa [] w w'):BR w' a c xs:=⟨h.le,h.at_.keeps hk,h.small,h.size,h.nil⟩
def Fd(w:World)(a:Option Addr)(V:List SV):Prop:=V≠[]→∃g off cs fz,a=some ⟨g,off,none⟩∧w.heap[g]? = some (.cells cs 43 fz)∧∀i (h:i<V.length),
 w.cell? ⟨g,off+i*3,none⟩=some (dH dN V[i].cur)∧w.cell? ⟨g,off+i*3+1,none⟩=some (.slice V[i].ia V[i].il V[i].ic)∧w.cell? ⟨g,off+i*3+2,none⟩=some (dH dN V[i].used)
theorem Fd.keepsS{S:List Nat}{w w':World}{a:Option Addr}{V:List SV}(h:Fd w a V)(hk:Aa S w w')(hS:∀k∈S,∀(cs:Array Value) (fz:Nat×Nat),w.heap[k]?≠some (Obj.cells cs 43 fz)):Fd w' a V:=fun hn=>by
 obtain⟨g,off,cs,fz,ha,hb,hat⟩:=h hn;have hg:=(Aj.1 hb).1;have hgS:g∉S:=fun hm=>hS g hm cs fz hb;exact⟨g,off,cs,fz,ha,(hk.block g hg hgS).trans hb,fun i hi=>by
  obtain⟨h0,h1,h2⟩:=hat i hi;exact⟨(hk.cell (p:=⟨g,off+i*3,none⟩) hg hgS).trans h0,(hk.cell (p:=⟨g,off+i*3+1,none⟩) hg hgS).trans h1,(hk.cell (p:=⟨g,off+i*3+2,none⟩) hg hgS).trans h2⟩⟩
theorem Fd.keeps{w w':World}{a:Option Addr}{V:List SV}(h:Fd w a V)(hk:Aa [] w w'):Fd w' a V:=h.keepsS hk (fun _ h=>by cases h)
def Nc(w:World)(v:SV)(s:Sn):Prop:=v.cur=s.cur∧v.used=s.used∧v.il=s.items.length∧BR w v.ia v.ic s.items
def Mt(w:World):List SV→List Sn→Prop
 | [],[]=>True
 | v::V,s::L=>Nc w v s∧Mt w V L
 | _,_=>False
theorem Nc.keeps{w w':World}{v:SV}{s:Sn}(h:Nc w v s)(hk:Aa [] w w'):Nc w' v s:=⟨h.1,h.2.1,h.2.2.1,h.2.2.2.keeps hk⟩
theorem Nc.keepsS{S:List Nat}{w w':World}{v:SV}{s:Sn}(h:Nc w v s)(hk:Aa S w w')(hS:GS w S):Nc w' v s:=⟨h.1,h.2.1,h.2.2.1,h.2.2.2.keepsS hk hS⟩
theorem Mt.keepsS{S:List Nat}{w w':World}(hk:Aa S w w')(hS:GS w S):∀ {V:List SV} {L:List Sn},Mt w V L→Mt w' V L
 | [],[],_=>trivial
 | _::_,_::_,h=>⟨h.1.keepsS hk hS,Mt.keepsS hk hS h.2⟩
 | [],_::_,h=>h.elim
 | _::_,[],h=>h.elim
theorem Mt.keeps{w w':World}(hk:Aa [] w w'):∀ {V:List SV} {L:List Sn},Mt w V L→Mt w' V L
 | [],[],_=>trivial
 | _::_,_::_,h=>⟨h.1.keeps hk,Mt.keeps hk h.2⟩
 | [],_::_,h=>h.elim
 | _::_,[],h=>h.elim
theorem Mt.len{w:World}: ∀ {V:List SV} {L:List Sn},Mt w V L→V.length=L.length
 | [],[],_=>rfl
 | _::_,_::_,h=>by rw [Ao,Ao,Mt.len h.2]
 | [],_::_,h=>h.elim
 | _::_,[],h=>h.elim
theorem Mt.get{w:World}: ∀ {V:List SV} {L:List Sn},Mt w V L→∀(i:Nat) (h:i<V.length) (h':i<L.length),Nc w V[i] L[i]
 | _::_,_::_,h,0,_,_=>h.1
 | _::_,_::_,h,i+1,h1,h2=>Mt.get h.2 i bR YI
theorem Mt.app{w:World}: ∀ {V V':List SV} {L L':List Sn},Mt w V L→Mt w V' L'→Mt w (V++V') (L++L')
 | [],_,[],_,_,h=>h
 | _::_,_,_::_,_,h,h'=>⟨h.1,Mt.app h.2 h'⟩
 | [],_,_::_,_,h,_=>h.elim
 | _::_,_,[],_,h,_=>h.elim
theorem Mt.drop{w:World}: ∀ {V:List SV} {L:List Sn} (k:Nat),Mt w V L→Mt w (V.drop k) (L.drop k)
 | _,_,0,h=>h
 | [],[],_+1,_=>trivial
 | _::_,_::_,k+1,h=>Mt.drop k h.2
 | [],_::_,_+1,h=>h.elim
 | _::_,[],_+1,h=>h.elim
theorem Mt.erase{w:World}: ∀ {V:List SV} {L:List Sn} (k:Nat),Mt w V L→Mt w (V.eraseIdx k) (L.eraseIdx k)
 | [],[],_,_=>trivial
 | _::_,_::_,0,h=>h.2
 | _::_,_::_,k+1,h=>⟨h.1,Mt.erase k h.2⟩
 | [],_::_,_,h=>h.elim
 | _::_,[],_,h=>h.elim
structure BF(w:World)(a:Option Addr)(c:Nat)(V:List SV)(p:Po):Prop where
 le:V.length≤c
 small:V.length≤1000000
 row:Fd w a V
 mt:Mt w V p.l
theorem BF.keeps{w w':World}{a:Option Addr}{c:Nat}{V:List SV}{p:Po}(h:BF w a c V p)(hk:Aa [] w w'):BF w' a c V p:=⟨h.le,h.small,h.row.keeps hk,h.mt.keeps hk⟩
theorem Gg(a:Option Addr)(n c:Nat)(next:Int)(w:World):
  Calls Tryz.prog 158 #[dK #[dI a n c,dH dN next]] w fun r w'=>r = dM (.func (.func 213) #[] #[dJ (some ⟨w,0,none⟩)])∧w.alloc (.cells #[dI a n c,dH dN next] 188)=w':=by
 go_enter Tryz.func158,Tryz.ntmps158;go_wp2;go_ret;exact⟨rfl,rfl⟩
def JU(x:SV×Nat):Array Value:=#[dH dN (x.2:Int),dK #[dH dN x.1.cur,(dI x.1.ia x.1.il x.1.ic),dH dN x.1.used]]
theorem VV(V:List SV)(k:Nat)(h:k<V.length):V.zipIdx.take (k+1)=V.zipIdx.take k++[(V[k],k)]:=by
 rw [AR bK];simp
theorem Ky{V:List SV}{pre:List (SV×Nat)}{x:SV×Nat}(h:pre++[x] <+: V.zipIdx):∃hk:pre.length<V.length,pre=V.zipIdx.take pre.length∧x=(V[pre.length],pre.length):=by
 obtain⟨t,ht⟩:=h;have hl:=congrArg List.length ht;simp only [Ag,Ao,Eh,List.length_zipIdx] at hl;have hk:pre.length<V.length:=by omega
 refine⟨hk,?_,?_⟩
 ·rw [← ht,CO,List.take_left]
 ·have h1:V.zipIdx[pre.length]? = some x:=by rw [← ht];simp
  rw [Au (by simpa using hk)] at h1;simpa using(Option.some.inj h1).symm
theorem Tc(n l pb:Nat)(a:Option Addr)(c:Nat)(V:List SV)(hV:V.length≤1000000)(J Jx:List (SV×Nat)→World→Prop)(W:World)(hJ:Xa W.heap.size J)(hR:∀s A,J s A→Fd A a V)
 (hY:∀pre x W1,J pre W1→pre++[x] <+: V.zipIdx→YieldAt Ba (n - 1) Tryz.prog l (JU x) W1 fun e W'=>
   (e = dM (dL true)∧J (pre++[x]) W'∧BZ W.heap.size W1 W')∨(e = dM (dL false)∧Jx (pre++[x]) W'))
 (hF:W.cell? ⟨pb,0,none⟩=some (dI a V.length c))(h0:J [] W):
  CallsIn Ba n Tryz.prog 213 #[.func (.yield l) #[] #[],dJ (some ⟨pb,0,none⟩)] W fun e W'=>(∃v,e = dM v)∧
   (J V.zipIdx W'∨(∃pre,pre <+: V.zipIdx∧Jx pre W')):=by
 have HJ:=lH hJ;have HR:=lH hR;have HY:=lH hY;have HJ0:=lH h0;obtain⟨N,hN⟩:=eX (V.length);have HN:=lH hN;rw [hN] at hF hV;clear hJ hR hY h0 hN;have hn1:Fence.wide.depth.isSome=true→1≤n:=by intro h;cases h
 refine callsIn_of_wp Tryz.func213 rfl trivial ?_ rfl;simp only [Tryz.ntmps213,Cx,Ao,Eh,Nat.reduceAdd,Nat.reduceSub,Bc,Bd,By,B0,AX,A6];gi_wp2;refine Br (wpIn_seq (wpIn_label ?_));gi_wp2
 gi_loopw [9] (fun i wr=>∃k:Nat,i = dH dN k∧k≤N∧Hid (J (V.zipIdx.take k) wr)∧W.heap.size≤wr.heap.size) (fun i _=>N - (intOf i).toNat)
 case atStart=>exact⟨0,rfl,Cy _,HJ0,Ap _⟩
 case round=>
  obtain⟨k,rfl,hk,HJs,hsz⟩:=hrel;by_cases hlt:k<N
  ·have hk1:k<V.length:=by rw [HN.out];exact hlt
   obtain⟨g,off,cs0,fz0,rfl,-,hat⟩:=HR.out _ _ HJs.out YA;obtain⟨x,hx⟩:=eX (V[k]);have q1:=hat k hk1;rw [hx] at q1;obtain⟨p0,p1,p2⟩:=q1;have i1:(0:Int)≤(k:Int):=by omega
   have i2:(k:Int)<(N:Int):=by omega
   have hz:=VV V k hk1;rw [hx] at hz;have hj1:J (V.zipIdx.take k) (wr.alloc (.cells #[dH dN x.cur,(dI x.ia x.il x.ic),dH dN x.used] 43)):=HJ.out _ _ _ HJs.out ((Below.refl _ wr).alloc hsz _);have hy0:=Cv (HY.out _ (x,k) _ hj1 (by rw [← hz];exact List.take_prefix _ _));rw [← hz] at hy0;obtain⟨fn,tmps,assign,body,hy,hR⟩:=hy0;simp only [JU] at hy;have hb:=Blk.new wr 43 #[dH dN x.cur,(dI x.ia x.il x.ic),dH dN x.used];have d0:=hb.cell 0;have d1:=hb.cell 1;have d2:=hb.cell 2;have HZ:=lH hz;clear hat hx hz hj1 hb hk1;gi_wp2;refine⟨hn1,?_⟩;refine hR.mono ?_;rintro e W3 ⟨g,rfl,hT,hF⟩;clear hR hy;cases g with
   | false=>
    have hJx:=lH (hF.out rfl);clear hT hF;gi_wp2;try rw [AH]
    go_end0
    exact⟨⟨_,rfl⟩,.inr ⟨V.zipIdx.take (k+1),List.take_prefix _ _,hJx.out⟩⟩
   | true=>
    obtain⟨hJ3,hK3⟩:=hT.out rfl;have HJ3:=lH hJ3;have hsz3:W.heap.size≤W3.heap.size:=by have:=hK3.1;rw [World.size_alloc] at this;omega
    clear hT hF hJ3 hK3;gi_wp2;go_roundw;case rel=>exact⟨k+1,by go_num,by omega,HJ3,hsz3⟩
    case measure=>simp [intOf];omega
  ·obtain rfl:k=N:=by omega
   gi_wp2;try rw [AH]
   go_end0
   refine⟨⟨_,rfl⟩,.inl ?_⟩;have:=HJs.out
   rwa [Ax (by rw [List.length_zipIdx,HN.out];exact Ap _)] at this
theorem Gh(n pb:Nat)(a:Option Addr)(c:Nat)(V:List SV)(hV:V.length≤1000000)(w:World)(hF:w.cell? ⟨pb,0,none⟩=some (dI a V.length c)):
  Xp Ba n Tryz.prog 213 #[dJ (some ⟨pb,0,none⟩)] JU V.zipIdx (fun A=>Fd A a V) w:=fun l J Jx W hW hJ _ hR hY h0=>
 Tc n l pb a c V hV J Jx W hJ hR hY ((Cq (a:=⟨pb,0,none⟩) (hW.block pb (A4 w _ hF))).trans hF) h0
inductive cR|mk (A:SV)
abbrev N_:=cR.mk
instance(A:SV):CoeDep cR (N_ A) (Array Value):=⟨#[dH dN A.cur,.slice A.ia A.il A.ic,dH dN A.used]⟩
theorem Cl{B:Nat}{A A':World}{g:Nat}{ty:TypeId}{cs:Array Value}(h:Blk A g ty cs)(hg:g<B)(hb:Below B A A'):Blk A' g ty cs:=(hb.block _ hg).trans h
theorem Aq(W:World)(t:TypeId)(cs:Array Value)(n:Nat)(hn:W.heap.size=n):Blk (W.alloc (.cells cs t)) n t cs:=by
 subst hn;exact Blk.new W t cs
theorem Qz(l:List Sn)(s:Sn):Eb (l++[s])=s.used:=by simp [Eb]
def Lh(l:List (SV×Nat)):Int:=(l.getLast?.map (·.1.used)).getD 0
theorem Q1(l:List (SV×Nat))(x:SV×Nat):Lh (l++[x])=x.1.used:=by simp [Lh]
theorem S4{w:World}{V:List SV}{L:List Sn}(h:Mt w V L):Lh V.zipIdx=Eb L:=by
 have hl:=h.len;unfold Lh Eb;rcases Nat.eq_zero_or_pos L.length with h0 | h0
 ·obtain rfl:=Er h0
  obtain rfl:=Er (hl.trans h0);rfl
 ·rw [List.getLast?_eq_getElem?,List.getLast?_eq_getElem?,List.length_zipIdx]
  have h1:V.length - 1<V.length:=by omega
  have h2:L.length - 1<L.length:=by omega
  rw [Au bR,Au h2];simp only [List.getElem_zipIdx,Option.map_some,Option.getD_some];have:=h.get (V.length - 1) h1 bB;rw [this.2.1]
  congr 2
  omega
theorem UJ(a:Option Addr)(c:Nat)(next:Int)(V:List SV)(hV:V.length≤1000000)(w:World)(hR:Fd w a V)(u:Int)(hu:Lh V.zipIdx=u):
  Calls Tryz.prog 332 #[dK #[dI a V.length c,dH dN next]] w fun r w'=>r = dM (dH dN u)∧Aa [] w w':=by
 refine(callsIn_wide (n:=9)).1 ?_;have HU:=lH hu;have HR:=lH hR;obtain⟨N,hN⟩:=eX (V.length);have HN:=lH hN;rw [hN] at hV ⊢;clear hu hR hN;refine callsIn_of_wp_marks Tryz.func332 rfl trivial ?_ rfl;simp only [Tryz.ntmps332,Cx,Ao,Eh,Nat.reduceAdd,Nat.reduceSub,Bc,Bd,By,B0,AX,A6];gi_wp2_with (fail);refine⟨trivial,(callsIn_wide.2 (Gg _ _ _ _ _)).mono ?_⟩;rintro e w1 ⟨rfl,rfl⟩;gi_wp2_with (fail);obtain⟨W0,hW0⟩:=eX ((((w.alloc (.cells #[dI a N c,dH dN next] 188)).alloc (.cells #[dH dN 0] 3)).alloc (.cells #[dI a N c,dH dN next] 188)));have hs0:W0.heap.size=w.heap.size+3:=by rw [← hW0];simp
 have hB0:Below w.heap.size w W0:=by
  rw [← hW0];exact(((Below.refl _ w).alloc (Ap _) _).alloc bA _).alloc bG _
 have b1:Blk W0 (w.heap.size+1) 3 #[dH dN 0]:=by
  rw [← hW0];exact(Aq _ _ _ _ bA).alloc _
 have b2:W0.cell? ⟨w.heap.size+1+1,0,none⟩=some (dI a V.length c):=by
  rw [← hW0,HN.out];exact(Aq _ 188 _ _ bA).cell 0
 rw [hW0];clear hW0;refine Ew rfl bB (gf:=213) (lb:=#[dJ (some ⟨w.heap.size+1+1,0,none⟩)]) rfl trivial (enters_of Tryz.func213 bC rfl) (Gh 8 (w.heap.size+1+1) a c V Z0 W0 b2) (Below.refl _ _) (fun _=>rfl)
  (fun pre A=>Below w.heap.size w A∧Blk A (w.heap.size+1) 3 #[dH dN (Lh pre)]) (fun _ _=>False)
  (fun s A A' h hb=>⟨h.1.trans (hb.mono bB),Cl h.2 bB hb⟩) (fun s A A' h hb=>h)
  (fun s A h=>HR.out.keeps (Aa.of_below h.1 [])) ⟨hB0,b1⟩
  (fun x b=>{ tmps:=#[dK #[dI a N c,dH dN next],dJ (some ⟨w,0,none⟩),dH dN 0,dJ (some ⟨w.heap.size+1,0,none⟩),undef,dJ (some ⟨b,0,none⟩),dK #[dI a N c,dH dN next],.func (.func 213) #[] #[dJ (some ⟨w.heap.size+1+1,0,none⟩)],dH dN (x.2:Int),dK (N_ x.1),undef,undef,undef],defers:=[] })
  (fun x=>.cells (N_ x.1) 43) ?assign ?body ?done ?stop
 case assign=>
  intro l x W K hK;unfold JU;gi_wp2;exact hK
 case body=>
  rintro l pre x b W ⟨hB,c1⟩ _ hb hbx;have hb2:Blk W b 43 (N_ x.1):=hbx;have d2:=hb2.cell 2;have e1:W.cell? ⟨w.heap.size+1,0,none⟩=some (dH dN (Lh pre)):=c1.cell 0;have f1:=c1.frozen 0;have HB:=lH hB;have HC:=lH c1;clear hB c1 hb2 hbx;gi_wp2;refine⟨BZ.setCell (p:=⟨w.heap.size+1,0,none⟩) bH W _,HB.out.setCell (p:=⟨w.heap.size+1,0,none⟩) bH _,?_⟩;rw [Q1];exact HC.out.set_ 0 _
 case done=>
  rintro D W hD ⟨hB,c1⟩ hK;have hD2:w.heap.size≤D:=by omega
  rw [HU.out] at c1;have e1:W.cell? ⟨w.heap.size+1,0,none⟩=some (dH dN u):=c1.cell 0;have HB:=lH hB;clear hB c1 hs0 hB0 b1 b2;gi_wp2;refine⟨by simp,.inl ⟨_,_,rfl,run_takeDeferred hK,?_⟩⟩;exact⟨_,results_tmp rfl _ _ _,rfl,Aa.of_below (HB.out.trans (belowK_b (n₀:=w.heap.size) (w:=w) (Ap _) _ D _ _ bB hK rfl rfl)) []⟩
 case stop=>
  rintro D pre W _ _ h _;exact h.elim
end
section
open Go.RowKit Go.Shelf
def Nf{β:Type}(S:List Nat)(J:β→World→Prop):Prop:=∀s A A',J s A→Aa S A A'→J s A'
def NQ{α:Type}(F:Fence)(n:Nat)(P:Program)(g:Nat)(lb:Array Value)(encs:α→Array Value)(ys:List α)(V:World→Prop):Prop:=
 ∀(l:Nat) (J Jx:List α→World→Prop) (W:World),Nf [] J→Nf [] Jx→(∀s A,J s A→V A)→
  (∀pre x W1,J pre W1→pre++[x] <+: ys→YieldAt F (n - 1) P l (encs x) W1 fun e W'=>
   (e = dM (dL true)∧J (pre++[x]) W')∨(e = dM (dL false)∧Jx (pre++[x]) W'))→
  J [] W→
  CallsIn F n P g (#[.func (.yield l) #[] #[]]++lb) W fun e W'=>(∃v,e = dM v)∧(J ys W'∨(∃pre,pre <+: ys∧Jx pre W'))
def Hm{α:Type}(B:Nat)(I Ix:List α→World→Prop)(xs:List α)(W:World):Exit→Act→World→Prop
 | .normal,_,W'=>W.heap.size≤W'.heap.size∧(∀k∈[B,B+1],W'.heap[k]? = W.heap[k]?)∧I xs W'
 | .ret,_,W'=>W.heap.size≤W'.heap.size∧(∀k∈[B,B+1],W'.heap[k]? = W.heap[k]?)∧Ix xs W'
 | _,_,_=>False
theorem Az{S:List Nat}{l:Nat}(W:World)(o:Obj)(hl:l∈S):Aa S W (W.putObj l o):=
 ⟨rfl,rfl,rfl,by simp,fun k _ hn=>A3 (fun e=>hn (e▸hl))⟩
variable {F:Fence} {n:Nat} {P:Program}
theorem Bx{α:Type}{g:Operand}{ps:Array Tmp}{assign body:Code}{Q:Exit→Act→World→Prop}{a:Act}{w:World}
 (hro:F.round=none)(h1:1≤n){gf:Nat}{lb:Array Value}(hg:a.eval g = .func (.func gf) #[] lb)(hFg:F.fn gf)(eg:∀args w,(callFunc gf args).run P w = .ok (.enter gf args) w)
 {encs:α→Array Value}{ys:List α}{V:World→Prop}(hseq:NQ F (n - 1) P gf lb encs ys V)(hps:∀x,(encs x).size=ps.size)
 (I Ix:List α→World→Prop)(hI:Nf [w.heap.size,w.heap.size+1] I)(hIx:Nf [w.heap.size,w.heap.size+1] Ix)(hIV:∀s A,I s A→V A)(h0:I [] w)(asg:α→World→Act×World)
 (hasg:∀x W,Aa [] W (asg x W).2)
 (hassign:∀(l:Nat) (x:α) (W:World) (K:Act→World→Prop),K (asg x W).1 (asg x W).2→
   assign.wpIn (F.inRound l) (n - 1 - 1) P (Exit.then K (fun _ _ _=>False)) { tmps:=(ps.zip (encs x)).foldl (fun t (p,v)=>t.setIfInBounds p v) a.tmps,defers:=[] } W)
 (hbody:∀(l:Nat) (pre:List α) (x:α) (W W2:World),I pre W→pre++[x] <+: ys→w.heap.size+2≤W.heap.size→Aa [w.heap.size,w.heap.size+1] (asg x W).2 W2→body.wpIn (F.inRound l) (n - 1 - 1) P (Hm w.heap.size I Ix (pre++[x]) W2) (asg x W).1 W2)
 (hdone:∀(W:World),I ys W→w.heap.size+2≤W.heap.size→W.heap[w.heap.size]? = some (.deferred (some []))→Q .normal { a with defers:={ target:=.collected w.heap.size,args:=#[] } :: a.defers } W)
 (hstop:∀(pre:List α) (W:World),pre <+: ys→Ix pre W→w.heap.size+2≤W.heap.size→W.heap[w.heap.size]? = some (.deferred (some []))→Code.ret.wpIn F n P Q { a with defers:={ target:=.collected w.heap.size,args:=#[] } :: a.defers } W):
  (Code.rangeFunc g ps assign body).wpIn F n P Q a w:=by
 refine wpIn_rangeFunc fun fn hfn=>?_;rw [hro]
 let D:=w.heap.size
 let l:=w.heap.size+1
 let rec_:LoopState→Option Code→Loop:=fun st pe=>{ state:=st,pending:=pe,fn,tmps:=a.tmps,params:=ps,assign,body,defers:=D }
 let W1:=(w.alloc (.deferred (some []))).alloc (.loop (rec_ .ready none))
 have hs1:W1.heap.size=w.heap.size+2:=by simp [W1]
 have hL:W1.heap[l]? = some (.loop (rec_ .ready none)):=by
  have:=Ej (w.alloc (.deferred (some []))) (.loop (rec_ .ready none))
  rwa [World.size_alloc] at this
 have hD:W1.heap[D]? = some (.deferred (some [])):=(Below.heap_alloc _ _ _ (by simp [D])).trans (Ej w _);have hk1:Aa [w.heap.size,w.heap.size+1] w W1:=((Aa.refl _ w).alloc _).alloc _;refine⟨l,[{ target:=.collected D,args:=#[] }],W1,{ target:=.fn (.func gf) lb,args:=#[.func (.yield l) #[] #[]] },W1,gf,#[.func (.yield l) #[] #[]]++lb,W1,run_enterLoop_outer _ _ _ _ _,?_,?_,?_,fun _=>h1,?_⟩
 ·simp only [resolve,hg];simp [go_sem]
 ·intro f' hf';simp [Target.leads] at hf';subst hf';exact hFg
 ·simp [invoke,go_sem,eg]
 have hmem:∀ {k:Nat},k<w.heap.size+2→k<W1.heap.size:=fun hk=>by omega
 refine(hseq l
  (fun pre W=>I pre W∧W1.heap.size≤W.heap.size∧W.heap[l]? = some (.loop (rec_ .ready none))∧W.heap[D]? = some (.deferred (some [])))
  (fun pre W=>Ix pre W∧W1.heap.size≤W.heap.size∧W.heap[l]? = some (.loop (rec_ .done (some .ret)))∧W.heap[D]? = some (.deferred (some [])))
  W1
  (fun s A A' hs hk=>⟨hI s A A' hs.1 (hk.mono bA),As hs.2.1 hk.size,(hk.block l Z1 bA).trans hs.2.2.1,(hk.block D Z1 bA).trans hs.2.2.2⟩)
  (fun s A A' hs hk=>⟨hIx s A A' hs.1 (hk.mono bA),As hs.2.1 hk.size,(hk.block l Z1 bA).trans hs.2.2.1,(hk.block D Z1 bA).trans hs.2.2.2⟩)
  (fun s A hs=>hIV s A hs.1) ?_ ⟨hI _ _ _ h0 hk1,Ap _,hL,hD⟩).mono ?_
 ·rintro pre x W ⟨hi,hsz,hl,hd⟩ hlen
  have hlt:l<W.heap.size:=by omega
  have hla:(asg x W).2.heap[l]? = some (.loop (rec_ .ready none)):=((hasg x W).block l hlt bA).trans hl;have hda:(asg x W).2.heap[D]? = some (.deferred (some [])):=((hasg x W).block D bB bA).trans hd;have hsa:=(hasg x W).size;have hlta:l<(asg x W).2.heap.size:=by omega
  refine⟨fn,_,assign,body,run_yield (P:=P) (args:=encs x) hl (hps x),roundIn_of_wpIn hfn (hassign _ x W _ ⟨_,run_beginRound hla rfl,?_⟩)⟩;have hl2:((asg x W).2.putObj l (.loop { rec_ .ready none with state:=.busy })).heap[l]? = some (.loop { rec_ .ready none with state:=.busy }):=D6 hlta;have hd2:((asg x W).2.putObj l (.loop { rec_ .ready none with state:=.busy })).heap[D]? = some (.deferred (some [])):=(A3 bB).trans hda;refine wpIn_mono (hbody _ pre x W _ hi hlen bB (Az _ _ (by simp [l]))) ?_;rintro e a3 W3 hp;have go_on:∀(jump:Option Code),((asg x W).2.putObj l (.loop { rec_ .ready none with state:=.busy })).heap.size≤W3.heap.size→(∀k∈[w.heap.size,w.heap.size+1],W3.heap[k]? = ((asg x W).2.putObj l (.loop { rec_ .ready none with state:=.busy })).heap[k]?)→
    (Instr.endRound l jump).run P W3 = .ok (dL jump.isNone) (W3.putObj l (.loop (rec_ (if jump.isNone then .ready else .done) jump)))∧l<W3.heap.size∧W1.heap.size≤W3.heap.size∧
    (W3.putObj l (.loop (rec_ (if jump.isNone then .ready else .done) jump))).heap[l]? = some (.loop (rec_ (if jump.isNone then .ready else .done) jump))∧
    (W3.putObj l (.loop (rec_ (if jump.isNone then .ready else .done) jump))).heap[D]? = some (.deferred (some [])):=fun jump hs3 hk=>by
   rw [World.putObj_size] at hs3;have hl3:W3.heap[l]? = some (.loop { rec_ .ready none with state:=.busy }):=(hk l (by simp [l])).trans hl2;have hd3:W3.heap[D]? = some (.deferred (some [])):=(hk D (by simp [D])).trans hd2;exact⟨run_endRound (P:=P) jump hl3,by omega,by omega,D6 bB,(A3 bB).trans hd3⟩
  cases e with
  | normal=>
   obtain⟨hr,hlt3,hs3,hl4,hd4⟩:=go_on none hp.1 hp.2.1;exact⟨_,_,hr,.inl ⟨rfl,hI _ _ _ hp.2.2 (Az _ _ (by simp [l])),by simp;omega,hl4,hd4⟩⟩
  | ret=>
   obtain⟨hr,hlt3,hs3,hl4,hd4⟩:=go_on (some .ret) hp.1 hp.2.1;exact⟨_,_,hr,.inr ⟨rfl,hIx _ _ _ hp.2.2 (Az _ _ (by simp [l])),by simp;omega,hl4,hd4⟩⟩
  | exit id=>exact hp.elim
  | goto t=>exact hp.elim
  | panic ch=>exact hp.elim
  | outgrown=>exact hp.elim
 ·rintro e W2 ⟨⟨v,rfl⟩,(⟨hi,hsz,hl,hd⟩ | ⟨pre,hSp,hi,hsz,hl,hd⟩)⟩
  ·exact⟨none,_,run_endLoop (P:=P) hl (by simp [rec_]),hdone _ (hI _ _ _ hi (Az _ _ (by simp [l]))) bG ((A3 bB).trans hd)⟩
  ·exact⟨some .ret,_,run_endLoop (P:=P) hl (by simp [rec_]),hstop pre _ hSp (hIx _ _ _ hi (Az _ _ (by simp [l]))) bG ((A3 bB).trans hd)⟩
end
section
open Go.RowKit Go.Shelf
attribute [local go_sem] Oper.semAt_some
attribute [local go_sem ↓] Go.wp_at_zero Go.wp_at_succ
theorem VJ:(Tryz.prog.info? 5).map (fun i=>(i.zero,i.size,i.bytes))=some (some (.int .u8 0),1,1):=by kernel_rfl
theorem Tp:(Tryz.prog.info? 9).map (fun i=>(i.zero,i.size,i.bytes))=some (some (CZ ⟨#[]⟩),1,16):=by kernel_rfl
def CB(l:List UInt8):ByteArray:=⟨l.toArray⟩
def Fb:Option Int→Value
 | none=>.nilIface
 | some k=>.iface 208 (dK #[dH dN k])
def Kj(x:Bool×Int):List Value:=[dL x.1,dH dN x.2]
def Cc:List (Bool×Int)→Option Int
 | []=>none
 | x::l=>if x.1 then some x.2 else Cc l
theorem JQ{L:List (Bool×Int)}{k:Nat}{x:Bool×Int}(h:Cc (L.take k)=none)(hx:L[k]? = some x):Cc (L.take (k+1))=(if x.1 then some x.2 else none):=by
 have hk:=(Ad.1 hx);obtain⟨hk1,rfl⟩:=hk;rw [AR hk1];have:∀(l:List (Bool×Int)) (y:Bool×Int),Cc l=none→Cc (l++[y])=(if y.1 then some y.2 else none):=by
  intro l y;induction l with
  | nil=>intro _;rfl
  | cons z l ih=>
   intro h;unfold Cc at h;split at h
   ·cases h
   ·rename_i hz
    show(if z.1 then some z.2 else Cc (l++[y]))=_;rw [if_neg hz,ih h]
 exact this _ _ h
theorem Qn{L:List (Bool×Int)}{k:Nat}{x:Bool×Int}(h:Cc (L.take k)=none)(hx:L[k]? = some x)(hb:x.1=true):Cc L=some x.2:=by
 have h1:=JQ h hx;rw [if_pos hb] at h1;have:∀(l m:List (Bool×Int)) (z:Int),Cc l=some z→Cc (l++m)=some z:=by
  intro l m z;induction l with
  | nil=>intro h;cases h
  | cons y l ih=>
   intro h;unfold Cc at h;show(if y.1 then some y.2 else Cc (l++m))=_;split at h
   ·rename_i hy;rw [if_pos hy,← h]
   ·rename_i hy;rw [if_neg hy,ih h]
 have h2:=this _ (L.drop (k+1)) _ h1
 rwa [Bj] at h2
theorem Ch(a:Option Addr)(c:Nat)(L:List (Bool×Int))(n:Nat)(hn:L.length=n)(hL:n≤1000)(R:Option Int)(hR:Cc L=R)(w:World)(h:AJ Kj 2 w a c L):
  Calls Tryz.prog 103 #[dI a n c] w fun e w'=>e = dM (Fb R)∧Aa [] w w':=by
 have HA:=lH h.at_;have HN:=lH hn;have HR:=lH hR;clear h hn hR;go_enter Tryz.func103,Tryz.ntmps103;go_wp2;go_loopw [7] (fun i wr=>∃k:Nat,i = dH dN k∧k≤n∧Hid (Cc (L.take k)=none)∧Hid (Aa [] w wr)) (fun i _=>n - (intOf i).toNat)
 case atStart=>exact⟨0,rfl,Cy _,lH rfl,lH (Aa.refl _ _)⟩
 case round=>
  obtain⟨k,rfl,hk,HF,HK⟩:=hrel;by_cases hlt:k<n
  ·have hk1:k<L.length:=by rw [HN.out];exact hlt
   obtain⟨g,off,rfl,hg,hat⟩:=HA.out bB;obtain⟨⟨b,y⟩,hx⟩:∃x,L[k]? = some x:=⟨_,Au hk1⟩;have hxe:L[k]=(b,y):=by rw [Au hk1] at hx;injection hx
   have q0:=hat k hk1 0 (dL b) (by rw [hxe];rfl);have q1:=hat k hk1 1 (dH dN y) (by rw [hxe];rfl);rw [CG] at q0;rw [← HK.out.cell (p:=⟨g,off+k*2,none⟩) hg bA] at q0;rw [← HK.out.cell (p:=⟨g,off+k*2+1,none⟩) hg bA] at q1;have i1:(0:Int)≤(k:Int):=by omega
   have i2:(k:Int)<(n:Int):=by omega
   cases b with
   | true=>
    have hr:=Qn HF.out hx rfl;rw [HR.out] at hr;subst hr;clear hat hxe hx hk1 hg HF;go_wp2;go_ret;exact⟨rfl,HK.out.alloc _⟩
   | false=>
    have HF2:Hid (Cc (L.take (k+1))=none):=lH (JQ HF.out hx);clear hat hxe hx hk1 hg HF;go_wp2;go_roundw;case rel=>exact⟨k+1,by go_num,by omega,HF2,lH (HK.out.alloc _)⟩
    case measure=>simp [intOf];omega
  ·obtain rfl:k=n:=by omega
   have hr:=HF.out;rw [Ax bL,HR.out] at hr;subst hr;go_wp2;go_ret;exact⟨rfl,HK.out⟩
theorem Ho(w:World)(b:Bool)(k:Int):AJ Kj 2 (w.alloc (.cells #[dL b,dH dN k] 202)) (some ⟨w,0,none⟩) 1 [(b,k)]:=
 ⟨by simp,(fun e=>by cases e),fun _=>⟨w,0,rfl,by simp,fun i hi j u hj=>by
  have h0:i=0:=by simpa using hi
  subst h0;have hb:=Blk.new w 202 #[dL b,dH dN k];rw [hb.cell]
  match j,hj with
  | 0,hj=>simpa [Kj] using hj
  | 1,hj=>simpa [Kj] using hj
  | j+2,hj=>simp [Kj] at hj⟩⟩
theorem L5(w:World)(b b':Bool)(k k':Int):AJ Kj 2 (w.alloc (.cells #[dL b,dH dN k,dL b',dH dN k'] 202)) (some ⟨w,0,none⟩) 2 [(b,k),(b',k')]:=
 ⟨by simp,(fun e=>by cases e),fun _=>⟨w,0,rfl,by simp,fun i hi j u hj=>by
  have hb:=Blk.new w 202 #[dL b,dH dN k,dL b',dH dN k'];rw [hb.cell]
  match i,hi,j,hj with
  | 0,_,0,hj=>simpa [Kj] using hj
  | 0,_,1,hj=>simpa [Kj] using hj
  | 0,_,j+2,hj=>simp [Kj] at hj
  | 1,_,0,hj=>simpa [Kj] using hj
  | 1,_,1,hj=>simpa [Kj] using hj
  | 1,_,j+2,hj=>simp [Kj] at hj
  | i+2,hi,_,_=>exact absurd hi bA⟩⟩
structure DT(w:World)(r base:Nat)(dv wv:Value)(R:Bw):Prop where
 blk:Blk w r 197 #[dv,wv]
 d:w.ownsRow base 9 1 dv R.done.length (R.done.map fun s=>CZ (CB s))
 wd:w.ownsRow base 5 1 wv R.word.length (R.word.map fun b=>.int .u8 (b.toNat:Int))
 lt:r<base
 le:base≤w.heap.size
 ne:∀g,dv.ownBlock=some g→wv.ownBlock≠some g
 hd:R.done.length≤12
 hw:R.word.length≤65
def DT.S(r:Nat)(dv wv:Value):List Nat:=r::(dv.ownBlock.toList++wv.ownBlock.toList)
theorem Ec{w:World}{base n:Nat}{e:TypeId}{sz:Nat}{v:Value}{xs:List Value}(h:w.ownsRow base e sz v n xs):∀g,v.ownBlock=some g→base≤g∧g<w.heap.size:=fun g hg=>by
 rcases h.2 with⟨rfl,_⟩ | ⟨g',cap,cur,rfl,hb,hg',_⟩
 ·cases hg
 ·simp only [Value.ownBlock,Option.some.injEq] at hg
  subst hg;exact⟨hb,Blk.lt (t:=e) (cs:=cur) hg'⟩
theorem Ak{w w':World}{S:List Nat}{base n:Nat}{e:TypeId}{sz:Nat}{v:Value}{xs:List Value}(h:w.ownsRow base e sz v n xs)(hk:Aa S w w')(hS:∀g,v.ownBlock=some g→g∉S):w'.ownsRow base e sz v n xs:=by
 refine⟨h.1,?_⟩;rcases h.2 with h0 | ⟨g,cap,cur,rfl,hb,hg,h5⟩
 ·exact .inl h0
 ·exact .inr ⟨g,cap,cur,rfl,hb,(hk.block g (Blk.lt (t:=e) (cs:=cur) hg) (hS g rfl)).trans hg,h5⟩
theorem DT.keeps{w w':World}{S:List Nat}{r base:Nat}{dv wv:Value}{R:Bw}(h:DT w r base dv wv R)(hk:Aa S w w')(hS:∀y∈DT.S r dv wv,y∉S):DT w' r base dv wv R:=
 ⟨h.blk.keeps hk (hS r (by simp [DT.S])),Ak h.d hk (fun g hg=>hS g (by simp [DT.S,hg])),Ak h.wd hk (fun g hg=>hS g (by simp [DT.S,hg])),h.lt,As h.le hk.size,h.ne,h.hd,h.hw⟩
theorem Ng(r base:Nat)(dv wv:Value)(R:Bw)(b:UInt8)(hw:R.word.length≤64)(w:World)(h:DT w r base dv wv R):
  Calls Tryz.prog 218 #[dJ (some ⟨r,0,none⟩),.int .u8 (b.toNat:Int)] w fun e w'=>e = dM (Fb (if 64<R.word.length+1 then some 14 else none))∧∃wv',DT w' r base dv wv' ⟨R.st,R.done,R.word++[b]⟩∧Aa (DT.S r dv wv) w w'∧(∀g,wv'.ownBlock=some g→wv.ownBlock=some g∨w.heap.size≤g):=by
 obtain⟨i0,hi,hz0,hz1,hz2⟩:=info_parts VJ;have HH:=lH h;obtain⟨n,hn⟩:=eX (R.word.length);have hrow:=h.wd;rw [hn] at hrow hw ⊢;have HRW:=lH hrow;have HN:=lH hn;have c1:=h.blk.cell 1;simp at c1;have hle:=h.le;have hlt:=h.lt;have hcase:(64<n+1∧decide ((64:Int)<(n:Int)+1)=true)∨(¬64<n+1∧decide ((64:Int)<(n:Int)+1)=false):=by
  by_cases h1:64<n+1
  ·exact .inl ⟨h1,decide_eq_true bB⟩
  ·exact .inr ⟨h1,decide_eq_false bB⟩
 obtain⟨bi,hbi⟩:∃bi:Int,(b.toNat:Int)=bi:=⟨_,rfl⟩;have HBI:=lH hbi;rw [hbi];clear h hrow hn hbi;rcases hcase with⟨h1,h2⟩ | ⟨h1,h2⟩
 all_goals
  simp only [h1,if_true,if_false];go_enter Tryz.func218,Tryz.ntmps218;go_wp2_with (at_builtin;(refine wpList_append_lies _ rfl _ _ _ bD base 5 i0 _ 1 1 Tryz.underlying193 hi hz0 hz1 hz2 rfl bB wv n _ bD (World.ownsRow.alloc HRW.out _) ⟨w,0,none⟩ 1 1 _ bD bD (World.news_of_block (heap_alloc_new _ _)) YB bB bZ bB bG (w.heap.size+1) bA ?_;intro g2 cap2 w4 hown1 hgrow hat hlt2;have hnr:∀j,wv.ownBlock=some j→base≤j:=(fun j hj=>(Ec HRW.out j hj).1);have k4:Aa wv.ownBlock.toList w w4:=((Aa.refl _ w).alloc _).grown hgrow (fun j hj=>.inl (by simp [hj]));have b4:=HH.out.blk.keeps k4 (fun hm=>by have:=hnr r bT;omega);have cc0:=b4.cell 0;have cc1:=b4.cell 1;have f1:=b4.frozen 1;simp at cc0 cc1;have B4:=lH b4;have K4:=lH k4;have HO:=lH hown1;have HAT:=lH hat;clear HRW c1 hown1 hgrow hat hnr k4 b4));obtain⟨w5,hw5⟩:=eX (w4.setCell ⟨r,1,none⟩ (dI (some ⟨g2,0,none⟩) (n+1) cap2));have hs5:w4.heap.size=w5.heap.size:=by rw [← hw5];simp [World.setCell]
  have B5:Hid (Blk w5 r 197 #[dv,dI (some ⟨g2,0,none⟩) (n+1) cap2]):=lH (by rw [← hw5];exact B4.out.set_ 1 _);have K45:Hid (Aa [r] w4 w5):=lH (by rw [← hw5];exact(Aa.refl [r] w4).setCell (p:=⟨r,1,none⟩) (.inl bA) _);rw [hw5,hs5];clear hw5 hs5 h2 cc0 cc1 f1;refine(Ch (some ⟨w5,0,none⟩) 1 [(_,14)] 1 rfl bB _ rfl _ (Ho w5 _ 14)).mono ?_;rintro e w6 ⟨rfl,k5⟩;have K5:Hid (Aa [] w5 w6):=lH (((Aa.refl [] w5).alloc _).trans k5);clear k5;go_wp2;go_ret;have hK:Aa (DT.S r dv wv) w w6:=((K4.out.mono (fun y hy=>by simp [DT.S,AF];exact .inr (.inr bU))).trans (K45.out.mono (by simp [DT.S]))).trans (K5.out.mono bA);have hnd:∀g,dv.ownBlock=some g→g∉wv.ownBlock.toList:=fun g hg hm=>HH.out.ne g hg bT;have hdr:∀g,dv.ownBlock=some g→g∉[r]:=fun g hg hm=>by
   have:=(Ec HH.out.d g hg).1;simp only [Am] at hm;have:=HH.out.lt;omega
  have hg2:base≤g2∧g2<w4.heap.size:=Ec HO.out g2 rfl;have hwv:wv.ownBlock=some g2∨w.heap.size≤g2:=by rcases HAT.out with h | h<;>first | exact .inl h | exact .inr bB
  refine⟨rfl,dI (some ⟨g2,0,none⟩) (n+1) cap2,⟨B5.out.keeps K5.out bA,Ak (Ak (Ak HH.out.d K4.out hnd) K45.out hdr) K5.out bA,?_,HH.out.lt,As HH.out.le hK.size,fun g hg he=>?_,HH.out.hd,?_⟩,hK,fun g hg=>?_⟩
  ·have h9:=Ak (Ak HO.out K45.out (fun g hg hm=>by
    simp only [Value.ownBlock,Option.some.injEq] at hg;simp only [Am] at hm;have:=HH.out.lt;omega)) K5.out bA
   dsimp only;rw [Ag,List.map_append,HN.out,Cn,List.map_nil,HBI.out];exact h9
  ·simp only [Value.ownBlock,Option.some.injEq] at he
   subst he;rcases hwv with h | h
   ·exact HH.out.ne _ hg h
   ·have:=(Ec HH.out.d _ hg).2;omega
  ·dsimp only;rw [Ag,HN.out];simp;omega
  ·simp only [Value.ownBlock,Option.some.injEq] at hg
   subst hg;exact hwv
end
end Go.Proofs.YtcjdkbgdahgjbaaGreatDoor
