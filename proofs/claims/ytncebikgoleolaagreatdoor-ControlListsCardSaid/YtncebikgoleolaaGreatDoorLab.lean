/- Lists. -/
import Derived.Test.YtncebikgoleolaaGreatDoorKba
set_option maxRecDepth 100000
set_option maxHeartbeats 8000000
set_option linter.all false
namespace Go.Proofs.YtncebikgoleolaaGreatDoor
open _root_.List renaming length_drop→B1
open Lib renaming atoiAll→vI
open _root_.List renaming cons_append→AL,drop_zero→BC,length_map→Bd,map_append→pO,map_cons→CR,nil_append→BH,take_of_length_le→Ak
open _root_.Nat renaming add_mul→qL,zero_le→Ba
open Tryz
open _root_.Array renaming getElem?_eq_some_iff→Ai
open _root_.ByteArray renaming toList_eq→ED
open Ending renaming returned→pJ
open IntKind renaming i64→pK
open _root_.List renaming getElem?_eq_getElem→Aq,take_of_length_le→Ak
open _root_.Nat renaming le_refl→Aw,zero_le→Ba
open Value renaming bool→pI,int→pE,slice→pF
open Value renaming int→pE
open Go.Proofs.Tryz
open Value renaming agg→pH,int→pE,slice→pF
open Lib renaming toList_data→C9
open _root_.List renaming all_eq_true→Bm,drop_eq_nil_of_le→AI,getD_eq_getElem?_getD→AO,getElem?_map→qH,length_cons→Av,length_drop→B1,length_map→Bd,length_nil→D4,length_take→Ax,mem_of_getElem?→CD
open Oper renaming semAt_some→pN
open Value renaming int→pE,ownBlock→EZ
theorem vN{p:Prop}(h:p:=by ((try dsimp only);(repeat(with_reducible first | exact hk25' | exact Aa.refl _ _ | refine Aa.drew ?_)))):p:=h
section
theorem Sl(l:List Sn)(now:Int):(JO l now).Sublist l:=by
 unfold JO;split
 ·exact(List.drop_sublist _ _).trans List.filter_sublist
 ·exact List.filter_sublist
theorem Zl{l:List Sn}(now:Int)(h:l.length<=3):(JO l now).length<=2:=by
 have:=List.length_filter_le (Fs now) l;unfold JO;split
 ·rw [B1];omega
 ·omega
theorem SP.pin{p:Po}{now:Int}(h:SP p now)(xs:List ByteArray)(hx:Dd xs=true)(hn:p.next<1000000000000):SP ⟨JO p.l now++[⟨p.next,xs,now⟩],p.next+1⟩ now:=
 h.add (Sl _ _) (Zl _ h.ok.len) ⟨p.next,xs,now⟩ (p.next+1) bB bB ⟨h.ok.n1,by dsimp only;omega⟩ (fun t ht=>by have:=h.ok.cur t ((Sl _ _).subset ht);dsimp only;omega) rfl hx
theorem Zk{p:Po}{now:Int}(h:SP p now){xs:List ByteArray}(hx:Dd xs=true)(hn:p.next<1000000000000):IV p xs now=(⟨JO p.l now++[⟨p.next,xs,now⟩],p.next+1⟩,p.next,0):=by
 unfold IV;rw [(Hj p now).2 h,hx];simp [hn]
end
section
open Go
def qX(count:Nat):ByteArray:=str ([97,110,110,32,49,32,108,105,115,116,32]++qD count)
def qS(count:Nat)(now:Int)(want:List ByteArray):Nat->Nat->BN->ByteArray->List (List UInt8)->Bool
 | 0,_,_,_,_=>false
 | k+1,i,d,s,all=>match Ce s.data.toList with
  | .error _=>false
  | .ok l=>if l.length<5\/l.getD 0 []≠okT.data.toList then false else
    if l.getD 4 []=qV.data.toList then all++l.drop 5==want.map fun s=>s.data.toList
    else
     let d1:=(pZ d 1 (qM i) now).1
     let r:=pZ d1 2 (qU i count (l.getD 3 []) (l.getD 4 [])) now
     qS count now want k (i+1) r.1 r.2 (all++l.drop 5)
theorem tJ(n:Nat)(h1:1<=n)(h3:n<=3):E1 (qX n)=(qT 1 n 0 0,0):=by
 have h:n=1\/n=2\/n=3:=bB;rcases h with rfl | rfl | rfl
 ·show _=_;kernel_rfl
 ·show _=_;kernel_rfl
 ·show _=_;kernel_rfl
theorem sL{n:Int}(h0:0<=n)(h1:n<100000000000000):(E2 n).data.toList≠qV.data.toList:=by
 intro e;have h:=congrArg vI e;unfold E2 at h;rw [Lg,sF h0 h1] at h;have h2:vI qV.data.toList = vI []:=bC;rw [h2] at h;cases h
theorem rR{names:List ByteArray}{count:Nat}{cur now:Int}(hn:0<=now/\now<=1000000000000)(h1:1<=count)(h3:count<=3)(D:1<=cur/\cur<=1000000000000)(h8:names.length<=8)
 (hnm:∀x∈names,x.data.toList.length<=40/\x.data.toList.all Cw=true):∀(k i:Nat) (d:BN) (s:ByteArray),8<=i+k->(i=0\/i*count<names.length)->LI names count cur now i d->LT names count cur i s->
  qS count now names (k+1) i d s ((names.take (i*count)).map fun s=>s.data.toList)=true
 | k,i,d,s,hk,hi,h,ht=>by
  have hi8:i<8:=by
   rcases hi with rfl | hi
   ·decide
   ·have:i*1<=i*count:=Nat.mul_le_mul_left i h1
    omega
  have F:i*count<=names.length:=by
   rcases hi with rfl | hi
   ·omega
   ·omega
  obtain⟨id,seq,hg⟩:=ht.text;unfold qS;rw [hg.split];have B:(i+1)*count=i*count+count:=by rw [qL,Nat.one_mul]
  have hN:=uA names (i*count) count;have hL:=sX names (i*count) count F;generalize hf:i*count=f at hN hL F B hi ⊢;rw [hN,hL];dsimp only;rw [if_neg bA];by_cases hlt:f+count<names.length
  ·rw [if_pos hlt]
   rw [if_pos (show(0:Int)<=((f+count:Nat):Int) by omega)];simp only [AL,BH,CR,List.getD_cons_succ,List.getD_cons_zero,List.drop_succ_cons,BC];rw [if_neg (sL bB bB)];cases k with
   | zero=>omega
   | succ k=>
    obtain⟨J,M⟩:=h.step hi8 hn h1 h3 D h8 hnm bB;rw [B] at J M;have G:=rR hn h1 h3 D h8 hnm k (i+1) _ _ bB (.inr bB) J M;rw [B] at G;rw [<- pO,<- List.take_add];exact G
  ·rw [if_neg hlt]
   rw [if_neg (show ¬(0:Int)<=-1 by decide)];simp only [AL,BH,CR,List.getD_cons_succ,List.getD_cons_zero,List.drop_succ_cons,BC];have E:names.take (f+count)=names:=Ak (by clear hN hL hg;omega);rw [if_pos trivial,<- pO,<- List.take_add,E];exact beq_self_eq_true _
theorem tM{c:BN}{count:Nat}{now:Int}(J:Gd c)(N:c.ops = [⟨qN,3⟩])(hj:c.jobs = [])(hd:c.done = [])(hs:c.reg.seq<=1000000)(hx:c.pool.next<=1000000)(M:now=EQ c.pool.l)(hn:now<=999999999990)(h8:c.reg.l.length<=8)(h1:1<=count)(h3:count<=3):
  qS count now (Bz c.reg) 12 0 (pZ c 0 (qX count) now).1 (pZ c 0 (qX count) now).2 []=true:=by
 have ae:∀s∈c.pool.l,0<=s.used:=fun s hm=>(J.pool.us s hm).1;have F:=(UT ae J.pool.so).1 (Int.le_of_eq M.symm);have G:SP c.pool now:=⟨J.pool,F.1,by omega,F.2⟩;obtain⟨hi,hnm⟩:=Mk J.reg;have ah:0<=c.reg.seq:=J.reg.seq.1;have al:1<=c.pool.next:=J.pool.n1;have D:(Bz c.reg).length<=8:=by unfold Bz;rw [Bd];exact h8
 obtain⟨j,X,j2,j3,j4,j5,j6,j7,j8⟩:=sE (conn:=0) J N hj bE ⟨F.1,by omega⟩ bB (tJ count h1 h3) (fun a U=>by rw [hd] at U;cases U);generalize hnames:Bz c.reg=names at hi hnm D j2 j3 ⊢;have T:=Zk G hi bB;have E:=G.pin names hi bB;have O:=sM (f:=0) (n:=(count:Int)) E (by show now - now<1000;omega) bB bB bB bB;dsimp only at O;have B:Ft j c.pool names (c.reg.seq+1) now=(j.answers (Ex ([okT,E2 j.req.id,E2 (c.reg.seq+1),E2 c.pool.next,if 0<=oW names ((0:Nat):Int) count then E2 (oW names ((0:Nat):Int) count) else qV]++oV names ((0:Nat):Int) count)),⟨JO c.pool.l now++[⟨c.pool.next,names,now⟩],c.pool.next+1⟩):=by
  unfold Ft;have e1:j.req.cursor=0:=by rw [X];rfl
  have e2:j.req.from_=0:=by rw [X];rfl
  have e3:j.req.count=(count:Int):=by rw [X];rfl
  have ac:(if j.req.cursor=0 then IV c.pool names now else(c.pool,j.req.cursor,0))=(⟨JO c.pool.l now++[⟨c.pool.next,names,now⟩],c.pool.next+1⟩,c.pool.next,0):=by rw [e1,if_pos rfl,T]
  rw [ac];dsimp only;rw [if_neg (show ¬(0:Int)≠0 by decide),e2,e3,O];dsimp only;rw [if_neg (show ¬(0:Int)≠0 by decide)];rfl
 have aa:LI names count c.pool.next now 0 (pZ c 0 (qX count) now).1:=by
  refine⟨j5,j6,j7,?_,⟨JO c.pool.l now,?_⟩,?_,?_⟩
  ·rw [j4];omega
  ·rw [j3,B]
  ·rw [j3,B];exact E
  ·intro a U k hk hk8
   rcases j8 a U with Y | Y
   ·rw [hd] at Y;cases Y
   ·omega
 have ab:LT names count c.pool.next 0 (pZ c 0 (qX count) now).2:=by
  refine⟨?_⟩;rw [j2,Nat.zero_mul];obtain⟨hw,am,ad⟩:=tB names count 0 D (Ba _);rw [B];exact⟨j.req.id,c.reg.seq+1,rV (by rw [X];show(0:Int)<=1/\(1:Int)<=1000000;omega) bB bB hw bB (fun x hx=>hnm x (ad x hx))⟩
 have H:=rR (cur:=c.pool.next) ⟨F.1,by omega⟩ h1 h3 bB D hnm 11 0 _ _ bB (.inl rfl) aa ab;rw [Nat.zero_mul,List.take_zero,List.map_nil] at H;exact H
end
section
open Go.RowKit Go.Shelf
attribute [local go_sem ↓] wp_at_zero wp_at_succ
theorem sG(x y:ByteArray):(x.toList==y.toList)=true↔x=y:=by
 simp only [beq_iff_eq,ED];constructor
 ·intro h3
  obtain⟨⟨l⟩⟩:=x;obtain⟨⟨l'⟩⟩:=y;have h3:l=l':=h3;rw [h3]
 ·rintro rfl
  rfl
theorem sO(M N:Option Addr)(O T:Nat)(xs ys:List ByteArray)(n m:Nat)(hn:xs.length=n)(hm:ys.length=m)(R:Bool)(hR:R=true↔xs=ys)(w:World)(h1:Cy w M O xs)(h2:Cy w N T ys):
  Calls prog 12 #[pF M n O,pF N m T] w fun r w'=>r = pJ (pI R)/\Aa [] w w':=by
 by_cases hlen:n=m
 ·subst hlen
  have ad:n<=1000000:=by rw [<- hn];exact h1.small
  have U:=lH h1;have X:=lH h2;have HN:=lH hn;have D:=lH hm;have HR:=lH hR;clear h1 h2 hn hm hR;go_enter func12,ntmps12;go_wp2;go_loopw [5] (fun i wr=>∃k:Nat,k<=n/\i = I_ k/\Hi (xs.take k=ys.take k)/\Hi (Aa [] w wr)) (fun i _=>n - (intOf i).toNat)
  case atStart=>exact⟨0,Ba _,rfl,lH rfl,lH (Aa.refl [] w)⟩
  case round=>
   obtain⟨k,hk,rfl,HE,HK⟩:=hrel;by_cases hlt:k<n
   ·have hk1:k<xs.length:=by rw [HN.o];exact hlt
    have hk2:k<ys.length:=by rw [D.o];exact hlt
    obtain⟨g1,o1,Y,ab,rfl,hb1,hat1⟩:=U.o.at_ gC;obtain⟨g2,o2,aa,ac,rfl,hb2,B⟩:=X.o.at_ (by rintro rfl;simp at hk2);obtain⟨x,hx⟩:=eX (xs[k]);obtain⟨y,hy⟩:=eX (ys[k]);have q1:=hat1 k hk1;have q2:=B k hk2;rw [hx,<- HK.o.cell (Ai.1 hb1).1 bA] at q1;rw [hy,<- HK.o.cell (Ai.1 hb2).1 bA] at q2;have i1:(0:Int)<=(k:Int):=bB;have i2:(k:Int)<(n:Int):=bB;have G:Hi (xs[k]? = some x):=lH (by rw [Aq hk1,hx]);have J:Hi (ys[k]? = some y):=lH (by rw [Aq hk2,hy]);clear hx hy hat1 B hb1 hb2 hk1 hk2;cases hb:(x.toList==y.toList) with
    | true=>
     have E:x=y:=(sG x y).1 hb;have F:Hi (xs.take (k+1)=ys.take (k+1)):=lH (by rw [DS G.o,DS J.o,HE.o,E]);clear E;go_wp2;go_quiet (fail);go_wp2;go_roundw;case rel=>exact⟨k+1,by omega,by go_num,F,lH (HK.o.drewN _)⟩
     case measure=>simp [intOf];omega
    | false=>
     obtain rfl:R=false:=by
      cases hr:R with
      | false=>rfl
      | true=>
       have e:=HR.o.1 hr;subst e;have h1:=G.o;rw [J.o] at h1;injection h1 with h1
       rw [(sG x y).2 h1.symm] at hb;cases hb
     go_wp2;go_quiet (fail);go_wp2;go_ret;exact⟨rfl,HK.o.drewN _⟩
   ·obtain rfl:k=n:=bB;obtain rfl:R=true:=HR.o.2 (by
     have:=HE.o;rw [Ak bL,Ak (by rw [D.o];exact Aw _)] at this;exact this)
    go_wp2;go_ret;exact⟨rfl,HK.o⟩
 ·have hne:((n:Int)==(m:Int))=false:=by simp;omega
  obtain rfl:R=false:=by
   cases hr:R with
   | false=>rfl
   | true=>exact absurd (by rw [<- hn,<- hm,hR.1 hr]) hlen
  have s1:=h1.small;clear hlen h1 h2 hR hn hm;go_enter func12,ntmps12;go_wp2;go_ret;exact⟨rfl,Aa.refl [] w⟩
end
section
open Go.RowKit Go.Shelf
theorem Fu{n k:Nat}(i:wrap64 ((k:Int)+1)=(k:Int)+1)(h:k<n):n - (intOf (I_ (wrap64 ((k:Int)+1)))).toNat<n - (intOf (I_ (k:Int))).toNat:=by
 rw [i];simp only [intOf];omega
end
section
open Go.ChangeShapes Go.WideShapes Go.ChangeAt Go.RowKit
namespace controlLists
theorem Qr:(Rows.controlListsRow.wf (OpenSpec.ofChange Rows.controlListsSpec))=true:=bC
theorem Qk:(f3.params.all (Tryz.pinned.checked.prog.readableRec ·))=true:=bC
theorem Qh:(namedTie Tryz.pinned.checked.prog Rows.controlListsRow.named Rows.controlListsSpec.vars)=true:=bC
theorem Qe:((Rows.controlListsRow.inPlace==Tryz.pinned.checked.prog.inPlace 3))=true:=bC
theorem Qn:((Rows.controlListsRow.unfollowed==Tryz.pinned.checked.prog.unfollowed 3))=true:=bC
theorem Qj:((Rows.controlListsRow.recurses==Tryz.pinned.checked.prog.recurses 3))=true:=bC
theorem Qq:((Rows.controlListsRow.named==Tryz.pinned.checked.prog.varsNamed 3))=true:=bC
theorem Qg:((Rows.controlListsRow.maps==(f3.params.toList++Rows.controlListsSpec.plain.varTypes Tryz.pinned.checked.prog).any (Tryz.pinned.checked.prog.mapsRec ·)))=true:=bC
theorem KJ:((Rows.controlListsRow.ifaces==(f3.params.toList++Rows.controlListsSpec.plain.varTypes Tryz.pinned.checked.prog).any (Tryz.pinned.checked.prog.ifacesRec ·)))=true:=bC
theorem Qf:((Rows.controlListsRow.loops==(f3.params.toList++Rows.controlListsSpec.plain.varTypes Tryz.pinned.checked.prog).any (Tryz.pinned.checked.prog.loopsFrom ·)))=true:=bC
theorem Qs:((Rows.controlListsRow.wideKeys==(f3.params.toList++Rows.controlListsSpec.plain.varTypes Tryz.pinned.checked.prog++f3.resultTypes.toList).any (Tryz.pinned.checked.prog.wideKeysFrom ·)))=true:=bC
theorem Ql:(f3.resultTypes.all (fun t=>Tryz.pinned.checked.prog.readableRec t&&decide (t<Tryz.pinned.checked.prog.types.size)))=true:=bC
theorem Qo:((Rows.controlListsRow.veiled==(f3.params.toList++Rows.controlListsSpec.plain.varTypes Tryz.pinned.checked.prog++f3.resultTypes.toList).any (Tryz.pinned.checked.prog.veiledRec ·)))=true:=bC
theorem Qp:(Rows.controlListsRow.veiledFits Tryz.pinned.checked.prog f3.params.toList (f3.params.toList++Rows.controlListsSpec.plain.varTypes Tryz.pinned.checked.prog++f3.resultTypes.toList))=true:=bC
theorem It:Tryz.pinned.checked.prog.funcNamed Rows.controlListsRow.func=some 3:=bC
theorem Qc:((Tryz.pinned.checked.prog.closure 3).any fun g=>(Tryz.pinned.checked.prog.funcs[g]?).any Func.goes)=false:=bC
theorem Qd:false=Rows.controlListsRow.goesBy Tryz.pinned.checked.prog:=by
 show false=(((Tryz.pinned.checked.prog.funcNamed Rows.controlListsRow.func).any Tryz.pinned.checked.prog.goes)||false);rw [It,Option.any_some];unfold Program.goes;rw [Qc,R0];simp
theorem AE{a b:Bool}(h:a=true)(k:b=true):(a&&b)=true:=by rw [h,k];rfl
theorem Iu:joinedFacts Tryz.pinned.checked.prog 3 f3 Rows.controlListsSpec Rows.controlListsRow=true:=by
 unfold joinedFacts;exact AE (AE (AE (AE (AE (AE (AE (AE (AE (AE (AE (AE (AE (AE (AE (AE (AE (AE (AE (AE (AE (AE (AE (AE (AE (AE (AE (AE (AE (AE (AE Qr JQ) R7) Qk) Qh) bC) RA) bC) R8) Qe) Qn) Qj) Qq) Qg) KJ) bC) Qf) Qs) bC) Ql) bC) bC) R9) bC) RB) R4) R1) R5) bC) bC) Qo) Qp
theorem Qi(W:World):Input.okWideB checked.prog W 3 ⟨#[],#[pH #[pF none 0 0,pF none 0 0,pF none 0 0,pF none 0 0,pF none 0 0,I_ 0,pF none 0 0,I_ 0,pF none 0 0,pF none 0 0],I_ 0],[]⟩=true:=bC
theorem KK(H:Type)(enc:TypeId×Value->H)(W:World):ChangeSpec.preB enc checked.prog f3 Rows.controlListsSpec [] false W #[pH #[pF none 0 0,pF none 0 0,pF none 0 0,pF none 0 0,pF none 0 0,I_ 0,pF none 0 0,I_ 0,pF none 0 0,pF none 0 0],I_ 0] 8=true:=bC
theorem Qm(H:Type)(enc:TypeId×Value->H)(W:World):ChangeSpec.sizedB enc checked.prog f3 Rows.controlListsSpec false W #[pH #[pF none 0 0,pF none 0 0,pF none 0 0,pF none 0 0,pF none 0 0,I_ 0,pF none 0 0,I_ 0,pF none 0 0,pF none 0 0],I_ 0] 8=true:=bC
end controlLists
end
section
open Go.RowKit Go.Shelf
attribute [local go_sem] pN Lr Ls Lp Lq
attribute [local go_sem ↓] wp_at_zero wp_at_succ
theorem vJ{r B:Cm}{b:UInt8}{e:Bool}(h:r.step b e = .ok B):B.done.length<=r.done.length+1:=by
 unfold Cm.step Cm.bareS Cm.add Cm.shutW at h
 repeat' split at h
 all_goals first | (cases h;done) | (injection h with h;subst h;simp)
theorem vK:∀ {l:List UInt8} {r r':Cm},Ek l r = .ok r'->r'.done.length<=r.done.length+l.length
 | [],r,r',h=>by injection h with h;subst h;simp
 | b::l,r,r',h=>by
  rw [Ek] at h;cases hs:r.step b false with
  | error k=>rw [hs] at h;cases h
  | ok r1=>
   rw [hs] at h;have h1:=vJ hs;have h2:=vK (l:=l) (r:=r1) h;rw [Av];omega
theorem vM{s:List UInt8}{l:List (List UInt8)}(h:Ce s = .ok l):l.length<=301:=by
 unfold Ce at h;split at h
 ·cases h
 ·split at h
  ·cases h
  ·rename_i hl _
   cases hr:Ek s .zero with
   | error k=>rw [hr] at h;cases h
   | ok r=>
    rw [hr] at h;simp only [Except.bind] at h;cases hs:r.step 0 true with
    | error k=>rw [hs] at h;cases h
    | ok r1=>
     rw [hs] at h;injection h with h
     subst h;have h1:=vK hr;have h2:=vJ hs;simp only [Cm.zero,D4] at h1;omega
end
section
open Go.RowKit Go.Shelf
theorem Up{u:ByteArray}{l:List (List UInt8)}(h:Ce u.data.toList = .ok l):u.size<=300:=by
 unfold Ce at h;split at h
 ·cases h
 ·rename_i hl
  have:u.size=u.data.toList.length:=bA;omega
end
section
open Go.RowKit Go.Shelf
attribute [local go_sem] pN Lr Ls Lp Lq
attribute [local go_sem ↓] wp_at_zero wp_at_succ
theorem Kv.fromk_{w:World}{g off c:Nat}{xs:List ByteArray}(h:Kv w (some (A_ g off)) c xs)(k:Nat)(hk:k<=xs.length)(h0:0<xs.length):Kv w (if c=k then some (A_ g off) else some (A_ g (off+k))) (c - k) (xs.drop k):=by
 by_cases e:c=k
 ·rw [if_pos e,AI (by have:=h.le;omega)]
  exact⟨Ba _,(fun e=>by cases e),fun h=>absurd h bA⟩
 rw [if_neg e];obtain⟨B,off',ha,hg,hat⟩:=h.at_ h0;obtain⟨rfl,rfl⟩:g=B/\off=off':=by injection ha with e;injection e with e1 e2 _;exact⟨e1,e2⟩
 refine⟨by rw [B1];have:=h.le;omega,(fun e=>by cases e),fun _=>⟨g,off+k,rfl,hg,fun i hi j u hj=>?_⟩⟩;rw [B1] at hi;have:=hat (k+i) bB j u (by rw [List.getElem_drop] at hj;exact hj);rw [show off+k+i*1+j=off+(k+i)*1+j by omega];exact this
theorem uI(m:Nat)(h1:1<=m)(h3:m<=3):(⟨#[48,49,50,51,52,53,54,55,56,57]⟩:ByteArray).extract m (m+1)=str (qD m):=by
 have h:m=1\/m=2\/m=3:=bB;rcases h with rfl | rfl | rfl<;>(show _=_;kernel_rfl)
theorem uK(k:Nat)(h:k<12):(⟨#[48,49,50,51,52,53,54,55,56,57,97,98,99,100,101,102]⟩:ByteArray).extract (k % 10) (k % 10+1)=str (qD k):=by
 have h:k=0\/k=1\/k=2\/k=3\/k=4\/k=5\/k=6\/k=7\/k=8\/k=9\/k=10\/k=11:=bB;rcases h with rfl | rfl | rfl | rfl | rfl | rfl | rfl | rfl | rfl | rfl | rfl | rfl<;>(show _=_;kernel_rfl)
theorem sC(a:Array UInt8):(⟨a⟩:ByteArray)=str a.toList:=by simp [str]
theorem sH(k:Nat):(qD k).length=1:=rfl
theorem vO(a b:ByteArray)(n m:Nat){k:Nat}(ha:a.size<=n)(hk:b.size=k)(hm:k<=m:=by decide)(h:n+m<=1000:=by decide):∃y,a++b=y/\y.size<=n+m/\¬9223372036854775807<a.size+k:=⟨_,rfl,by rw [ByteArray.size_append];omega,by omega⟩
theorem vL(c:BN):(MU c).reg.l.length<=8:=by
 show((c.reg.l.take 8).map LZ).length<=8;rw [Bd,Ax];omega
theorem tD{l:List (List UInt8)}{k:Nat}{z:ByteArray}(h:(l.map Dk)[k]? = some z)(hg:∀y∈l,y.length<=64):z=str (l.getD k [])/\z.size<=64/\z.toList=l.getD k []:=by
 rw [qH] at h;cases he:l[k]? with
 | none=>rw [he] at h;cases h
 | some y=>
  rw [he] at h;simp only [Option.map_some,Option.some.injEq] at h;subst h;have hy:=CD he;have hd:l.getD k []=y:=by rw [AO,he];rfl
  rw [hd];exact⟨rfl,by have:=hg y hy;show y.toArray.size<=64;simpa using this,by rw [C9];simp [Dk]⟩
theorem uB{w:World}{B n E:Nat}{e:TypeId}{v:Value}{xs:List Value}(h:w.ownsRow B e E v n xs):∀g,v.ownBlock=some g->∃cs fz,w.heap[g]? = some (.cells cs e fz):=by
 intro g hg;rcases h.2 with⟨rfl,_⟩ | ⟨D,cap,cur,rfl,_,hc,_⟩
 ·cases hg
 ·have e1:D=g:=by simpa [EZ] using hg
  subst e1;exact⟨_,_,hc⟩
theorem uC{w:World}{B n F b:Nat}{e t:TypeId}{v:Value}{xs:List Value}{cs:Array Value}(h:w.ownsRow B e F v n xs)(hb:Blk w b t cs)(E:t≠e):∀g,v.ownBlock=some g->g≠b:=by
 intro g hg he;subst he;obtain⟨D,fz,hc⟩:=uB h g hg;have:=(show w.heap[g]? = _ from hb).symm.trans hc;injection this with this
 injection this with _ h3 _
 exact E h3
theorem uP(s:ByteArray):Dk s.data.toList=s:=by simp [Dk]
theorem tZ{A:List (List UInt8)}{N:List ByteArray}(h:(A==N.map fun s=>s.data.toList)=true):A.map Dk=N:=by
 rw [eq_of_beq h,List.map_map];exact(List.map_congr_left (fun s _=>uP s)).trans (List.map_id _)
theorem rE(v0:CV)(k0:BN)(count:Int)(w:World)(hA:GY w v0 k0)(hE:Gu w):
  Calls prog 3 #[.agg (ctlA v0),.int .i64 count] w fun r w'=>r = .returned (.bool true)/\Aa [] w w':=by
 rw [show ctlA v0=(C_ v0) from rfl];obtain⟨c,hc⟩:=eX (MU k0);have HC:=lH hc;have HA:=lH hA;have HE:Hi (∀W,Aa [] w W->Gu W):=lH fun W hk=>hE.keeps hk;obtain⟨w0,hw0⟩:=eX (w.alloc (.cells (C_ v0) 36));have HK0:Hi (Aa [] w w0):=lH (by rw [<- hw0];exact(Aa.refl [] w).alloc _);have hb:Blk w0 w 36 (ctlA v0):=by rw [<- hw0];exact Blk.new w _ _
 obtain⟨bc,hbc⟩:=eX w.heap.size;have HLc:Hi (w.heap.size<=bc):=lH (Nat.le_of_eq hbc);rw [hbc] at hb;have n9:Hi (Blk w0 bc 36 (ctlA v0)):=lH hb;clear hA hE hb hc;go_enter func3,ntmps3;go_wp2_with fail;try rw [hbc]
 clear hw0 hbc;refine(GD w0 (HE.o _ HK0.o)).mono ?_;rintro r w1 ⟨rfl,hk⟩;have HK1:=lH (HK0.o.trans hk);have g8:=lH (n9.o.keeps hk bA);clear hk HK0 n9;have HG:=lH (Blk.rng (cs:=(ctlA v0)) g8.o 0 (ctlA v0) (fun j x hx=>by rw [Nat.zero_add];simpa using hx));go_wp2_with (refine Ay bD 36 _ bD bc 0 bD (ctlA v0) _ HG.o underlying36 rfl (AD _) ?_);clear HG;refine(Hm v0 k0 w HA.o w1 HK1.o).mono ?_;rw [HC.o];rintro r w2 ⟨v,rfl,hm,hn,hk⟩;have HN:Hi ((DU (fun y=>w.heap.size<=y/\y<w1.heap.size) v c)/\DW (fun y=>w.heap.size<=y/\y<w1.heap.size) v.ja v.jn):=lH hn;have HLT:Hi (bc<w1.heap.size):=lH g8.o.lt;have HM2:=lH hm;clear hn hm;have HK2:=lH (HK1.o.trans hk);have m3:=lH (g8.o.keeps hk bA);clear hk HK1 g8;go_upto_region 3 with(refine As bD 36 _ _ bD bc (ctlA v) bD bD 36 (ctlA v0) m3.o rfl (AD _) (Bc _) ?_;intro w3 hb hk)
 try simp only [Act.put]
 have HM3:=lH (HM2.o.stay HN.o.1 HN.o.2 hk gI (H9.blk m3.o bE bE));have HK3:=lH (HK2.o.own hk gJ);have f5:=lH hb;clear hb hk HK2 m3 HM2 HA;have fz:w3.frozen? (A_ bc 8)=false:=f5.o.frozen 8;have fc:w3.cell? (A_ bc 8)=some (.slice v.ja v.jn v.jc):=f5.o.cell 8;go_upto_region 4 with fail
 try simp only [Act.put]
 clear fz fc;have hb:=f5.o.set_ 8 (.slice none 0 0);have hk:=Ae w3 bc 8 (.slice none 0 0);generalize w3.setCell (A_ bc 8) (.slice none 0 0)=w4 at hb hk ⊢;have HM4:=lH (HM3.o.stay HN.o.1 HN.o.2 hk gI (H9.blk f5.o bA bA));have HK4:=lH (HK3.o.own hk gJ);have f6:=lH hb;clear hb hk HM3 HK3 f5;have fz:w4.frozen? (A_ bc 9)=false:=f6.o.frozen 9;have fc:w4.cell? (A_ bc 9)=some (.slice v.da v.dn v.dc):=f6.o.cell 9;go_upto_region 5 with fail
 try simp only [Act.put]
 clear fz fc;have hb:=f6.o.set_ 9 (.slice none 0 0);have hk:=Ae w4 bc 9 (.slice none 0 0);generalize w4.setCell (A_ bc 9) (.slice none 0 0)=w5 at hb hk ⊢;have HM5:=lH (HM4.o.stay HN.o.1 HN.o.2 hk gI (H9.blk f6.o bA bA));have HK5:=lH (HK4.o.own hk gJ);have m4:=lH hb;clear hb hk HM4 HK4 f6;obtain⟨w6,hw6⟩:=eX (w5.alloc (.cells #[.string ⟨#[97,110,110]⟩,.int .i64 3] 40));have hk:Aa [] w5 w6:=by rw [<- hw6];exact(Aa.refl [] w5).alloc _
 have hso:IE w6 (some (A_ w5 0)) 1 [⟨qN,3⟩]:=by rw [<- hw6];exact AR.one (enc:=Eg) w5 ⟨qN,3⟩ 40 (Fc _)
 obtain⟨ob,hob⟩:=eX w5.heap.size;have HOB:Hi (bc<ob):=lH (hob▸m4.o.lt);have HB6:=lH (m4.o.keeps hk bA);have HM6:=lH (HM5.o.keeps hk);have HK6:=lH (HK5.o.trans hk);rw [hob] at hso;have HSO:=lH hso;have fz:w6.frozen? (A_ bc 0)=false:=HB6.o.frozen 0;have fc:w6.cell? (A_ bc 0)=some (.slice v.oa v.on v.oc):=HB6.o.cell 0;clear hk hso m4 HM5 HK5;go_upto_region 6 with fail
 try simp only [Act.put]
 try rw [hob]
 try rw [hw6]
 clear fz fc hw6 hob;have hb:=HB6.o.set_ 0 (.slice (some (A_ ob 0)) 1 1);have hk:=Ae w6 bc 0 (.slice (some (A_ ob 0)) 1 1);generalize w6.setCell (A_ bc 0) (.slice (some (A_ ob 0)) 1 1)=w7 at hb hk ⊢;have hm:=HM6.o.stay HN.o.1 HN.o.2 hk gI (H9.blk HB6.o bA bA);have hso:=HSO.o.keepsN hk (fun _ g o e hm=>by have:=List.mem_singleton.1 hm;have:=HOB.o;injection e with e;injection e with e _ _;omega);obtain⟨v2,hv2⟩:∃y,({ v with oa:=some (A_ ob 0),on:=1,oc:=1,ja:=none,jn:=0,jc:=0,da:=none,dn:=0,dc:=0 } : CV)=y:=⟨_,rfl⟩;obtain⟨c2,hc2⟩:∃y,({ c with ops:=[⟨qN,3⟩],jobs:=[],done:=[] } : BN)=y:=⟨_,rfl⟩;have m5:Hi (Blk w7 bc 36 (ctlA v2)):=lH (by rw [<- hv2];exact hb);have e4:Hi (Cg w7 v2 c2):=lH (by rw [<- hv2,<- hc2];exact { hm with o:=hso,on:=rfl,ol:=(by show 1<=1000;decide),os:=(fun o ho=>by obtain rfl:=List.mem_singleton.1 ho;show qN.size<=maxLen;decide),j:=AR.none_,jn:=rfl,jl:=Nat.zero_le _,js:=(fun j hj=>by cases hj),d:=AR.none_,dn:=rfl,dl:=Nat.zero_le _ });have HC2:Hi (c2.ops = [⟨qN,3⟩]/\c2.jobs = []/\c2.done = []/\c2.reg.l.length<=8):=lH (by rw [<- hc2];exact⟨rfl,rfl,rfl,by rw [<- HC.o];exact vL k0⟩);have HK7:=lH (HK6.o.own hk gJ);clear hb hk hm hso hv2 hc2 HB6 HM6 HK6 HSO HOB HN HLT HC;obtain⟨x0,hx0⟩:=eX ((if count<1 then(1:Int) else count));have hx1:max count 1=x0:=by rw [<- hx0];split<;>omega
 obtain⟨m,hm⟩:∃m:Nat,(if(3:Int)<x0 then(3:Int) else x0)=(m:Int):=⟨(if(3:Int)<x0 then(3:Int) else x0).toNat,by split<;>split at hx0<;>omega⟩;have hm1:min x0 3=(m:Int):=by rw [<- hm];split<;>omega
 have HMB:Hi (1<=m/\m<=3):=lH (by split at hm<;>split at hx0<;>omega);have cc_6:w7.cell? (A_ bc 6)=some (.slice v2.pa v2.pn v2.pc):=m5.o.cell 6;obtain⟨b0,hb0⟩:=eX (decide (0<v2.pn));have HB0:=lH hb0;have hb1:decide ((v2.pn:Int)>0)=b0:=by rw [<- hb0];congr 1;exact propext ⟨fun h=>by omega,fun h=>by omega⟩
 go_upto_if 31 with fail
 clear hb1 hb0 hx0 hx1 hm hm1;go_cut [6] (fun y wd=>y = .int .i64 (EQ c2.pool.l)/\Hi (Aa [] w7 wd))
 case first=>
  cases b0 with
  | false=>
   have hl:EQ c2.pool.l=0:=by
    have h1:=of_decide_eq_false HB0.o;have h2:c2.pool.l = []:=List.eq_nil_of_length_eq_zero (by rw [<- e4.o.p.mt.len,e4.o.pn];omega);rw [h2];rfl
   go_wp2_with fail;go_meet;exact⟨by rw [hl],lH (Aa.refl _ _)⟩
  | true=>
   have h1:=of_decide_eq_true HB0.o;obtain⟨k,hk⟩:∃k,v2.pn=k+1:=⟨v2.pn - 1,by omega⟩;have hkv:k<v2.pv.length:=by rw [e4.o.pn];omega
   have hkl:k<c2.pool.l.length:=by rw [<- e4.o.p.mt.len];exact hkv
   obtain⟨g,off,cs,fz,ha,_,hat⟩:=e4.o.p.row (by rintro e;rw [e] at hkv;simp at hkv);have z2:=(hat k hkv).2.2;have hu:v2.pv[k].used=EQ c2.pool.l:=by
    rw [(e4.o.p.mt.get k hkv hkl).2.1];unfold EQ;rw [List.getLast?_eq_getElem?,<- e4.o.p.mt.len,e4.o.pn,hk,Nat.add_sub_cancel,List.getElem?_eq_getElem hkl];rfl
   rw [hu] at z2;rw [ha] at cc_6;have i1:(v2.pn:Int) - 1=(k:Int):=bB;have hpl:=e4.o.pl;have i2:wrap64 ((v2.pn:Int) - 1)=(k:Int):=by rw [i1];exact IntWalk.wrap64_in _ ⟨by omega,by omega⟩
   have i3:IntKind.i64.wrap ((v2.pn:Int) - 1)=(k:Int):=by rw [i1];exact IntWalk.i64_in _ ⟨by omega,by omega⟩
   have i4:(0:Int)<=(k:Int):=bB;have i5:(k:Int)<(v2.pn:Int):=bB;clear hu hat ha hkv hkl hk h1 i1 hpl;go_wp2_with fail;go_meet;exact⟨rfl,lH (Aa.refl _ _)⟩
 case rest=>
  obtain⟨rfl,HKD⟩:=hcut
  rename World=>w8
  have hk:=HKD.o;clear cc_6 HKD HB0;have HK8:=lH (HK7.o.trans hk);have m6:=lH (m5.o.keeps hk bA);have f8:=lH (e4.o.keeps hk);clear hk HK7 m5 e4;obtain⟨now,hnow⟩:=eX (EQ c2.pool.l);have t8:=lH hnow;rw [hnow];clear hnow;obtain⟨b,hb⟩:=eX (JY c2);have HCB:=lH hb;have HR:=Ij v2 c2 b hb w8 f8.o;clear hb;have HG:=lH (Blk.rng (cs:=(ctlA v2)) m6.o 0 (ctlA v2) (fun j x hx=>by rw [Nat.zero_add];simpa using hx));go_wp2_with (refine Ay bD 36 _ bD bc 0 bD (ctlA v2) _ HG.o underlying36 rfl (AD _) ?_);clear HG;refine HR.mono ?_;rintro r w9 ⟨rfl,hk⟩;clear HR;have HK9:=lH (HK8.o.trans hk);have e5:=lH (m6.o.keeps hk bA);have e3:=lH (f8.o.keeps hk);clear hk HK8 m6 f8;by_cases hbt:b=true;rotate_left
  ·obtain rfl:b=false:=by simpa using hbt
   go_wp2_with fail;go_ret;exact⟨rfl,HK9.o⟩
  subst hbt;have cc_5:w9.cell? (A_ bc 5)=some (.int .i64 v2.seq):=e5.o.cell 5;have cc_7:w9.cell? (A_ bc 7)=some (.int .i64 v2.nx):=e5.o.cell 7;by_cases n1:v2.seq>1000000
  ·have fn1:decide (v2.seq>1000000)=true:=decide_eq_true n1
   clear n1;go_wp2_with fail;go_ret;exact⟨rfl,HK9.o⟩
  have fn1:decide (v2.seq>1000000)=false:=decide_eq_false n1;by_cases n2:v2.nx>1000000
  ·have fn2:decide (v2.nx>1000000)=true:=decide_eq_true n2
   clear n2;go_wp2_with fail;go_ret;exact⟨rfl,HK9.o⟩
  have fn2:decide (v2.nx>1000000)=false:=decide_eq_false n2;by_cases n3:now>999999999990
  ·have fn3:decide (now>999999999990)=true:=decide_eq_true n3
   clear n3;go_wp2_with fail;go_ret;exact⟨rfl,HK9.o⟩
  have fn3:decide (now>999999999990)=false:=decide_eq_false n3;have HLL:Hi (qS m now (Bz c2.reg) 12 0 (pZ c2 0 (qX m) now).1 (pZ c2 0 (qX m) now).2 []=true):=lH (tM ((G1 c2).1 HCB.o) HC2.o.1 HC2.o.2.1 HC2.o.2.2.1 (by rw [e3.o.q];omega) (by rw [e3.o.nx];omega) t8.o.symm bB HC2.o.2.2.2 HMB.o.1 HMB.o.2);clear n1 n2 n3;have HNZ:Hi (∀x∈Bz c2.reg,x.size<=maxLen):=lH (fun x hx=>by have h:=((Mk ((G1 c2).1 HCB.o).reg).2 x hx).1;rw [Array.length_toList] at h;unfold maxLen;show x.data.size<=_;omega);have HNM:=Vr v2.r c2.reg v2.gn v2.un v2.fn v2.ln (by rw [e3.o.r.t.len];exact e3.o.l) (by have:=e3.o.r.sl;have:=e3.o.l;omega) v2.seq e3.o.q w9 e3.o.r.l e3.o.r.t;have cc_1:w9.cell? (A_ bc 1)=some (.slice v2.r.s.ga v2.gn v2.r.s.gc):=e5.o.cell 1;have cc_2:w9.cell? (A_ bc 2)=some (.slice v2.r.s.ua v2.un v2.r.s.uc):=e5.o.cell 2;have cc_3:w9.cell? (A_ bc 3)=some (.slice v2.r.s.fa v2.fn v2.r.s.fc):=e5.o.cell 3;have cc_4:w9.cell? (A_ bc 4)=some (.slice v2.r.la v2.ln v2.r.lc):=e5.o.cell 4;go_wp2_with fail;refine HNM.mono ?_;rintro r w10 ⟨na,nc,rfl,_,hst,hk⟩;have HNL:Hi ((Bz c2.reg).length=v2.ln):=lH (by unfold Bz;rw [List.length_map];exact e3.o.l);have h5:=lH (Xd hst (by rw [HNL.o];have:=e3.o.r.sl;have:=e3.o.l;omega) HNZ.o);clear hst HNM fn1 fn2 fn3 cc_1 cc_2 cc_3 cc_4 cc_5 cc_7;have m7:=lH (HK9.o.trans hk);have f9:=lH (e5.o.keeps hk bA);have e7:=lH (e3.o.keeps hk);clear hk HK9 e5 e3;have j1:(0:Int)<=(m:Int):=bB;have j2:(m:Int)+1<=10:=by have:=HMB.o;omega
  have j3:(m:Int)<=(m:Int)+1:=bB;have j4:wrap64 ((m:Int)+1)=(m:Int)+1:=IntWalk.wrap64_in _ (by have:=HMB.o;omega);have dg:=uI m HMB.o.1 HMB.o.2;have l0:(⟨#[97,110,110,32,49,32,108,105,115,116,32]⟩:ByteArray)++str (qD m)=qX m:=by rw [sC,GQ];rfl
  have s0:(str (qD m)).size=1:=by rw [Dw,sH]
  obtain⟨d,s,hd⟩:∃x1 x2,pZ c2 0 (qX m) now=(x1,x2):=⟨_,_,rfl⟩;rw [hd] at HLL;have HAK:=FH v2 c2 0 (qX m) now (by show(str _).size<=_;rw [Dw];simp [qD]) w10 (HE.o _ m7.o) e7.o;rw [hd] at HAK;clear hd;have HG:=lH (Blk.rng (cs:=(ctlA v2)) f9.o 0 (ctlA v2) (fun j x hx=>by rw [Nat.zero_add];simpa using hx));go_wp2_with (refine Ay bD 36 _ bD bc 0 bD (ctlA v2) _ HG.o underlying36 rfl (AD _) ?_);clear HG;refine HAK.mono ?_;rintro r w11 ⟨vd,rfl,hm,_,hk⟩;have g3:=lH hm;clear hm HAK l0 j1 j2 j3 j4 dg;have g9:=lH (m7.o.trans hk);have h6:=lH (f9.o.keeps hk bA);have g4:=lH (e7.o.keeps hk);have g5:=lH (h5.o.keeps hk);clear hk m7 f9 e7 h5;have t9:=g3;have u3:=g5;have r3:Hi (Aa [] w11 w11):=lH (Aa.refl [] w11);have HK11w:=g9;go_upto_region 15 with(refine As bD 36 _ _ bD w11 (ctlA vd) bD bD 36 Hh.k (Blk.new w11 _ _) rfl (AD _) (Bc _) ?_;intro w12 hb hk)
  try simp only [Act.put]
  have HLd:Hi (w.heap.size<=w11.heap.size):=lH g9.o.size;obtain⟨bd,hbd⟩:=eX w11.heap.size;have HLz:Hi (w11.heap.size<=bd):=lH (Nat.le_of_eq hbd);replace hk:Aa [] w11 w12:=((Aa.refl [] w11).alloc _).own hk QW;rw [hbd] at hb HLd ⊢;clear hbd;have v9:=lH (g9.o.trans hk);have v6:=lH (h6.o.keeps hk bA);have u4:=lH (g4.o.keeps hk);have v7:=lH (g5.o.keeps hk);have v8:=lH (g3.o.keeps hk);have r4:=lH (r3.o.trans hk);clear hk g9 h6 g4 g5 g3 r3;have r5:Hi (Blk w12 bd 36 (ctlA vd)):=lH hb;clear hb;have HKW:=HK11w;have HMD:Hi (∀W,Aa [bd] w12 W->Cg W vd d):=lH fun W hW=>t9.o.keeps (r4.o.own hW nX);go_wp2_with fail;go_loopw [10,11,12] (fun s10 s11 s12 wr=>∃(k:Nat) (t:ByteArray) (all:List (List UInt8)) (vk:CV) (ck:BN),k<=12/\s10 = .string t/\s12 = .int .i64 k/\Hi (wr.ownsRow w11 9 1 s11 (all.map Dk).length ((all.map Dk).flatMap Fd))/\Hi (all.length<=300*k)/\Hi (Blk wr bd 36 (ctlA vk))/\Hi (∀W S,(∀y∈S,y=bd\/s11.ownBlock=some y)->Aa S wr W->Cg W vk ck)/\Hi (qS m now (Bz c2.reg) (12 - k) k ck t all=true)/\Hi (Aa [] w11 wr)) (fun _ _ s12 _=>12 - (intOf s12).toNat)
  case atStart=>exact⟨0,s,[],vd,d,by omega,rfl,rfl,lH (World.ownsRow_nil _ _ _ _),lH (Nat.le_refl _),r5,lH (fun W S hS hW=>HMD.o W (hW.mono (fun y hy=>by rcases hS y hy with rfl | h;(· simp);(· simp [Value.ownBlock] at h)))),HLL,lH (r4.o)⟩
  case round=>
   obtain⟨k,t,all,vk,ck,hk12,rfl,rfl,HRO,HAL,g6,HMK,HBO,m8⟩:=hrel
   rename World=>w20
   have m9:Hi (Aa [] w w20):=lH (HKW.o.trans m8.o);have HBL:Hi (bd<w20.heap.size):=lH g6.o.lt;clear HMD HLL;by_cases hlt:k<12;rotate_left
   ·obtain rfl:k=12:=bB;have h:=HBO.o;rw [Nat.sub_self] at h;exact absurd h (by simp [qS])
   have i1:(k:Int)<12:=bB;obtain⟨m2,hm2⟩:∃y,12 - k=y+1:=⟨11 - k,by omega⟩;have HM2:Hi (12 - (k+1)=m2/\k+1<=12):=lH ⟨by omega,by omega⟩;have hB:=HBO.o;rw [hm2] at hB;unfold qS at hB;clear HBO hm2;cases hsp:Ce t.data.toList with
   | error e=>rw [hsp] at hB;cases hB
   | ok l=>
    rw [hsp] at hB;dsimp only at hB;have hg:¬(l.length<5\/l.getD 0 []≠okT.data.toList):=fun h=>by rw [if_pos h] at hB;cases hB
    rw [if_neg hg] at hB;have hl5:5<=l.length:=bB;have h0:l.getD 0 []=okT.data.toList:=Classical.byContradiction fun h=>hg (.inr h);have HSP:=rT t (by have:=Up hsp;omega) w20 (HE.o _ m9.o).s.et;unfold rL at HSP;rw [hsp] at HSP;dsimp only at HSP;have hl3:l.length<=301:=vM hsp;have HBN:=lH hB;have HH0:=lH h0;have HLB:=lH (And.intro hl5 hl3);have HGW:Hi (∀y∈l,y.length<=64):=lH fun y hy=>(NU hsp y hy).1;clear hB hg hsp hl5 hl3 h0 hlt;obtain⟨nl,hnl⟩:=eX l.length;rw [hnl] at HSP;have h3:=lH hnl;clear hnl;go_wp2_with fail;refine HSP.mono ?_;rintro r w21 ⟨la,lc,rfl,hst,hfr,hk⟩;have g7:=lH hst;have HFR:=lH hfr;have HUL:Hi (∀g,Value.ownBlock u11=some g->g<w20.heap.size):=lH fun g hg=>(HRO.o.lt g hg).2;clear hst hfr HSP;have n4:=lH (Ah HRO.o hk (fun _ _=>by simp));have u5:Hi (∀W S,(∀y∈S,y=bd\/u11.ownBlock=some y)->Aa S w21 W->Cg W vk ck):=lH fun W S hS hW=>HMK.o W S hS ((hk.mono bA).trans hW);clear HRO HMK;have x3:=lH (m9.o.trans hk);have r6:=lH (m8.o.trans hk);have h7:=lH (g6.o.keeps hk bA);clear hk m9 m8 g6;obtain⟨lg,lo,z,hla,hlg,hz,hat⟩:=g7.o.at_k (k:=0) vA;have z0:=hat 0 _ rfl;simp only [Nat.zero_mul,Nat.add_zero] at z0;have HW0:=lH (tD hz HGW.o);have f7:(z.toList==[111,107])=true:=by rw [HW0.o.2.2,HH0.o];decide
    subst hla;have i2:decide ((nl:Int)<5)=false:=decide_eq_false (by have:=HLB.o;have:=h3.o;omega);have i3:(5:Int)<=(nl:Int):=by have:=HLB.o;have:=h3.o;omega
    have i6:(0:Int)<(nl:Int):=bB;have i7:(4:Int)<(nl:Int):=bB;have i8:(3:Int)<(nl:Int):=bB;clear hat hz hlg HW0;have hs5:=(Kv.fromk_ (g7.o) 5 vA vA);obtain⟨aq,haq⟩:=eX ((if lc=5 then some ((A_ lg lo):Addr) else some (A_ lg (lo+5))));rw [haq] at hs5;obtain⟨tl,htl⟩:=eX ((l.map Dk).drop 5);have hn5:tl.length=nl - 5:=by rw [<- htl,List.length_drop,List.length_map,h3.o]
    have HTL:Hi (tl=(l.drop 5).map Dk):=lH (by rw [<- htl,List.map_drop]);rw [htl] at hs5;clear htl;obtain⟨i0,zz,hi1,hi2,hi3,hi4,hi5⟩:=Ck Gl;obtain⟨v11,w22,hrun,hrow,hgr⟩:=AR.app prog underlying41 hi1 hi2 hi3 rfl hi4 bE DY Ho n4.o r6.o.size hs5 (by rw [List.length_map,hn5];have:=HAL.o;have:=HLB.o;have:=h3.o;omega) hi5 41;rw [hn5] at hrun;have hk5:Aa (Value.ownBlock u11).toList w21 w22:=(Aa.refl _ w21).grown hgr (fun k hk=>.inl (by simp [hk]));have hk:Aa [] w11 w22:=r6.o.own hk5 (fun y hy=>AZ n4.o y hy);have n5:=lH hk;have n6:Hi (Aa [] w w22):=lH (HKW.o.trans hk);have hnb:bd∉(Value.ownBlock u11).toList:=fun hm=>uC n4.o h7.o bE bd (by simpa using hm) rfl;have e8:=lH (h7.o.keeps hk5 hnb);have hnl:lg∉(Value.ownBlock u11).toList:=fun hm=>by have h1:=HUL.o lg (by simpa using hm);have h2:=HFR.o lg lo rfl;omega
    have h8:Hi (Kv w22 (some (A_ lg lo)) lc (l.map Dk)):=lH (g7.o.keepsN hk5 (fun _ g o e=>by injection e with e;injection e with e _ _;rw [<- e];exact hnl));have r7:Hi (∀W,Aa [bd] w22 W->Cg W vk ck):=lH fun W hW=>u5.o W (bd::u11.ownBlock.toList) (fun y hy=>by rcases List.mem_cons.1 hy with rfl | hy;(· exact .inl rfl);(· exact .inr (by simpa using hy))) ((hk5.mono (fun y hy=>List.mem_cons_of_mem _ hy)).trans (hW.mono (fun y hy=>by obtain rfl:=List.mem_singleton.1 hy;exact List.mem_cons_self)));have HR2:Hi (w22.ownsRow w11 9 1 v11 ((all++l.drop 5).map Dk).length (((all++l.drop 5).map Dk).flatMap Fd)):=lH (by rw [List.map_append,<- HTL.o];simpa using hrow);have r8:Hi ((all++l.drop 5).length<=300*(k+1)):=lH (by rw [List.length_append,List.length_drop];have:=HAL.o;have:=HLB.o;omega);clear hrow hgr hs5 hk5 hnb hnl hn5 hi1 hi2 hi3 hi4 hi5 hk;obtain⟨lgj,loj,z3,hej,_,hzj,hatj⟩:=h8.o.at_k (k:=3) vA;obtain⟨rfl,rfl⟩:lg=lgj/\lo=loj:=by injection hej with e;injection e with e1 e2 _;exact⟨e1,e2⟩
    have y3:=hatj 0 _ rfl;rw [Nat.mul_one,Nat.add_zero] at y3;have HW3:=lH (tD hzj HGW.o);clear hej hzj hatj;obtain⟨lgj,loj,z4,hej,_,hzj,hatj⟩:=h8.o.at_k (k:=4) vA;obtain⟨rfl,rfl⟩:lg=lgj/\lo=loj:=by injection hej with e;injection e with e1 e2 _;exact⟨e1,e2⟩
    have y4:=hatj 0 _ rfl;rw [Nat.mul_one,Nat.add_zero] at y4;have HW4:=lH (tD hzj HGW.o);clear hej hzj hatj;have HNE:Hi (lg∉[bd]):=lH (fun hm=>by have h1:lg=bd:=List.mem_singleton.1 hm;have:=HBL.o;have:=HFR.o lg lo rfl;omega);have HB9:=HBN.o;by_cases hend:l.getD 4 []=qV.data.toList
    ·rw [if_pos hend] at HB9
     have f4:(z4.toList==[101,110,100])=true:=by rw [HW4.o.2.2,hend];decide
     have e9:=tZ HB9;obtain⟨aa,ac,hv9,_,_⟩:=AR.of_row DY HR2.o;subst hv9;obtain⟨na9,hna9⟩:=eX (((all++l.drop 5).map Dk).length);have hown:=HR2.o;have HV9:=lH (Xd hown (by rw [List.length_map];have:=r8.o;have:=HM2.o;omega) (by rw [e9];exact HNZ.o));rw [hna9] at hrun;have HSM:=sO aa na ac nc _ _ na9 v2.ln hna9 HNL.o true (by simpa using e9) w22 HV9.o (u3.o.keeps n5.o);clear HB9 e9 hna9 hown;go_wp2_with (at_builtin;refine Au _ rfl _ _ 41 rfl rfl rfl hrun ?_);refine HSM.mono ?_;rintro r w23 ⟨rfl,hk⟩;go_wp2_with fail;go_ret;exact⟨rfl,n6.o.trans hk⟩
    rw [if_neg hend] at HB9;have f4:(z4.toList==[101,110,100])=false:=by rw [HW4.o.2.2];exact beq_eq_false_iff_ne.2 hend
    clear hend HBN;obtain⟨r0,hr0⟩:=eX (k % 10);have j1:(0:Int)<=(r0:Int):=bB;have j2:(r0:Int)+1<=16:=bB;have j3:(r0:Int)<=(r0:Int)+1:=bB;have j4:wrap64 ((r0:Int)+1)=(r0:Int)+1:=IntWalk.wrap64_in _ bB;have j5:Int.tmod (k:Int) 10=(r0:Int):=by rw [<- hr0,Int.tmod_eq_emod_of_nonneg (Int.natCast_nonneg k)];omega
    have hx:=uK k bB;rw [hr0] at hx;have ik:wrap64 ((k:Int)+1)=(k:Int)+1:=IntWalk.wrap64_in _ bB;have sk:(str (qD k)).size=1:=by rw [Dw,sH]
    obtain⟨p0,hp0,sp0,_⟩:=vO _ (str (qD k)) 5 1 (show((⟨#[97,110,110,32,50]⟩:ByteArray)).size<=5 by decide) rfl (Nat.le_of_eq sk);have bp0:¬9223372036854775807<5+(str (qD k)).size:=by rw [sk];decide
    obtain⟨p1,hp1,sp1,bp1⟩:=vO (k:=9) p0 (⟨#[32,99,114,101,97,116,101,32,120]⟩:ByteArray) 6 9 sp0 rfl;obtain⟨p2,hp2,sp2,bp2⟩:=vO p1 (str (qD k)) 15 1 sp1 rfl (Nat.le_of_eq sk);obtain⟨p3,hp3,sp3,bp3⟩:=vO (k:=4) p2 (⟨#[32,107,32,57]⟩:ByteArray) 16 4 sp2 rfl;have ep:p3=qM k:=by rw [<- hp3,<- hp2,<- hp1,<- hp0];simp only [sC,GQ];simp [qM,qU,List.append_assoc]
    obtain⟨d1,u1,hd1⟩:∃x1 x2,pZ ck 1 (qM k) now=(x1,x2):=⟨_,_,rfl⟩;rw [hd1] at HB9;dsimp only at HB9;have r9:=r7.o w22 ((Aa.refl [] w22).mono bA);have HAK:=FH vk ck 1 (qM k) now (by rw [<- ep];have:=sp3;omega) w22 (HE.o _ n6.o) r9;rw [hd1] at HAK;clear hd1 r9;have HG:=lH (Blk.rng (cs:=(ctlA vk)) e8.o 0 (ctlA vk) (fun j x hx=>by rw [Nat.zero_add];simpa using hx));go_wp2_with (first | (at_builtin;refine Au _ rfl _ _ 41 rfl rfl rfl hrun ?_) | refine Ay bD 36 _ bD bd 0 bD (ctlA vk) _ HG.o underlying36 rfl (AD _) ?_);clear HG;have t3:=HR2;refine HAK.mono ?_;rintro r w23 ⟨v1,rfl,hm,hn,hk⟩;have h9:=lH hm;have n7:Hi (Fo w22 v1 d1/\bd<w22.heap.size):=lH ⟨hn,e8.o.lt⟩;have n8:=lH (Ah t3.o hk (fun _ _=>by simp));have f3:=lH (e8.o.keeps hk bA);have t4:=lH (n5.o.trans hk);have y3':=hk.cellsV _ _ y3;have y4':=hk.cellsV _ _ y4;clear hm hn hk HAK t3 e8 n5 n6 y3 y4 r7;go_upto_region 27 with((with_reducible show wpList _ _ _ (_::_) _ _);refine As bD 36 _ _ bD bd (ctlA v1) bD bD 36 (ctlA vk) f3.o rfl (AD _) (Bc _) ?_;intro w24 hb hk)
    try simp only [Act.put]
    have u6:=lH (h9.o.put n7.o.1 n7.o.2 f3.o bE bE hk);have t5:=lH (Ah n8.o hk (fun g hg hm=>uC n8.o f3.o bE g hg (List.mem_singleton.1 hm)));have e6:Hi (Blk w24 bd 36 (ctlA v1)):=lH hb;have t6:=lH (t4.o.own hk nX);have u7:Hi (Aa [] w w24):=lH (HKW.o.trans t6.o);have y3:=(hk.cell (p:=A_ lg (lo+3)) (World.block_lt_of_cell? _ _ y3') HNE.o).trans y3';have y4:=(hk.cell (p:=A_ lg (lo+4)) (World.block_lt_of_cell? _ _ y4') HNE.o).trans y4';clear hb hk y3' y4' h9 n8 f3 t4;obtain⟨q0,hq0,sq0,_⟩:=vO _ (str (qD k)) 5 1 (show((⟨#[97,110,110,32,51]⟩:ByteArray)).size<=5 by decide) sk;have bq0:¬9223372036854775807<5+(str (qD k)).size:=by rw [sk];decide
    obtain⟨q1,hq1,sq1,bq1⟩:=vO (k:=6) q0 (⟨#[32,108,105,115,116,32]⟩:ByteArray) 6 6 sq0 rfl;obtain⟨q2,hq2,sq2,bq2⟩:=vO q1 (str (qD m)) 12 1 sq1 s0;obtain⟨q3,hq3,sq3,bq3⟩:=vO (k:=1) q2 (⟨#[32]⟩:ByteArray) 13 1 sq2 rfl;obtain⟨q4,hq4,sq4,bq4⟩:=vO q3 (z3) 14 64 sq3 rfl HW3.o.2.1;obtain⟨q5,hq5,sq5,bq5⟩:=vO (k:=1) q4 (⟨#[32]⟩:ByteArray) 78 1 sq4 rfl;obtain⟨q6,hq6,sq6,bq6⟩:=vO q5 (z4) 79 64 sq5 rfl HW4.o.2.1;have eq:q6=qU k m (l.getD 3 []) (l.getD 4 []):=by rw [<- hq6,<- hq5,<- hq4,<- hq3,<- hq2,<- hq1,<- hq0];rw [HW3.o.1,HW4.o.1];simp only [sC,GQ];simp [qM,qU,List.append_assoc]
    obtain⟨d2,u2,hd2⟩:∃x1 x2,pZ d1 2 (qU k m (l.getD 3 []) (l.getD 4 [])) now=(x1,x2):=⟨_,_,rfl⟩;rw [hd2] at HB9;dsimp only at HB9;have HRQ:Hi (∀W,Aa [] w24 W->W.rangeAt bd 0 (ctlA v1).toList):=lH fun W hk=>Blk.rng (cs:=(ctlA v1)) (e6.o.keeps hk bA) 0 (ctlA v1) (fun j x hx=>by rw [Nat.zero_add];simpa using hx);have HAQ:Hi (∀W,Aa [] w24 W->Calls prog 10 #[.agg (C_ v1),.int .i64 2,.string q6,.int .i64 now] W (Xw W (d2,u2))):=lH fun W hk=>by have h:=FH v1 d1 2 (qU k m (l.getD 3 []) (l.getD 4 [])) now (by rw [<- eq];have:=sq6;omega) W (HE.o _ (u7.o.trans hk)) (u6.o.keeps hk);rw [hd2,<- eq] at h;exact h
    have u8:Hi (qS m now (Bz c2.reg) (12 - (k+1)) (k+1) d2 u2 (all++l.drop 5)=true):=lH (by rw [HM2.o.1];exact HB9);clear ep eq hd2 HB9 n7 hp0 hp1 hp2 hp3 sp0 sp1 sp2 sp3 bp0 bp1 bp2 bp3;have yb:=World.block_lt_of_cell? _ _ y3;dsimp only at yb;refine C8 (b:=21) (S:=(Aa [] w24)) bC vN (fun hHeld=>?_);refine tQ 0 ?_ (hy:=by(intro wS hSw;refine(EO (P:=prog) 36 _ bD bd 0 bD (ctlA v1) _ (HRQ.o wS hSw) underlying36 rfl (AD _)).trans ?_;with_reducible rfl));refine tK 1 ?_;refine tK 2 ?_;refine tK 3 ?_;refine tK 4 ?_;refine tK 5 ?_;refine tK 6 ?_;refine tK 7 ?_;refine tK 8 ?_;refine tK 9 ?_;refine tK 10 ?_;refine tK 11 ?_;refine tK 12 ?_;refine tK 13 ?_;refine tK 14 ?_;refine tK 15 ?_;refine tK 16 ?_;refine tC 17 fun K hK=>?_;go_simp
    (refine(HAQ.o _ hHeld).mono ?_;rintro er w25 ⟨v2',rfl,hm,hn,hk25⟩;have h4:=lH (hn.down hHeld.size);have hk25':=hHeld.trans hk25;have u9:=lH hm;clear hm hn hk25)
    (try clear rH);refine tP hK vN fun rH hHeld=>?_;clear hK K
    refine tK 18 ?_;refine tK 19 ?_;refine I5 (rs:=[20,21]) bC bA ?_;refine Dm.cons rfl bE (fun K hK=>?_) ?_
    rotate_left;refine Dm.turn rfl (fun K hK=>?_) ?_;rotate_left;exact Dm.nil
    go_simp
    (try clear rH);refine tP hK vN fun rH hHeld=>?_;clear hK K
    refine tS fun K hK=>?_
    (refine DT 36 _ _ bD bd (ctlA v2') bD bD 36 (ctlA v1) (e6.o.keeps hk25' bA) rfl (AD _) (Bc _) ?_;intro wS HRB hkS)
    (try clear rH);(try clear hHeld);refine tT hK fun hHeld=>?_;clear hK K
    refine rQ 22 ?_;refine wpAnyH_done bC ?_ _
    rotate_left
    (refine DT 36 _ _ bD bd (ctlA v2') bD bD 36 (ctlA v1) (e6.o.keeps hk25' bA) rfl (AD _) (Bc _) ?_;intro wS HRB hkS)
    (try clear rH);(try clear hHeld);refine tT hK fun hHeld=>?_;clear hK K
    refine rQ 20 ?_;refine rQ 22 ?_;refine wpAnyH_done bC ?_ _
    all_goals (have hb25:=e6.o.keeps hk25' bA;have t7:=Ah t5.o hk25' (fun _ _=>by simp);have HRR:=lH (Ah t7 hkS (fun g hg hm=>uC t7 hb25 bE g hg (List.mem_singleton.1 hm)));have HZZ:=lH ((t6.o.trans hk25').own hkS nX);have v3:=lH (u9.o.put h4.o e6.o.lt hb25 bE bE hkS);have v4:Hi (∀W S,(∀y∈S,y=bd\/v11.ownBlock=some y)->Aa S wS W->Cg W v2' d2):=lH (fun W S hS hW=>v3.o.far h4.o.1 h4.o.2.1 h4.o.2.2 hW (fun y hy=>(hS y hy).elim (fun e=>by rw [e];exact⟨e6.o.lt,_,_,_,HRB,by decide⟩) (fun h=>by obtain⟨cs,fz,hc⟩:=uB HRR.o y h;exact⟨(t5.o.lt y h).2,cs,_,fz,hc,by decide⟩)));have v5:=lH HRB;clear HRB hkS;go_wp2_with fail;go_roundw;(case rel=>exact⟨k+1,u2,all++l.drop 5,v2',d2,HM2.o.2,rfl,by go_num,HRR,r8,v5,v4,u8,HZZ⟩);(case measure=>(have h:=Fu ik HM2.o.2;first | exact h | (rw [ik] at h;exact h))))
end
section
open Go.RowKit
namespace controlLists
open Go.ChangeShapes Go.WideShapes Go.ChangeAt
open Go.ChangeMaps (open_string)
theorem lifted(os:Os)(D:os.Started)(H:Type)(enc:TypeId×Value->H):
  ReturnsInHanded {} checked os 3 .any (fun w args=>(Rows.controlListsSpec.pre enc prog f3 [] false w args/\laidMetH prog En w)/\sizedMet enc prog f3 (OpenSpec.ofChange Rows.controlListsSpec) false w args)
   (Rows.controlListsSpec.post enc prog f3 false true false false):=by
 refine FO (C:=checked) (X:=fun w _=>laidMetH prog En w) (fun _ _ _ hh h=>h.of_heap hh) own D bC func3
  (ChangeSpec.witness_shaped (enc:=enc) (C:=checked) (os:=os) (X:=fun w _=>laidMetH prog En w) false (World.doorLaid prog 400 os) #[.agg Hh.k,I_ 0] 8 rfl (FT os _) (Qi _) (KK H enc _) (Qm H enc _) (Jh os _)) ?_
 intro W F args Y gs G E hW hL O;have B:∀(j:Nat) t v,f3.params[j]? = some t->args[j]? = some v->Value.okWide prog W .any F t v:=E;have M:=hW;obtain⟨p,q,J,hV,rfl,ae,ag⟩:=hW;have hA:DataW.TrodAll enc prog W 0 (fun _=>true) true f3.params.toList args.toList Y p:=J;rw [params3] at hA B;obtain⟨v0,aj,d0,ab,p0,q0,N,rfl,rfl,h0,r0⟩:=trodAll_cons hA;obtain⟨v1,ak,d1,ad,p1,q1,rfl,rfl,rfl,h1,r1⟩:=trodAll_cons r0;obtain⟨rfl,rfl,rfl⟩:=trodAll_nil r1;obtain rfl:args=#[v0,v1]:=by cases args;simp_all
 obtain⟨rfl,rfl⟩:=trodVars_none hV;obtain⟨u0,U,rfl,w0⟩:=Jp (B 0 36 v0 rfl rfl) h0;obtain⟨T,rfl,rfl,rfl,w1⟩:=open_int underlying3 (B 1 3 v1 rfl rfl) h1;refine(rE u0 U T W w0 (KI hL O)).mono fun e W' ⟨he,hk⟩=>?_;subst he;exact⟨_,rfl,Jn JQ kL rfl rfl underlying4 M (hk.below (Aw _) bA) ⟨rfl,rfl,rfl⟩⟩
theorem Q2:Rows.controlListsRow.holds Tryz.pinned (OpenSpec.ofChange Rows.controlListsSpec):=
 OpenClaim.holds_of_wide 3 f3 rfl rfl rfl rfl rfl rfl rfl ⟨rfl,rfl,rfl,rfl,rfl⟩ rfl rfl rfl rfl rfl It func3 Iu
  (of_decide_eq_true bC) kM
  (fun os started H enc _=>lifted os started H enc)
theorem proved:Rows.ControlListsCardSaid:=
 Claim7.holds_tied_plain_at .later [] [.data,.data,.data,.handle,.sentinel,.sentinel,.sentinel,.sentinel,.sentinel,.sentinel,.sentinel,.sentinel,.data,.sentinel,.sentinel,.sentinel] true (true, "dd7f32c1959a76bf46b3062965ebd43ad50527f473b9a7f2776f8a1a0e13ef81") true
  Q2 (fun _ h=>by cases h) bC (fun _ h=>by cases h) controlLists_row_tie rfl ⟨rfl,rfl⟩ R6 rfl
  (fun f fn hf hfn=>by
   obtain rfl:f=3:=Option.some.inj (It.symm.trans hf) |>.symm;obtain rfl:fn=f3:=(Option.some.inj (func3.symm.trans hfn)).symm;exact⟨R3,fun j t ht=>by
    rw [params3] at ht;have hm:t∈[36,3]:=by simpa using Array.mem_of_getElem? ht
    have hall:([36,3].all fun u=>!prog.wantsStandIn u)=true:=bC;exact(show prog.wantsStandIn t=false by simpa using Bm.1 hall t hm)⟩)
  Qd
end controlLists
end
end Go.Proofs.YtncebikgoleolaaGreatDoor
