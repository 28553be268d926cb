/- Steps. -/
import Derived.Test.YtncebikgoleolaaGreatDoorKag
import Derived.Deep.Slices
import Derived.Deep.DeepCutAuto
set_option maxRecDepth 100000
set_option maxHeartbeats 8000000
set_option linter.all false
namespace Go.Proofs.YtncebikgoleolaaGreatDoor
open Tryz
open _root_.And renaming intro→Bl
open _root_.Array renaming getElem?_eq_some_iff→Ai,getElem?_setIfInBounds→Bj
open _root_.Bool renaming and_eq_true→Af
open Builtin renaming copy_→E3
open Ending renaming returned→pJ
open _root_.Int renaming toNat_natCast→pW
open IntKind renaming i64→pK
open _root_.List renaming append_assoc→CC,cons_append→AL,getElem?_eq_getElem→Aq,getElem?_map→qH,getElem?_take→Dh,length_append→Al,length_cons→Av,length_nil→D4,length_singleton→Bp,map_append→pO,mem_cons→Ac,nil_append→BH,not_mem_nil→Ab,set_cons_succ→AB,take_of_length_le→Ak,take_succ_eq_append_getElem→BJ
open _root_.Nat renaming add_assoc→EA,add_zero→AT,le_refl→Aw,le_trans→A8,min_eq_left→DE,mul_one→pR,zero_add→AW,zero_le→Ba
open Oper renaming semAt_some→pN
open _root_.UInt8 renaming toNat_inj→DX
open Value renaming agg→pH,bool→pI,int→pE,pointer→pG,slice→pF,string→Dz
section
open Go.RowKit Go.Shelf
attribute [local go_sem] pN Lr Ls Lp Lq UC UB QY jT jS pB pA XS XT
attribute [local go_sem ↓] wp_at_zero wp_at_succ
def qB(b:UInt8):Bool:=b==92||b==34
theorem OT:∀(l:List UInt8) (b:UInt8),CM (l++[b])=CM l++(if b=34 then [92,34] else if b=92 then [92,92] else [b])
 | [],b=>by simp only [BH,CM]
 | x::l,b=>by
  rw [AL,CM,CM,OT l b];split<;>(try split)<;>(try split)<;>(try split)<;>simp
theorem Hp:∀l:List UInt8,(CM l).length=l.length+l.countP qB
 | []=>rfl
 | x::l=>by
  rw [CM,List.countP_cons,Av];have:=Hp l;by_cases h1:x=34
  ·subst h1;simp [qB];omega
  ·by_cases h2:x=92
   ·subst h2;simp [qB];omega
   ·rw [if_neg h1,if_neg h2,Av,if_neg (by simp [qB,h1,h2])];omega
theorem OS:∀l:List UInt8,l.countP qB=0->CM l=l
 | [],_=>rfl
 | x::l,h=>by
  rw [List.countP_cons] at h;have h0:¬qB x=true:=by intro hx;rw [if_pos hx] at h;omega
  have h1:¬x=34:=by rintro rfl;exact h0 rfl
  have h2:¬x=92:=by rintro rfl;exact h0 rfl
  rw [CM,if_neg h1,if_neg h2,OS l bB]
theorem Sw:∀l:List UInt8,l.countP qB=l.count 92+l.count 34
 | []=>rfl
 | x::l=>by
  rw [List.countP_cons,List.count_cons,List.count_cons,Sw l];by_cases h1:x=34
  ·subst h1;simp [qB];omega
  ·by_cases h2:x=92
   ·subst h2;simp [qB];omega
   ·simp [qB,h1,h2]
theorem MK(a b t:Value)(i:Nat)(h1:i≠92)(h2:i≠34)(h3:i<256):(FM a b t)[i]? = some (pF none 0 0):=by
 have:i<257:=bB;simp only [FM,Bj];rw [if_neg bB,if_neg bB,if_neg bB,z257,Array.getElem?_replicate,if_pos this]
theorem P6(s:ByteArray)(k:Nat)(hk:k<s.size):s.data.toList.take (k+1)=s.data.toList.take k++[s[k]'hk]:=by
 rw [BJ (by simpa using hk)];rfl
theorem OL(w:World)(g j N q c:Nat)(cur:Array Value)(hb:Blk w g 5 cur)(hN:cur.size=N)(hj:j+2<=N)(x y:Int)(hx:w.cell? (A_ q 0)=some (.int .u8 x))(hy:w.cell? (A_ q 1)=some (.int .u8 y))(B:TypeId):
  (E3 #[166,166] B #[pF (some (A_ g j)) (N - j) (N - j),pF (some (A_ q 0)) 2 c]).run prog w = .ok (goInt 2) ((w.setCell (A_ g j) (.int .u8 x)).setCell (A_ g (j+1)) (.int .u8 y)):=by
 refine run_copy_cells (P:=prog) w 166 166 B 5 g j (N - j) (N - j) (A_ q 0) 2 c [.int .u8 x,.int .u8 y] underlying166 bC ?_ ?_ ?_ (fun i hi=>hb.frozen _) ?_
 ·have:Nat.min 2 (N - j)=2:=DE bB
  simp [this]
 ·intro i v hv
  rw [BR,AW]
  match i,hv with
  | 0,hv=>injection hv with hv;subst hv;exact hx
  | 1,hv=>injection hv with hv;subst hv;exact hy
  | i+2,hv=>simp at hv
 ·intro i hi
  simp only [Av,D4] at hi;rw [hb.cell,Array.getElem?_eq_getElem bB];rfl
 ·intro v hv
  simp only [Ac,Ab,or_false] at hv;rcases hv with rfl | rfl<;>rfl
def oA(b:UInt8):Value:=.int .u8 (b.toNat:Int)
def MD(wr:World)(g N:Nat)(l:List UInt8):Prop:=∃cur:Array Value,Blk wr g 5 cur/\cur.size=N/\cur.toList.take l.length=l.map oA/\l.length<=N
theorem S7{α:Type}(v:α):∀(l:List α) (o:Nat),o<l.length->(l.set o v).take (o+1)=l.take o++[v]
 | [],_,h=>by simp at h
 | x::l,0,_=>by simp
 | x::l,o+1,h=>by rw [AB,List.take_succ_cons,S7 v l o bK];rfl
theorem MD.put{wr:World}{g N:Nat}{l:List UInt8}(h:MD wr g N l)(b:UInt8)(hN:l.length<N):MD (wr.setCell (A_ g l.length) (oA b)) g N (l++[b]):=by
 obtain⟨cur,h1,h2,h3,h4⟩:=h;refine⟨_,h1.set_ _ _,by simpa using h2,?_,by simp;omega⟩;rw [Al,Bp,Array.toList_setIfInBounds,S7 _ _ _ (by simpa [h2] using hN),h3,pO];rfl
theorem MD.drew{wr:World}{g N:Nat}{l:List UInt8}(h:MD wr g N l):MD wr.drew g N l:=h
theorem On(aa:∀(s:ByteArray) (c:UInt8) (w:World),Calls prog 385 #[Dz s,Dz ⟨#[c]⟩] w fun e w'=>e = pJ (I_ (s.data.toList.count c:Nat))/\w'=w)
 (bb:Nat)(s:ByteArray)(hs:s.size<=1000)(w:World)(h:LQ w bb):
  Calls prog 383 #[pG (some (A_ bb 0)),Dz s] w fun e w'=>e = pJ (Dz ⟨(CM s.data.toList).toArray⟩)/\Aa [] w w':=by
 obtain⟨a,b,t,c,hb,X,Y,C,fr,ht,ae,af⟩:=h;have q:=hb.rl;have t0:=(cell_of_row w t 0 C _ fr ht).trans ae;have t1:=(cell_of_row w t 1 C _ fr ht).trans af;have tl:t<w.heap.size:=(Ai.1 ht).1;obtain⟨qa,ca,rfl,la,a0,a1⟩:=X.cells;obtain⟨qb,cb,rfl,lb,b0,b1⟩:=Y.cells;obtain⟨L,hL⟩:=eX s.data.toList;have am:L.length=s.size:=by rw [<- hL];simp
 obtain⟨P,hP⟩:=eX (L.countP qB);have bh:P<=s.size:=by rw [<- hP,<- am];exact List.countP_le_length
 have HF:=lH (Bl hb (Bl ht (Bl ae af)));have HA:=lH (Bl X Y);clear hb ht ae af X Y;go_enter func383,ntmps383;go_upto_region 2 with fail
 go_cut [6] (fun y wr=>y = pI false/\w=wr)
 case first=>
  go_wp2_with fail;go_meet;exact⟨rfl,rfl⟩
 obtain⟨rfl,rfl⟩:=hcut;go_step;go_step;go_cut [5,6] (fun n y wr=>n = I_ ((s.size+P:Nat):Int)/\y = pI (decide (0<P))/\Hi (Aa [] w wr))
 case first=>
  by_cases h16:(16:Int)<=(s.size:Int)
  ·have HC:=lH (aa s)
   rw [hL] at HC;clear aa hL;obtain⟨x,hx⟩:=eX (L.count 92);obtain⟨y,hy⟩:=eX (L.count 34);have au:x+y=P:=by rw [<- hx,<- hy,<- hP,Sw]
   go_wp2_with fail;go_loopw [32,5,6] (fun i n z wr=>(i = I_ 0/\n = I_ s.size/\z = pI false/\Hi (Aa [] w wr))\/(i = I_ 1/\n = I_ ((s.size+x:Nat):Int)/\z = pI (decide (0<x))/\Hi (Aa [] w wr))\/(i = I_ 2/\n = I_ ((s.size+x+y:Nat):Int)/\z = pI (decide (0<x)||decide (0<y))/\Hi (Aa [] w wr))) (fun i _ _ _=>(2 - intOf i).toNat)
   case atStart=>exact .inl ⟨rfl,rfl,rfl,lH (Aa.refl [] w)⟩
   case round=>
    obtain⟨rfl,rfl,rfl,HK⟩ | ⟨rfl,rfl,rfl,HK⟩ | ⟨rfl,rfl,rfl,HK⟩:=hrel
    ·have kr:=HK.o.rl
     have D:=HC.o 92 wr;rw [hx] at D;by_cases h0:x=0
     ·subst h0
      go_wp2_with (with_reducible refine D.mono ?_;rintro e w' ⟨rfl,rfl⟩);go_roundw;case rel=>exact .inr (.inl ⟨rfl,by go_num,rfl,HK⟩)
      case measure=>simp [intOf]
     ·have h1:((x:Nat):Int) != 0:=by simpa using h0
      have ax:(((x:Nat):Int) != 0)=true:=h1;have hv:x<=s.size:=bB;go_wp2_with (with_reducible refine D.mono ?_;rintro e w' ⟨rfl,rfl⟩);go_region;go_wp2_with fail;go_roundw;case rel=>exact .inr (.inl ⟨rfl,by go_num,by simp;omega,lH HK.o.drew⟩)
      case measure=>simp [intOf]
    ·have kr:=HK.o.rl
     have D:=HC.o 34 wr;rw [hy] at D;by_cases h0:y=0
     ·subst h0
      go_wp2_with (with_reducible refine D.mono ?_;rintro e w' ⟨rfl,rfl⟩);go_roundw;case rel=>exact .inr (.inr ⟨rfl,by go_num,by simp,HK⟩)
      case measure=>simp [intOf]
     ·have h1:((y:Nat):Int) != 0:=by simpa using h0
      have ax:(((y:Nat):Int) != 0)=true:=h1;have hv:y<=s.size:=bB;go_wp2_with (with_reducible refine D.mono ?_;rintro e w' ⟨rfl,rfl⟩);go_region;go_wp2_with fail;go_roundw;case rel=>exact .inr (.inr ⟨rfl,by go_num,by simp;omega,lH HK.o.drew⟩)
      case measure=>simp [intOf]
    ·go_wp2_with fail
     go_meet;refine⟨by rw [EA,au],?_,HK⟩;rw [<- au];by_cases h1:0<x<;>by_cases h2:0<y<;>simp [h1,h2]<;>omega
  ·go_wp2_with fail
   clear aa;go_loopw [10,5,6] (fun i n y wr=>∃k:Nat,i = I_ k/\k<=s.size/\n = I_ ((s.size+(L.take k).countP qB:Nat):Int)/\y = pI (decide (0<(L.take k).countP qB))/\w=wr) (fun i _ _ _=>s.size - (intOf i).toNat)
   case atStart=>exact⟨0,rfl,Ba _,rfl,rfl,rfl⟩
   case round=>
    obtain⟨k,rfl,hk,rfl,rfl,rfl⟩:=hrel;by_cases hlt:k<s.size
    ·obtain⟨x,hx⟩:=eX ((s[k]'hlt))
     have hsn:(L.take (k+1)).countP qB=(L.take k).countP qB+(if qB x then 1 else 0):=by
      rw [<- hL,P6 s k hlt,hx,List.countP_append,List.countP_singleton]
     obtain⟨m,hm⟩:=eX ((L.take k).countP qB);have bi:m<=k:=by rw [<- hm];exact A8 List.countP_le_length nP
     rw [hm] at hsn ⊢;have i1:(0:Int)<=(k:Int):=bB;have i2:(k:Int)<(s.size:Int):=bB;obtain⟨z,hz⟩:=eX (s.size+m);have bl:z<=2000:=bB;rw [hz];have aj:(x.toNat:Int)<256:=by have:=x.toNat_lt;omega
     have ab:=lH (Bl hsn (Bl hz hm));have HLT:=lH hlt;clear hsn hz hm hL;by_cases h92:x=92
     ·subst h92
      go_wp2_with fail;go_roundw;case rel=>
       obtain⟨h1,h2,h3⟩:=ab.o;rw [show qB 92=true from rfl,if_pos rfl] at h1;exact⟨k+1,by go_num,by omega,by rw [h1];go_num,by rw [h1];simp,trivial⟩
      case measure=>simp [intOf];omega
     ·by_cases h34:x=34
      ·subst h34
       clear h92;go_wp2_with fail;go_roundw;case rel=>
        obtain⟨h1,h2,h3⟩:=ab.o;rw [show qB 34=true from rfl,if_pos rfl] at h1;exact⟨k+1,by go_num,by omega,by rw [h1];go_num,by rw [h1];simp,trivial⟩
       case measure=>simp [intOf];omega
      ·have hq:qB x=false:=by simp [qB,h92,h34]
       have az:(FM (pF (some (A_ qa 0)) 2 ca) (pF (some (A_ qb 0)) 2 cb) (pF (some (A_ t 0)) 2 c))[x.toNat]? = some (pF none 0 0):=MK _ _ _ _ (fun h=>h92 (DX.1 h)) (fun h=>h34 (DX.1 h)) x.toNat_lt;have HQ:=lH hq;clear h92 h34 hq;go_wp2_with fail;go_roundw;case rel=>
        obtain⟨h1,h2,h3⟩:=ab.o;rw [HQ.o,if_neg bE,AT] at h1;exact⟨k+1,by go_num,by omega,by rw [h1];go_num,by simp [h1],trivial⟩
       case measure=>simp [intOf];omega
    ·obtain rfl:k=s.size:=bB;go_wp2_with fail;go_meet;rw [Ak bB,hP];exact⟨rfl,rfl,lH (Aa.refl [] w)⟩
 case rest=>
  obtain⟨rfl,rfl,HK⟩:=hcut
  rename World=>wc
  clear aa;by_cases h0:P=0
  ·subst h0
   have ai:Hi ((⟨(CM s.data.toList).toArray⟩:ByteArray)=s):=lH (by rw [hL,OS L hP,<- hL]);go_wp2_with fail;go_ret;exact⟨by rw [ai.out];rfl,HK.o⟩
  ·have hd:decide (0<P)=true:=by simp;omega
   rw [hd];obtain⟨N,hN⟩:=eX (s.size+P);have bg:N<=2000:=bB;rw [hN];have T:Hi ((CM L).length=N):=lH (by rw [Hp,hP,am,hN]);obtain⟨iu,ao,ap,aq,ar⟩:∃i,prog.info? 5=some i/\i.zero=some (.int .u8 0)/\i.size=1/\i.bytes=1:=by
    have h:(prog.info? 5).map (fun i=>(i.zero,i.size,i.bytes))=some (some (.int .u8 0),1,1):=bC
    cases hq:prog.info? 5 with
    | none=>rw [hq] at h;cases h
    | some i=>rw [hq] at h;simp at h;exact⟨i,rfl,h.1,h.2.1,h.2.2⟩
   have ah:=He (P:=prog) 166 5 iu (.int .u8 0) underlying166 ao ap .i64 .i64 N N (Aw _) (by rw [ar];omega) bB wc;rw [aq,pR] at ah;have HSZ:Hi ((prog.info? 5).map (·.size)=some 1):=lH (by rw [ao];simp [aq]);have E:Hi (MD (wc.alloc (.cells (madeCells (pE .u8 0).cells N) 5)) wc N []):=lH ⟨_,Blk.new wc _ _,size_madeCells _ _,rfl,Ba _⟩;have HK2:=lH (HK.o.alloc (.cells (madeCells (pE .u8 0).cells N) 5));obtain⟨cells,F⟩:=eX (madeCells (pE .u8 0).cells N);rw [F] at ah E HK2;have J:Hi (w.heap.size<=wc.heap.size):=lH HK.o.size;clear F HK ap ar hd;go_wp2_with fail;go_loopw [14,13] (fun i z wr=>∃k:Nat,i = I_ k/\k<=s.size/\z = I_ ((CM (L.take k)).length:Nat)/\Hi (MD wr wc N (CM (L.take k)))/\Hi (Aa [] w wr)) (fun i _ _=>s.size - (intOf i).toNat)
   case atStart=>exact⟨0,rfl,Ba _,rfl,E,HK2⟩
   case round=>
    clear E HK2 ah;obtain⟨k,rfl,hk,rfl,E,HK⟩:=hrel;by_cases hlt:k<s.size
    ·obtain⟨x,hx⟩:=eX ((s[k]'hlt))
     have hsn:CM (L.take (k+1))=CM (L.take k)++(if x=34 then [92,34] else if x=92 then [92,92] else [x]):=by
      rw [<- hL,P6 s k hlt,hx,OT]
     have B:(CM (L.take (k+1))).length<=N:=by
      rw [<- T.o,Hp,Hp];have h1:((L.take (k+1)).countP qB)<=L.countP qB:=(List.take_sublist _ _).countP_le;have h2:=List.length_take_le (k+1) L;omega
     obtain⟨l,hl⟩:=eX (CM (L.take k));rw [hl] at hsn E ⊢;obtain⟨j,hj⟩:=eX l.length;rw [hj];have kr:=HK.o.rl;have i1:(0:Int)<=(k:Int):=bB;have i2:(k:Int)<(s.size:Int):=bB;have aj:(x.toNat:Int)<256:=by have:=x.toNat_lt;omega
     obtain⟨cur,G,U,ac,ad⟩:=E.o;have g:=G.rl;by_cases h92:x=92
     ·subst h92
      have ag:j+2<=N:=by rw [hsn] at B;simp at B;omega
      have a4:¬N=j:=bB;have a2:∀ty,(E3 #[166,166] ty #[pF (some (A_ wc j)) (N - j) (N - j),pF (some (A_ qa 0)) 2 ca]).run prog wr.drew = .ok (I_ 2) ((wr.setCell (A_ wc j) (.int .u8 92)).setCell (A_ wc (j+1)) (.int .u8 92)).drew:=OL wr.drew wc j N qa ca cur G U ag _ _ ((kr.1 qa 0 bB bA).trans a0) ((kr.1 qa 1 bB bA).trans a1);have HN:Hi (MD ((wr.setCell (A_ wc j) (.int .u8 92)).setCell (A_ wc (j+1)) (.int .u8 92)).drew wc N (CM (L.take (k+1)))):=lH (by
       rw [hsn,show(if(92:UInt8)=34 then [92,34] else if(92:UInt8)=92 then [92,92] else [92]) = [92]++[(92:UInt8)] from rfl,<- CC];subst hj;have h1:=E.o.put 92 bB;have h2:=h1.put 92 bG;rw [Al,Bp] at h2;exact h2.drew)
      have M:Hi (Aa [] w ((wr.setCell (A_ wc j) (.int .u8 92)).setCell (A_ wc (j+1)) (.int .u8 92)).drew):=lH (((HK.o.setCell (p:=A_ wc j) (.inr J.o) _).setCell (p:=A_ wc (j+1)) (.inr J.o) _).drew);have O:Hi ((CM (L.take (k+1))).length=j+2):=lH nK;clear hsn hj hl B G U ac ad E HK;go_wp2_with fail;go_region;go_wp2_with fail;go_roundw;case rel=>exact⟨k+1,by go_num,by omega,by rw [O.o];go_num,HN,M⟩
      case measure=>simp [intOf];omega
     ·by_cases h34:x=34
      ·subst h34
       have ag:j+2<=N:=by rw [hsn] at B;simp at B;omega
       have a4:¬N=j:=bB;have a2:∀ty,(E3 #[166,166] ty #[pF (some (A_ wc j)) (N - j) (N - j),pF (some (A_ qb 0)) 2 cb]).run prog wr.drew = .ok (I_ 2) ((wr.setCell (A_ wc j) (.int .u8 92)).setCell (A_ wc (j+1)) (.int .u8 34)).drew:=OL wr.drew wc j N qb cb cur G U ag _ _ ((kr.1 qb 0 bB bA).trans b0) ((kr.1 qb 1 bB bA).trans b1);have HN:Hi (MD ((wr.setCell (A_ wc j) (.int .u8 92)).setCell (A_ wc (j+1)) (.int .u8 34)).drew wc N (CM (L.take (k+1)))):=lH (by
        rw [hsn,show(if(34:UInt8)=34 then [92,34] else if(34:UInt8)=92 then [92,92] else [34]) = [92]++[(34:UInt8)] from rfl,<- CC];subst hj;have h1:=E.o.put 92 bB;have h2:=h1.put 34 bG;rw [Al,Bp] at h2;exact h2.drew)
       have M:Hi (Aa [] w ((wr.setCell (A_ wc j) (.int .u8 92)).setCell (A_ wc (j+1)) (.int .u8 34)).drew):=lH (((HK.o.setCell (p:=A_ wc j) (.inr J.o) _).setCell (p:=A_ wc (j+1)) (.inr J.o) _).drew);have O:Hi ((CM (L.take (k+1))).length=j+2):=lH nK;clear hsn hj hl B G U ac ad E HK;go_wp2_with fail;go_region;go_wp2_with fail;go_roundw;case rel=>exact⟨k+1,by go_num,by omega,by rw [O.o];go_num,HN,M⟩
       case measure=>simp [intOf];omega
      ·have az:(FM (pF (some (A_ qa 0)) 2 ca) (pF (some (A_ qb 0)) 2 cb) (pF (some (A_ t 0)) 2 c))[x.toNat]? = some (pF none 0 0):=MK _ _ _ _ (fun h=>h92 (DX.1 h)) (fun h=>h34 (DX.1 h)) x.toNat_lt
       rw [if_neg h34,if_neg h92] at hsn;have a3:j<N:=by rw [hsn] at B;simp at B;omega
       have i3:(j:Int)<(N:Int):=bB;have ay:∃v,cur[j]? = some v:=⟨_,Array.getElem?_eq_getElem bB⟩;obtain⟨vj,bj⟩:=ay;have HN:Hi (MD (wr.setCell (A_ wc j) (.int .u8 x.toNat)) wc N (CM (L.take (k+1)))):=lH (by
        rw [hsn];subst hj;exact E.o.put x a3)
       have M:Hi (Aa [] w (wr.setCell (A_ wc j) (.int .u8 x.toNat))):=lH (HK.o.setCell (p:=A_ wc j) (.inr J.o) _);have O:Hi ((CM (L.take (k+1))).length=j+1):=lH nK;clear hsn hj hl B G U ac ad E HK h92 h34;go_wp2_with fail;go_roundw;case rel=>exact⟨k+1,by go_num,by omega,by rw [O.o];go_num,HN,M⟩
       case measure=>simp [intOf];omega
    ·obtain rfl:k=s.size:=bB;rw [Ak bB] at E ⊢;rw [T.o];have a9:(convert 166 9 (pF (some (A_ wc 0)) N N)).run prog wr = .ok (Dz ⟨(CM s.data.toList).toArray⟩) wr:=by
      obtain⟨cur,b1,b2,b3,b4⟩:=E.o;rw [hL];have:=run_convert_bytes_back (P:=prog) wr 166 9 5 (A_ wc 0) N (CM L) underlying166 underlying5 underlying9 (fun j hj=>by
       rw [BR,b1.cell,AW];have h:=congrArg (·[j]?) b3;simp only [Dh,if_pos hj,qH,Aq hj,Option.map_some] at h;simpa [oA] using h)
      rw [T.o] at this;exact this
     clear hL;go_wp2_with fail;go_ret;exact⟨rfl,HK.o⟩
end
section
open Go.RowKit Go.Shelf
attribute [local go_sem ↓] wp_at_zero wp_at_succ
theorem dI(a:Option Addr)(c:Nat)(V:List SV)(p:Po)(n:Nat)(hn:V.length=n)(cursor from_ B now:Int)(w:World)(hP:BP w a c V p)(e:Nat->Addr)(he:M1 w e)
 (q:Po)(page:List ByteArray)(nx err:Int)(hA:qO p cursor from_ B now=(q,page,nx,err)):
  Calls prog 162 #[pH #[pF a n c,I_ p.next],I_ cursor,I_ from_,I_ B,I_ now] w (Lv w q page nx err):=by
 unfold qO at hA;by_cases hc:Db p now=true
 ·rw [if_pos hc] at hA
  by_cases hb:B<1\/10<B
  ·rw [if_pos hb] at hA
   cases hA;exact(N8 a c V p n hn cursor from_ B now w hP e he 0 1 bB (by rw [Jk,if_pos hc,if_pos hb])).mono fun _ _ h=>h.fresh0
  ·rw [if_neg hb] at hA
   cases hf:CN (Ga cursor from_ now) p.l with
   | none=>
    rw [hf] at hA;cases hA;exact(N8 a c V p n hn cursor from_ B now w hP e he 0 2 bB (by rw [Jk,if_pos hc,if_neg hb,hf])).mono fun _ _ h=>h.fresh0
   | some k=>
    rw [hf] at hA;obtain⟨hl,G⟩:=Nc hf;simp only [Ga,Af,decide_eq_true_eq] at G;have hF:Jk p cursor from_ B now=((k:Int),none):=by rw [Jk,if_pos hc,if_neg hb,hf]
    obtain⟨s,hs⟩:=eX (p.l[k]);have D:p.l[k]? = some s:=by rw [Aq hl,hs]
    rw [hs] at G;dsimp only at hA;rw [D] at hA;dsimp only at hA;obtain⟨F,rfl⟩:=Int.eq_ofNat_of_zero_le G.1.2;obtain⟨K,rfl⟩:=Int.eq_ofNat_of_zero_le (show 0<=B by omega);have h3:=(Ik hc).1;have hm:V.length=p.l.length:=hP.mt.len;have h:=Zf a c V p n hn cursor F K now w hP e he k hF (by rw [<- hn,hm];exact h3) bB s D bB _ rfl;obtain⟨T,J⟩:∃T:Nat,(if s.items.length<F+K then s.items.length else F+K)=T:=⟨_,rfl⟩;have hE:IL s.items.length (F:Int) (K:Int)=(T:Int):=by unfold IL;rw [<- J];split<;>split<;>omega
    rw [J] at h;rw [hE,show((T:Int) - (F:Int)).toNat=T - F by omega,pW] at hA;have E:((T:Int)=(s.items.length:Int))=(T=s.items.length):=by rw [Int.natCast_inj]
    simp only [E] at hA;cases hA;exact h
 ·rw [if_neg hc] at hA
  cases hA;exact(N8 a c V p n hn cursor from_ B now w hP e he 0 0 bB (by rw [Jk,if_neg hc])).mono fun _ _ h=>h.fresh0
theorem mL(w:World):Calls prog 40 #[] w fun r w'=>r = pJ (pH #[pF none 0 0,I_ 1])/\Aa [] w w':=by
 have HB:=lH (Blk.new w 32 #[pF none 0 0,I_ 1]);go_enter func40,ntmps40;go_wp2;exact bodyPost_ret (v:=pH #[pF none 0 0,I_ 1]) (by have B:=HB.o.cell 0;have D:=HB.o.cell 1;simp [results,results40,go_sem,B,D]) rfl ⟨rfl,(Aa.refl [] w).alloc _⟩
end
end Go.Proofs.YtncebikgoleolaaGreatDoor
