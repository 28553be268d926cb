/- Steps. -/
import Derived.Test.YtjieiikpolahfaaGreatDoorMak
set_option maxRecDepth 100000
set_option maxHeartbeats 8000000
set_option linter.all false
namespace Go.Proofs.YtjieiikpolahfaaGreatDoor
open Tryz
open _root_.Go renaming undef→UD
open _root_.And renaming intro→Bl
open _root_.Array renaming replicate_succ→Bt,replicate_zero→Bu
open _root_.Bool renaming and_eq_true→Af,false_and→Ep,true_and→DJ
open Builtin renaming append_→BI
open Ending renaming returned→pJ
open Instr renaming findNow→B0,lookup→Ed,slice→AV
open _root_.Int renaming toNat_natCast→pW
open IntKind renaming i64→pK
open _root_.List renaming append_assoc→CC,append_toArray→BD,cons_append→AL,drop_zero→BC,eq_nil_of_length_eq_zero→Ds,findIdx?_eq_some_iff_getElem→Dx,getD_eq_getElem?_getD→AO,getElem?_cons_succ→Ao,getElem?_cons_zero→Aj,getElem?_eq_getElem→Aq,getElem?_eq_some_iff→Ad,getElem?_toArray→An,length_append→Al,length_cons→Av,length_drop→B1,length_map→Bd,length_nil→D4,length_range→AP,length_singleton→Bp,length_take→Ax,map_append→pO,mem_append→AQ,mem_cons_of_mem→Ca,mem_cons→Ac,mem_map→BO,mem_of_getElem?→CD,nil_append→BH,not_mem_nil→Ab,push_toArray→Cd,range→AC,size_toArray→Cz,take_of_length_le→Ak
open _root_.Nat renaming add_assoc→EA,add_zero→AT,le_refl→Aw,le_trans→A8,lt_of_lt_of_le→BS,lt_or_ge→pP,min_eq_left→DE,reduceAdd→pL,reduceSub→pM,zero_le→Ba
open Oper renaming semAt_some→pN
open Value renaming agg→pH,bool→pI,int→pE,pointer→pG,slice→pF,string→Dz
open World renaming block_lt_of_cell?→Be,ownsRow_nil→BQ,size_alloc→Eo
section
open Go.RowKit Go.Shelf
attribute [local go_sem] pN
attribute [local go_sem ↓] wp_at_zero wp_at_succ
theorem DG.down{B B':Nat}{w:World}{x:Value}{l:List El}(h:DG B w x l)(hb:B'<=B):DG B' w x l:=by
 obtain⟨a,c,h1,h2,h3⟩:=h;exact⟨a,c,h1,h2,fun g o e=>A8 hb (h3 g o e)⟩
theorem MM{cb:Nat}{u:TV}{seq:Int}{c:FW}{now:Int}{res:Ten×Int}{w w':World}{er:Int}(h:res.2=er)(h0:er≠0)(hk:Aa [cb] w w'):Gt cb u seq c now res w (pJ (.iface 215 (pH #[pE pK er]))) w':=⟨by rw [h,FY,if_neg h0],fun e=>absurd (h▸e) h0,hk⟩
theorem XX{cb:Nat}{B:TV}{seq:Int}{c:FW}{now:Int}{res:Ten×Int}{w w':World}{t:Ten}{u:TV}(h:res=(t,0))(hb:Blk w' cb 223 (K7 u seq c now))(D:Cj w' u t)(hk:Aa [cb] w w')(hg:EY w B u):Gt cb B seq c now res w (pJ .nilIface) w':=by
 subst h;exact⟨rfl,fun _=>⟨u,hb,D,hg⟩,hk⟩
theorem VT(cb:Nat)(u:TV)(t:Ten)(seq:Int)(c:FW)(now:Int)(N:0<=now/\now<=1000000000000)(w:World)(h:Blk w cb 223 (K7 u seq c now))(E:Cj w u t)(hf:FX cb u):Calls prog 200 #[pG (some (A_ cb 0))] w (Gt cb u seq c now (if t.state=1 then if c.n<1\/1000000000<c.n\/1000000000000<now+c.n then(t,2) else({ t with state:=3,deadline:=now+c.n },0) else(t,156)) w):=by
 have M:=h.cell 3;simp only [K7,An,Aj,Ao] at M;have HB:=lH h;have T:=lH E;have O:=lH hf;have hst:=E.state;by_cases hs:u.state=1;rotate_left
 ·rw [if_neg jY]
  have f1:(u.state==1)=false:=by simpa using hs
  clear h E hf hst hs;go_enter func200,ntmps200;go_wp2_with fail;refine(QF cb 3 w).mono ?_;rintro e w1 ⟨rfl,rfl⟩;go_wp2;go_ret;exact⟨rfl,(fun e=>by cases e),Aa.refl _ _⟩
 ·rw [if_pos jY]
  obtain⟨res,D⟩:∃res,(if c.n<1\/1000000000<c.n\/1000000000000<now+c.n then(t,(2:Int)) else({ t with state:=3,deadline:=now+c.n },0))=res:=⟨_,rfl⟩;rw [D];have B:=lH D;clear D;have f1:(u.state==1)=true:=by simpa using hs
  clear h E hf hst hs;go_enter func200,ntmps200;go_wp2_with fail;refine(Ob cb u seq c now 3 w HB.o).mono ?_;rintro e w1 ⟨rfl,hb,hk⟩;have U:=hb.cell 7;have G:=hb.cell 19;have J:=hb.cell 21;have X:=hb.frozen 7;simp only [K7,An,Aj,Ao] at U G J;have HB1:=lH hb;have HK:=lH hk;clear hb hk M;by_cases h1:c.n<1
  ·go_wp2
   go_ret;exact MM (by rw [<- B.o,if_pos (.inl h1)]) bE HK.o
  ·by_cases h2:1000000000<c.n
   ·go_wp2
    go_ret;exact MM (by rw [<- B.o,if_pos (.inr (.inl h2))]) bE HK.o
   ·have hw:IntKind.i64.wrap (now+c.n)=now+c.n:=IntWalk.i64_in _ bB
    by_cases h3:1000000000000<now+c.n
    ·go_wp2
     go_ret;exact MM (by rw [<- B.o,if_pos (.inr (.inr h3))]) bE HK.o
    ·have F:Hi (res=({ t with state:=3,deadline:=now+c.n },0)):=lH (by rw [<- B.o,if_neg bB])
     go_wp2;go_ret;exact XX (u:={ u with state:=3,deadline:=now+c.n }) F.o (HB1.o.set_ 7 (I_ (now+c.n))) { T.o.far (HK.o.trans (Ae w1 cb 7 (I_ (now+c.n)))) O.o with state:=rfl,deadline:=rfl } (HK.o.trans (Ae w1 cb 7 _)) ⟨.inl ⟨rfl,rfl⟩,.inl ⟨rfl,rfl⟩⟩
theorem Ri(cb:Nat)(u:TV)(t:Ten)(seq:Int)(c:FW)(now:Int)(w:World)(hg:Et w)(h:Blk w cb 223 (K7 u seq c now))(J:Cj w u t)(Y:t.creds.length<=1000)(hf:FX cb u):Calls prog 201 #[pG (some (A_ cb 0))] w (Gt cb u seq c now (if(Bk t.creds c.key now c.n c.m).2.2=0 then({ t with creds:=(Bk t.creds c.key now c.n c.m).1 },0) else(t,(Bk t.creds c.key now c.n c.m).2.2)) w):=by
 have HS:Hi (∀W,Aa [] w W->Aa [] w W/\W.cell? (A_ cb 6)=some (pF u.ca u.cl u.cc)/\W.cell? (A_ cb 18)=some (Dz c.key)/\W.cell? (A_ cb 19)=some (I_ c.n)/\W.cell? (A_ cb 20)=some (I_ c.m)/\W.cell? (A_ cb 21)=some (I_ now)):=lH fun W hk=>⟨hk,(h.keeps hk bA).cell 6,(h.keeps hk bA).cell 18,(h.keeps hk bA).cell 19,(h.keeps hk bA).cell 20,(h.keeps hk bA).cell 21⟩;have G:0<w.heap.size:=Be w _ hg;have HR:=lH (fun W (hk:Aa [] w W)=>ME u.ca u.cc t.creds u.cl J.cl (by have:=J.cl;omega) c.key now c.n c.m W (hg.keeps hk bA) (BS G hk.size) (J.cs.keeps hk));have HB:=lH h;have X:=lH J;have U:=lH hf;obtain⟨⟨l,id,er⟩,hr⟩:∃r,Bk t.creds c.key now c.n c.m=r:=⟨_,rfl⟩;rw [hr] at HR ⊢;dsimp only at HR ⊢;obtain⟨res,B⟩:∃res,(if er=0 then(({ t with creds:=l } : Ten),(0:Int)) else(t,er))=res:=⟨_,rfl⟩;rw [B];have D:=lH B;have M:cb<w.heap.size:=h.lt;have HFIN:Hi (∀(x:Value) (W:World),Aa [] w W->DG w W x l->Gt cb u seq c now res w (pJ (FY er)) (W.setCell (A_ cb 6) x)):=lH fun x W hk hx=>by
  have hk2:Aa [cb] w (W.setCell (A_ cb 6) x):=(hk.mono bA).trans (Ae W cb 6 x);by_cases he:er=0
  ·obtain⟨a,c2,rfl,hs,F⟩:=hx
   rw [he];refine XX (t:={ t with creds:=l }) (u:={ u with ca:=a,cl:=l.length,cc:=c2 }) (by rw [<- D.o,if_pos he]) ((HB.o.keeps hk bA).set_ 6 _) { X.o.far hk2 U.o with cl:=rfl,cs:=?_ } hk2 ⟨.inl ⟨rfl,rfl⟩,.inr F⟩;exact AR.keepsS hs (Ae W cb 6 _) (fun g o e hm=>by have:=F g o e;simp only [Ac,Ab,or_false] at hm;omega)
  ·rw [FY,if_neg he]
   exact MM (by rw [<- D.o,if_neg he]) he hk2
 clear h J hf hg G Y hr B M;go_enter func201,ntmps201;go_wp2_with fail;refine wp_region_held_drew (S:=(fun W:World=>Aa [] w W/\W.cell? (A_ cb 6)=some (pF u.ca u.cl u.cc)/\W.cell? (A_ cb 18)=some (Dz c.key)/\W.cell? (A_ cb 19)=some (I_ c.n)/\W.cell? (A_ cb 20)=some (I_ c.m)/\W.cell? (A_ cb 21)=some (I_ now))) bC (by((try dsimp only);(first | exact HS.o _ (hHeld.1.trans E) | exact HS.o _ ((Aa.refl [] w).drew)))) (fun hHeld=>?_);refine rQ 0 ?_;refine rQ 1 ?_;refine rQ 2 ?_;refine rQ 3 ?_;refine rQ 4 ?_;refine rQ 5 ?_;refine rQ 6 ?_;refine rQ 7 ?_;refine rQ 8 ?_;refine rQ 9 ?_;refine rQ 10 ?_;refine rQ 11 ?_;refine rQ 12 ?_;refine rQ 13 ?_;refine rQ 14 ?_;refine rQ 15 ?_;refine rQ 16 ?_;refine rQ 17 ?_;refine rQ 18 ?_;refine rQ 19 ?_;refine rQ 20 ?_;refine rQ 21 ?_;refine rQ 22 ?_;refine rQ 23 ?_;refine rQ 24 ?_;refine rC 25 fun K hK=>?_;go_simp
 (refine(HR.o _ hHeld.1).mono ?_;rintro e wr ⟨x,rfl,hx,E⟩;have N:Aa [] w wr:=hHeld.1.trans E;obtain⟨xa,xc,rfl,T,O⟩:=DG.down hx hHeld.1.size)
 refine rO hK (by((try dsimp only);(first | exact HS.o _ (hHeld.1.trans E) | exact HS.o _ ((Aa.refl [] w).drew)))) fun hHeld=>?_;clear hK K;refine rQ 26 ?_;refine rQ 27 ?_;refine rQ 28 ?_;refine rQ 29 ?_;refine rQ 30 ?_;refine rQ 31 ?_;refine rQ 32 ?_;refine wpAnyH_done bC ?_ _
 (have f6:=(HB.o.keeps hHeld.1 bA).frozen 6;go_wp2_with fail;refine(Kk er _).mono ?_;rintro e wu ⟨rfl,rfl⟩;go_wp2_with fail;exact bodyPost_ret (v:=FY er) (by simp [results,results201,go_sem]) rfl (HFIN.o _ _ N ⟨xa,xc,rfl,T,O⟩))
def Vv(t:Ten)(c:FW):Ten×Int:=if 0<=c.at_ then if(BU t.rules c.at_ c.rule).2=0 then({ t with rules:=(BU t.rules c.at_ c.rule).1 },0) else(t,(BU t.rules c.at_ c.rule).2)
  else if(Cl t.rules (-(c.at_+1))).2=0 then({ t with rules:=(Cl t.rules (-(c.at_+1))).1 },0) else(t,(Cl t.rules (-(c.at_+1))).2)
theorem U6{cb:Nat}{u:TV}{t:Ten}{seq:Int}{c:FW}{now:Int}{w:World}{res:Ten×Int}{l:List EX}{er:Int}(hB:Blk w cb 223 (K7 u seq c now))(hT:Cj w u t)(hF:FX cb u)(hres:(if er=0 then(({ t with rules:=l } : Ten),(0:Int)) else(t,er))=res):
  ∀(x:Value) (W:World),Aa [] w W->F4 w W x l->Gt cb u seq c now res w (pJ (FY er)) (W.setCell (A_ cb 5) x):=fun x W hk hx=>by
 have hcl:cb<w.heap.size:=hB.lt;have hk2:Aa [cb] w (W.setCell (A_ cb 5) x):=(hk.mono bA).trans (Ae W cb 5 x);by_cases he:er=0
 ·obtain⟨a,c2,rfl,hs,hge⟩:=hx
  rw [he];refine XX (t:={ t with rules:=l }) (u:={ u with ra:=a,rl:=l.length,rc:=c2 }) (by rw [<- hres,if_pos he]) ((hB.keeps hk bA).set_ 5 _) { hT.far hk2 hF with rl:=rfl,rs:=?_ } hk2 ⟨.inr hge,.inl ⟨rfl,rfl⟩⟩;exact AR.keepsS hs (Ae W cb 5 _) (fun g o e hm=>by have:=hge g o e;simp only [Ac,Ab,or_false] at hm;omega)
 ·rw [FY,if_neg he]
  exact MM (by rw [<- hres,if_neg he]) he hk2
theorem XW(cb:Nat)(u:TV)(t:Ten)(seq:Int)(c:FW)(now:Int)(hat : -9223372036854775808<=c.at_/\c.at_<=9223372036854775807)(w:World)(E:Nat->Addr)(hE:Fp w E)(h:Blk w cb 223 (K7 u seq c now))(F:Cj w u t)(hc:t.rules.length<=999)(hf:FX cb u):Calls prog 202 #[pG (some (A_ cb 0))] w (Gt cb u seq c now (Vv t c) w):=by
 have T:=h.cell 12;have c5:=h.cell 5;have U:=h.cell 13;have X:=h.cell 14;have Y:=h.cell 15;have aa:=h.cell 16;have ab:=h.cell 17;simp only [K7,An,Aj,Ao] at T c5 U X Y aa ab;have HB:=lH h;by_cases hp:0<=c.at_
 ·obtain⟨⟨l,er⟩,hr⟩:∃r,BU t.rules c.at_ c.rule=r:=⟨_,rfl⟩
  have HI:=lH (fun W (hk:Aa [] w W)=>SR u.ra u.rc t.rules u.rl F.rl (by have:=F.rl;omega) c.at_ c.rule W E (hE.keep hk) (F.rs.keeps hk));rw [hr] at HI;dsimp only at HI;obtain⟨res,B⟩:=eX (Vv t c);have HFIN:=lH (U6 (res:=res) (l:=l) (er:=er) h F hf (by rw [<- B];unfold Vv;rw [if_pos hp,hr]));rw [B];clear h F hf hE hc hr B;go_enter func202,ntmps202;go_wp2_with fail;refine wp_region_held_drew (S:=(fun _:World=>True)) bC trivial (fun hHeld=>?_)
  repeat' (first | exact rZ | refine rX ?_ | ((first | (refine rA 6 (fun K hK=>?_) ?_;go_simp) | (refine rA 12 (fun K hK=>?_) ?_;go_simp) | (refine rA 13 (fun K hK=>?_) ?_;go_simp;(refine(HI.o _ ((Aa.refl [] w).drew)).mono ?_;rintro e wr ⟨x,rfl,hx,ad⟩;obtain⟨M,N,rfl,J,G⟩:=hx;have D:Aa [] w wr:=((Aa.refl [] w).drew).trans ad;have e5:=D.cellsV _ _ c5;have f5:=(HB.o.keeps D bA).frozen 5)) | (refine rA 21 (fun K hK=>?_) ?_;go_simp));refine rO hK trivial fun hHeld=>?_;clear hK K) | (refine rQ 0 ?_;refine rQ 1 ?_;refine rQ 2 ?_;refine rQ 3 ?_;refine rQ 4 ?_;refine rQ 5 ?_;refine rQ 7 ?_;refine rQ 8 ?_;refine rQ 9 ?_;refine rQ 10 ?_;refine rQ 11 ?_) | (refine rQ 14 ?_;refine rQ 15 ?_;refine rQ 16 ?_;refine rQ 17 ?_;refine rQ 18 ?_;refine rQ 19 ?_;refine rQ 20 ?_) | (refine rQ 22 ?_) | refine rB [6,12,13,21] ?_ | (refine wpAnyH_done bC ?_ _;(go_wp2_with fail;refine(Kk er _).mono ?_;rintro e wu ⟨rfl,rfl⟩;go_wp2_with fail;exact bodyPost_ret (v:=FY er) (by simp [results,results202,go_sem]) rfl (HFIN.o _ _ D ⟨M,N,rfl,J,G⟩))))
 ·obtain⟨⟨l,er⟩,hr⟩:∃r,Cl t.rules (-(c.at_+1))=r:=⟨_,rfl⟩
  have HI:=lH (fun W (hk:Aa [] w W)=>SS u.ra u.rc t.rules u.rl F.rl (by have:=F.rl;omega) (-(c.at_+1)) W E (hE.keep hk) (F.rs.keeps hk));rw [hr] at HI;dsimp only at HI;obtain⟨res,B⟩:=eX (Vv t c);have HFIN:=lH (U6 (res:=res) (l:=l) (er:=er) h F hf (by rw [<- B];unfold Vv;rw [if_neg hp,hr]));rw [B];have w1:IntKind.i64.wrap (c.at_+1)=c.at_+1:=IntWalk.i64_in _ bB;have w2:IntKind.i64.wrap (-(c.at_+1)) = -(c.at_+1):=IntWalk.i64_in _ bB;have ai:decide (c.at_≥0)=false:=decide_eq_false bB;clear h F hf hE hc hr B;go_enter func202,ntmps202;go_wp2_with fail;refine(HI.o _ (Aa.refl [] w)).mono ?_;rintro e wr ⟨x,rfl,hx,D⟩;obtain⟨M,N,rfl,J,G⟩:=hx;have e5:=D.cellsV _ _ c5;have f5:=(HB.o.keeps D bA).frozen 5;have O:=lH D;have HX:Hi (F4 w wr (pF M l.length N) l):=lH ⟨M,N,rfl,J,G⟩;clear D J G;go_wp2_with fail;refine(Kk er _).mono ?_;rintro e wu ⟨rfl,rfl⟩;go_wp2_with fail;exact bodyPost_ret (v:=FY er) (by simp [results,results202,go_sem]) rfl (HFIN.o _ _ O.o HX.o)
def DC(l:List TV)(u:TV):List TV:=l.take (l.takeWhile fun x=>decide (x.slot<u.slot)).length++[u]++(match l.drop (l.takeWhile fun x=>decide (x.slot<u.slot)).length with
 | x::m=>if x.slot=u.slot then m else x::m
 | []=>[])
theorem kU{V:List TV}{s:Int}{k:Nat}(hk:k<=V.length)(h:∀j<k,∀x,V[j]? = some x->x.slot<s)(he:∀x,V[k]? = some x->¬x.slot<s):(V.takeWhile fun x=>decide (x.slot<s)).length=k:=by
 induction V generalizing k with
 | nil=>
  have hk:k<=0:=hk;simp;omega
 | cons y V ih=>
  cases k with
  | zero=>
   have:=he y rfl;simp [this]
  | succ k=>
   have h1:=h 0 bB y rfl;rw [List.takeWhile_cons,if_pos bR,Av,ih (by simpa using hk) (fun j hj x hx=>h (j+1) bB x iY) (fun x hx=>he x iY)]
theorem Vh{w:World}(s:Int):∀ {V:List TV} {L:List Ten},AX w V L->(V.takeWhile fun x=>decide (x.slot<s)).length=(L.takeWhile fun x=>decide (x.slot<s)).length
 | [],[],_=>rfl
 | v::V,t::L,h=>by
  rw [List.takeWhile_cons,List.takeWhile_cons,h.1.slot];split
  ·rw [Av,Av,Vh s h.2]
  ·rfl
 | [],_::_,h=>h.elim
 | _::_,[],h=>h.elim
theorem Zt{w:World}{V:List TV}{L:List Ten}{u:TV}{t:Ten}(h:AX w V L)(hu:Cj w u t):AX w (DC V u) (GI L t):=by
 unfold DC GI;dsimp only;rw [<- hu.slot,Vh u.slot h,CC];refine AX.app (AX.take _ h) ?_;have D:=AX.drop (L.takeWhile fun x=>decide (x.slot<u.slot)).length h;refine⟨hu,?_⟩;generalize V.drop (L.takeWhile fun x=>decide (x.slot<u.slot)).length=A at D;generalize L.drop (L.takeWhile fun x=>decide (x.slot<u.slot)).length=B at D;cases A with
 | nil=>
  cases B with
  | nil=>trivial
  | cons b B=>exact D.elim
 | cons a A=>
  cases B with
  | nil=>exact D.elim
  | cons b B=>
   dsimp only;rw [D.1.slot];split
   ·exact D.2
   ·exact D
theorem AR.drop_run{α:Type}{enc:α->List Value}{n:Nat}{t e:TypeId}{z:Value}(hE:Lu prog t e n z)(B:∀W,(AV t (pF none 0 0) (some (I_ 0)) none none).run prog W = .ok (pF none 0 0) W){w:World}{a:Option Addr}{c:Nat}{xs:List α}(h:AR enc n w a c xs)(k:Nat)(hk:k<=xs.length):
  ∃ra rc,(∀W,(AV t (pF a xs.length c) (some (I_ (k:Int))) none none).run prog W = .ok (pF ra (xs.length - k) rc) W)/\AR enc n w ra rc (xs.drop k):=by
 cases a with
 | none=>
  obtain⟨rfl,rfl⟩:=h.isNil;obtain rfl:k=0:=by simpa using hk
  exact⟨none,0,B,AR.none_⟩
 | some p=>
  rcases Nat.eq_zero_or_pos xs.length with h0 | h0
  ·obtain rfl:=Ds h0
   obtain rfl:k=0:=by simpa using hk
   have D:=fun W=>run_slice_l (P:=prog) W t (some p) 0 c hE.ht' .i64 0 bB bB;simp only [hE.el,hE.sz] at D;refine⟨_,c - 0,fun W=>(D W).trans rfl,⟨by simp,?_,fun h=>by simp at h⟩⟩;intro e;split at e<;>cases e
  ·obtain⟨g,off,e,hg,hat⟩:=h.at_ h0
   injection e with e
   subst e;refine⟨_,c - k,fun W=>hE.s_l W g off xs.length c k hk h.le,⟨by have:=h.le;simp;omega,(fun e=>by cases e),fun hp=>?_⟩⟩;have E:k<xs.length:=by simp at hp;omega
   have hck:c≠k:=by have:=h.le;omega
   refine⟨g,off+k*n,by rw [if_neg hck],hg,fun i hi j u hj=>?_⟩;rw [List.getElem_drop] at hj;have:=hat (k+i) (by simp at hi;omega) j u hj
   rwa [show off+(k+i)*n+j=off+k*n+i*n+j by rw [Nat.add_mul];omega] at this
theorem AR.take_run{α:Type}{enc:α->List Value}{n:Nat}{t e:TypeId}{z:Value}(hE:Lu prog t e n z){w:World}{a:Option Addr}{c:Nat}{xs:List α}(h:AR enc n w a c xs)(k:Nat)(hk:k<=xs.length):
  ∃ta tc,(∀W,(AV t (pF a xs.length c) none (some (I_ (k:Int))) (some (I_ (k:Int)))).run prog W = .ok (pF ta k tc) W)/\AR enc n w ta tc (xs.take k):=by
 have B:=fun W=>run_slice_hm (P:=prog) W t a xs.length c hE.ht' .i64 .i64 k k bB bB (by have:=h.le;omega);simp only [hE.el,hE.sz,Result.andThen_ok,pW] at B;cases a with
 | none=>
  obtain⟨rfl,rfl⟩:=h.isNil;obtain rfl:k=0:=by simpa using hk
  exact⟨none,0,fun W=>(B W).trans rfl,AR.none_⟩
 | some q=>
  rcases Nat.eq_zero_or_pos xs.length with h0 | h0
  ·obtain rfl:=Ds h0
   obtain rfl:k=0:=by simpa using hk
   exact⟨some q,0,fun W=>(B W).trans (by simp [sliced]),⟨by simp,(fun e=>by cases e),fun h=>by simp at h⟩⟩
  ·obtain⟨g,off,e,hg,hat⟩:=h.at_ h0
   injection e with e
   subst e;refine⟨some (A_ g off),k,fun W=>(B W).trans (by simp [sliced,BR]),⟨by simp;omega,(fun e=>by cases e),fun hp=>⟨g,off,rfl,hg,fun i hi j u hj=>?_⟩⟩⟩;rw [List.getElem_take] at hj;exact hat i (by simp at hi;omega) j u hj
theorem LK(w w9:World)(b0 b2:Nat)(x y0 y1 y2 y3 y4:Value):Aa [b0,b2] w9 ((((((w9.setCell (A_ b0 3) x).setCell (A_ b2 0) y0).setCell (A_ b2 1) y1).setCell (A_ b2 2) y2).setCell (A_ b2 3) y3).setCell (A_ b2 4) y4):=
 ((Ae w9 b0 3 x).mono bA).trans ((((((Ae _ b2 0 y0).trans (Ae _ b2 1 y1)).trans (Ae _ b2 2 y2)).trans (Ae _ b2 3 y3)).trans (Ae _ b2 4 y4)).mono bA)
theorem Q7{w wz w9 F:World}{v:B6}{u:TV}{gn un fn m T:Nat}{seq:Int}{E:Option Addr}{M:List TV}(N:DC v.lv u=M)(J:(DC v.lv u).length=m)(O:AR BE 8 w9 E T M)(G:Aa [] wz w9)(hz:Aa [] w wz){B:Nat}(D:∀g o,E=some (A_ g o)->B<=g)(U:w.heap.size+1+1<B)(hk:Aa [w.heap.size,w.heap.size+1+1] w9 F):
  ∃a c,pJ (pH #[pF v.s.ga gn v.s.gc,pF v.s.ua un v.s.uc,pF v.s.fa fn v.s.fc,pF E (m) T,I_ seq]) = pJ (pH #[pF v.s.ga gn v.s.gc,pF v.s.ua un v.s.uc,pF v.s.fa fn v.s.fc,pF a (DC v.lv u).length c,I_ seq])/\AR BE 8 F a c (DC v.lv u)/\Dj w a/\Aa [] w F:=by
 rw [J,N];refine⟨E,T,rfl,AR.keepsS O hk (fun g o e hm=>?_),fun g o e=>by have:=D g o e;omega,(hz.trans G).own hk (fun y hy=>?_)⟩
 ·have:=D g o e
  simp only [Ac,Ab,or_false] at hm;omega
 ·simp only [Ac,Ab,or_false] at hy
  omega
theorem Q6(v:B6)(gn un fn ln:Nat)(hln:v.lv.length=ln)(bi:ln<=1000)(seq:Int)(u:TV)(w:World)(hl:AR BE 8 w v.la v.lc v.lv):
  Calls prog 118 #[pH (R_ v gn un fn ln seq),pH (T_ u)] w fun e w'=>∃a c,e = pJ (pH #[pF v.s.ga gn v.s.gc,pF v.s.ua un v.s.uc,pF v.s.fa fn v.s.fc,pF a (DC v.lv u).length c,I_ seq])/\AR BE 8 w' a c (DC v.lv u)/\Dj w a/\Aa [] w w':=by
 obtain⟨wz,hwz⟩:=eX (((w.alloc (.cells (R_ v gn un fn ln seq) 29)).alloc (.cells (T_ u) 131)).alloc (.cells LU.k 29));have hz:Aa [] w wz:=by rw [<- hwz];exact(((Aa.refl [] w).alloc _).alloc _).alloc _
 have HB0:Hi (Blk wz w 29 (R_ v gn un fn ln seq)):=lH (by rw [<- hwz];exact((Blk.new w _ _).alloc _).alloc _);have HB1:Hi (Blk wz (w+1) 131 (T_ u)):=lH jU;have HB2:Hi (Blk wz (w+1+1) 29 LU.k):=lH aF;have HL:=lH (hl.keeps hz);have HZ:=lH hz;have HLN:=lH hln;clear hl hz hln;go_enter func118,ntmps118;go_wp2;clear hwz;go_loopw [5] (fun i wr=>∃k:Nat,i = I_ k/\k<=ln/\Hi (∀j<k,∀x,v.lv[j]? = some x->x.slot<u.slot)/\Hi (Aa [] wz wr)) (fun i _=>ln - (intOf i).toNat)
 case atStart=>exact⟨0,rfl,Ba _,lH (fun j hj=>by omega),lH (Aa.refl _ _)⟩
 case round=>
  obtain⟨k,rfl,hk,HP,HK⟩:=hrel;have d3:=(HB0.o.keeps HK.o bA).ce 3;have e0:=(HB1.o.keeps HK.o bA).ce 0;have bl:(∃x,v.lv[k]? = some x/\x.slot<u.slot)\/(∀x,v.lv[k]? = some x->¬x.slot<u.slot):=by
   cases hx:v.lv[k]? with
   | none=>exact .inr (fun x hx=>by cases hx)
   | some y=>
    by_cases hy:y.slot<u.slot
    ·exact .inl ⟨y,rfl,hy⟩
    ·exact .inr (fun x hx=>by injection hx with hx;rw [<- hx];exact hy)
  rcases bl with⟨x,hx,hlt⟩ | hno
  ·have ac:k<ln:=by rw [<- HLN.o];exact(Ad.1 hx).1
   obtain⟨g,off,x',ha,hg,ae,hat⟩:=(HL.o.keeps HK.o).at_k (k:=k) (by rw [HLN.o];exact ac);rw [hx] at ae;injection ae with ae
   subst ae;have q0:=hat 0 _ rfl;rw [AT] at q0;rw [ha] at d3;have i1:(0:Int)<=(k:Int):=bB;have i2:(k:Int)<(ln:Int):=bB;have bg:Hi (∀j<k+1,∀x,v.lv[j]? = some x->x.slot<u.slot):=lH (fun j hj y hy=>by
    rcases pP j k with h | h
    ·exact HP.o j h y hy
    ·obtain rfl:j=k:=bB;rw [hx] at hy;injection hy with hy
     rw [<- hy];exact hlt)
   clear hat hg hx ha;go_wp2;go_quiet (fail);go_wp2;go_roundw;case rel=>exact⟨k+1,by go_num,by omega,bg,lH (HK.o.drewN _)⟩
   case measure=>simp [intOf];omega
  ·have a6:(v.lv.takeWhile fun x=>decide (x.slot<u.slot)).length=k:=kU (by rw [HLN.o];exact hk) HP.o hno
   have an:=lH a6;clear a6;obtain⟨ra,rc,U,ad⟩:=AR.drop_run DB (fun W=>by kernel_rfl) (HL.o.keeps HK.o) k (by rw [HLN.o];exact hk);obtain⟨ta,tc,a5,ap⟩:=AR.take_run DB (HL.o.keeps HK.o) k (by rw [HLN.o];exact hk);rw [HLN.o] at U a5;have am:=lH ad;have HTS:=lH ap;by_cases ac:k<ln
   ·obtain⟨g,off,x,ha,hg,hx,hat⟩:=(HL.o.keeps HK.o).at_k (k:=k) (by rw [HLN.o];exact ac)
    have a4:=hno x hx;have q0:=hat 0 _ rfl;rw [AT] at q0;obtain⟨g2,ab,x2,bj,hg2,hx2,hat2⟩:=ad.at_k (k:=0) (by rw [B1,HLN.o];omega);have q2:=hat2 0 _ rfl;simp only [AT,Nat.zero_mul] at q2;have bm:x2=x:=by
     rw [List.getElem?_drop,AT,hx] at hx2;injection hx2 with hx2
     exact hx2.symm
    subst bm;subst bj;rw [ha] at d3 U a5;have i1:(0:Int)<=(k:Int):=bB;have i2:(k:Int)<(ln:Int):=bB;have i3:(0:Int)<((ln - k:Nat):Int):=bB;have i4:decide (x2.slot<u.slot)=false:=decide_eq_false a4;have HX:=lH hx;clear hat hat2 hg hg2 hx hx2 ad ap a4;have aw:Hi (v.lv.drop k=x2::v.lv.drop (k+1)):=lH (by
     have hl:=(Ad.1 HX.o);obtain⟨h1,h2⟩:=hl;rw [List.drop_eq_getElem_cons h1,h2])
    have i5:(0:Int)<((ln:Int) - (k:Int)):=bB;by_cases hq:x2.slot=u.slot
    ·have f7:(x2.slot==u.slot)=true:=Tb;obtain⟨rb,rd,X,Y⟩:=AR.drop_run DB (fun W=>by kernel_rfl) am.o 1 (by rw [B1,HLN.o];omega);rw [B1,HLN.o] at X;obtain⟨nr,ao⟩:=eX (ln - k - 1);obtain⟨nk,M⟩:=eX (ln - k);rw [ao] at X;rw [M] at X U i3;have bh:Hi (AR BE 8 wr rb rd (v.lv.drop (k+1))):=lH (by rw [List.drop_drop] at Y;exact Y);have ax:=lH ao;have al:=lH M;have af:0<nk:=bB;have ck:decide (0<nk)=true:=decide_eq_true af;have cl:decide ((0:Int)<(nk:Int))=true:=decide_eq_true i3;have cm:((1:Int)<=(nk:Int)):=bB;have bp:1<=nk:=af;clear Y ao M;have b9:∀W,(AV 27 (pF (some (A_ g2 ab)) nk rc) (some (I_ 1)) none none).run prog W = .ok (pF rb nr rd) W:=fun W=>X W;clear X;go_wp2;go_quiet (fail);go_wp2_with fail;go_quiet (fail);go_upto_region 7 with fail
     have D:=lH ((HB1.o.keeps HK.o bA));have b0:=D.out.ce 0;have b1:=D.out.ce 1;have b2:=D.out.ce 2;have b3:=D.out.ce 3;have b4:=D.out.ce 4;have b5:=D.out.ce 5;have b6:=D.out.ce 6;have b7:=D.out.ce 7;have az:∀n,((wr.drewN n).alloc (.cells (T_ u) 131)).cell? (A_ w 3)=some (pF (some (A_ g off)) ln v.lc):=fun n=>Ct (w:=wr.drewN n) d3 _;have T:∀n,Aa [] wr (((wr.drewN n).alloc (.cells (T_ u) 131)).alloc (.cells #[pF ta k tc,pF (some (A_ wr 0)) 1 1,pF rb nr rd] 27)):=fun n=>(((Aa.refl [] wr).drewN n).alloc _).alloc _;have J:Hi ((v.lv.take k).length=k):=lH (by rw [Ax,HLN.o,DE bB]);have G:Hi ((v.lv.drop (k+1)).length=nr):=lH (by rw [B1,HLN.o];have:=ax.o;omega);have N:Hi (nr<=1000):=lH (by have h1:=ax.o;omega);have F:w.heap.size+1+1<wr.heap.size:=BS HB2.o.lt HK.o.size;have HPV:Hi (DC v.lv u=v.lv.take k++[u]++v.lv.drop (k+1)):=lH (by
      unfold DC;rw [an.o,aw.o];dsimp only;rw [if_pos hq])
     have O:Hi ((DC v.lv u).length=k+1+nr):=lH (by
      rw [HPV.o,Al,Al,J.o,G.o];rfl)
     refine wp_region_held_drew (S:=(fun _:World=>True)) bC trivial (fun hHeld=>?_)
     repeat' (first | exact rZ | refine rX ?_ | ((first | (refine rA 1 (fun K hK=>?_) ?_;go_simp) | (refine rA 5 (fun K hK=>?_) ?_;go_simp) | (refine rA 6 (fun K hK=>?_) ?_;go_simp) | (refine rA 8 (fun K hK=>?_) ?_;go_simp) | (refine rA 9 (fun K hK=>?_) ?_;go_simp;(refine(JW (wr+1) 27 ta (some (A_ wr 0)) rb tc 1 rd k 1 nr (v.lv.take k) [u] (v.lv.drop (k+1)) J.o rfl G.o bB (by have:=N.o;omega) _ (Ar _ _ _ _ bA) (HTS.o.keeps (T _)) (AR.of_cells CF (Blk.alloc (Ar _ 131 (T_ u) wr bA) _) bA (by simp [BE])) (bh.o.keeps (T _))).mono ?_;rintro e w9 ⟨xa,xc,rfl,aa,hk9,E⟩;have B:Aa [] wz w9:=(HK.o.trans (T _)).trans hk9;have E:∀g o,xa=some (A_ g o)->wr.heap.size<=g:=(fun g o e=>by(have:=E g o e;simp at this;omega));have e3:=(HB0.o.keeps B bA).cell 3;have f3:=(HB0.o.keeps B bA).frozen 3;simp only [An,Aj,Ao] at e3)) | (refine rA 11 (fun K hK=>?_) ?_;go_simp));refine rO hK trivial fun hHeld=>?_;clear hK K) | (refine rQ 0 ?_;refine rQ 2 ?_;refine rQ 3 ?_;refine rQ 7 ?_) | (refine rQ 4 ?_) | (refine rQ 10 ?_) | refine rB [1,5,6,8,9,11] ?_ | (refine wpAnyH_done bC ?_ _;(have g0:=(HB0.o.keeps B bA).cell 0;have g1:=(HB0.o.keeps B bA).cell 1;have g2:=(HB0.o.keeps B bA).cell 2;have g4:=(HB0.o.keeps B bA).cell 4;have z0:=(HB2.o.keeps B bA).cell 0;have z1:=(HB2.o.keeps B bA).cell 1;have z2:=(HB2.o.keeps B bA).cell 2;have z3:=(HB2.o.keeps B bA).cell 3;have z4:=(HB2.o.keeps B bA).cell 4;have y0:=(HB2.o.keeps B bA).frozen 0;have y1:=(HB2.o.keeps B bA).frozen 1;have y2:=(HB2.o.keeps B bA).frozen 2;have y3:=(HB2.o.keeps B bA).frozen 3;have y4:=(HB2.o.keeps B bA).frozen 4;simp only [An,Aj,Ao] at g0 g1 g2 g4 z0 z1 z2 z3 z4;go_wp2_with fail;exact bodyPost_ret (v:=pH #[pF v.s.ga gn v.s.gc,pF v.s.ua un v.s.uc,pF v.s.fa fn v.s.fc,pF xa (k+1+nr) xc,I_ seq]) (by simp [results,results118,go_sem,z0,z1,z2,z3,z4]) rfl (Q7 HPV.o O.o aa B HZ.o E F (LK w w9 _ _ _ _ _ _ _ _)))))
    ·have f7:(x2.slot==u.slot)=false:=Tb;obtain⟨nk,M⟩:=eX (ln - k);rw [M] at U i3;have al:=lH M;have af:0<nk:=bB;have bp:1<=nk:=af;clear M;go_wp2;go_quiet (fail);go_wp2_with fail;go_quiet (fail);go_upto_region 7 with fail
     have D:=lH ((HB1.o.keeps HK.o bA));have b0:=D.out.ce 0;have b1:=D.out.ce 1;have b2:=D.out.ce 2;have b3:=D.out.ce 3;have b4:=D.out.ce 4;have b5:=D.out.ce 5;have b6:=D.out.ce 6;have b7:=D.out.ce 7;have az:∀n,((wr.drewN n).alloc (.cells (T_ u) 131)).cell? (A_ w 3)=some (pF (some (A_ g off)) ln v.lc):=fun n=>Ct (w:=wr.drewN n) d3 _;have T:∀n,Aa [] wr (((wr.drewN n).alloc (.cells (T_ u) 131)).alloc (.cells #[pF ta k tc,pF (some (A_ wr 0)) 1 1,pF (some (A_ g2 ab)) nk rc] 27)):=fun n=>(((Aa.refl [] wr).drewN n).alloc _).alloc _;have J:Hi ((v.lv.take k).length=k):=lH (by rw [Ax,HLN.o,DE bB]);have G:Hi ((v.lv.drop k).length=nk):=lH (by rw [B1,HLN.o];have:=al.o;omega);have N:Hi (nk<=1000):=lH (by have h1:=al.o;omega);have F:w.heap.size+1+1<wr.heap.size:=BS HB2.o.lt HK.o.size;have HPV:Hi (DC v.lv u=v.lv.take k++[u]++v.lv.drop k):=lH (by
      unfold DC;rw [an.o,aw.o];dsimp only;rw [if_neg hq])
     have O:Hi ((DC v.lv u).length=k+1+nk):=lH (by
      rw [HPV.o,Al,Al,J.o,G.o];rfl)
     refine wp_region_held_drew (S:=(fun _:World=>True)) bC trivial (fun hHeld=>?_)
     repeat' (first | exact rZ | refine rX ?_ | ((first | (refine rA 1 (fun K hK=>?_) ?_;go_simp) | (refine rA 5 (fun K hK=>?_) ?_;go_simp) | (refine rA 6 (fun K hK=>?_) ?_;go_simp) | (refine rA 8 (fun K hK=>?_) ?_;go_simp) | (refine rA 9 (fun K hK=>?_) ?_;go_simp;(refine(JW (wr+1) 27 ta (some (A_ wr 0)) (some (A_ g2 ab)) tc 1 rc k 1 nk (v.lv.take k) [u] (v.lv.drop k) J.o rfl G.o bB (by have:=N.o;omega) _ (Ar _ _ _ _ bA) (HTS.o.keeps (T _)) (AR.of_cells CF (Blk.alloc (Ar _ 131 (T_ u) wr bA) _) bA (by simp [BE])) (am.o.keeps (T _))).mono ?_;rintro e w9 ⟨xa,xc,rfl,aa,hk9,E⟩;have B:Aa [] wz w9:=(HK.o.trans (T _)).trans hk9;have E:∀g o,xa=some (A_ g o)->wr.heap.size<=g:=(fun g o e=>by(have:=E g o e;simp at this;omega));have e3:=(HB0.o.keeps B bA).cell 3;have f3:=(HB0.o.keeps B bA).frozen 3;simp only [An,Aj,Ao] at e3)) | (refine rA 11 (fun K hK=>?_) ?_;go_simp));refine rO hK trivial fun hHeld=>?_;clear hK K) | (refine rQ 0 ?_;refine rQ 2 ?_;refine rQ 3 ?_;refine rQ 7 ?_) | (refine rQ 4 ?_) | (refine rQ 10 ?_) | refine rB [1,5,6,8,9,11] ?_ | (refine wpAnyH_done bC ?_ _;(have g0:=(HB0.o.keeps B bA).cell 0;have g1:=(HB0.o.keeps B bA).cell 1;have g2:=(HB0.o.keeps B bA).cell 2;have g4:=(HB0.o.keeps B bA).cell 4;have z0:=(HB2.o.keeps B bA).cell 0;have z1:=(HB2.o.keeps B bA).cell 1;have z2:=(HB2.o.keeps B bA).cell 2;have z3:=(HB2.o.keeps B bA).cell 3;have z4:=(HB2.o.keeps B bA).cell 4;have y0:=(HB2.o.keeps B bA).frozen 0;have y1:=(HB2.o.keeps B bA).frozen 1;have y2:=(HB2.o.keeps B bA).frozen 2;have y3:=(HB2.o.keeps B bA).frozen 3;have y4:=(HB2.o.keeps B bA).frozen 4;simp only [An,Aj,Ao] at g0 g1 g2 g4 z0 z1 z2 z3 z4;go_wp2_with fail;exact bodyPost_ret (v:=pH #[pF v.s.ga gn v.s.gc,pF v.s.ua un v.s.uc,pF v.s.fa fn v.s.fc,pF xa (k+1+nk) xc,I_ seq]) (by simp [results,results118,go_sem,z0,z1,z2,z3,z4]) rfl (Q7 HPV.o O.o aa B HZ.o E F (LK w w9 _ _ _ _ _ _ _ _)))))
   ·obtain rfl:k=ln:=bB;have a7:k - k=0:=bB;rw [a7] at U;have i2:¬(k:Int)<(k:Int):=bB;clear ad ap hno ac a7;go_wp2;go_quiet (fail);go_wp2_with fail;go_quiet (fail);go_upto_region 7 with fail
    have D:=lH ((HB1.o.keeps HK.o bA));have b0:=D.out.ce 0;have b1:=D.out.ce 1;have b2:=D.out.ce 2;have b3:=D.out.ce 3;have b4:=D.out.ce 4;have b5:=D.out.ce 5;have b6:=D.out.ce 6;have b7:=D.out.ce 7;have az:∀n,((wr.drewN n).alloc (.cells (T_ u) 131)).cell? (A_ w 3)=some (pF v.la k v.lc):=fun n=>Ct (w:=wr.drewN n) d3 _;have T:∀n,Aa [] wr (((wr.drewN n).alloc (.cells (T_ u) 131)).alloc (.cells #[pF ta k tc,pF (some (A_ wr 0)) 1 1,pF ra 0 rc] 27)):=fun n=>(((Aa.refl [] wr).drewN n).alloc _).alloc _;have J:Hi ((v.lv.take k).length=k):=lH (by rw [Ax,HLN.o,Nat.min_self]);have F:w.heap.size+1+1<wr.heap.size:=BS HB2.o.lt HK.o.size;have HPV:Hi (DC v.lv u=v.lv.take k++[u]++v.lv.drop k):=lH (by
     unfold DC;rw [an.o,List.drop_of_length_le lM])
    have O:Hi ((DC v.lv u).length=k+1):=lH (by
     rw [HPV.o,Al,Al,Ax,B1,HLN.o];simp)
    have G:Hi ((v.lv.drop k).length=0):=lH (by rw [B1,HLN.o,Nat.sub_self]);refine wp_region_held_drew (S:=(fun _:World=>True)) bC trivial (fun hHeld=>?_)
    repeat' (first | exact rZ | refine rX ?_ | ((first | (refine rA 1 (fun K hK=>?_) ?_;go_simp) | (refine rA 5 (fun K hK=>?_) ?_;go_simp) | (refine rA 6 (fun K hK=>?_) ?_;go_simp) | (refine rA 8 (fun K hK=>?_) ?_;go_simp) | (refine rA 9 (fun K hK=>?_) ?_;go_simp;(refine(JW (wr+1) 27 ta (some (A_ wr 0)) ra tc 1 rc k 1 0 (v.lv.take k) [u] (v.lv.drop k) J.o rfl G.o bB bB _ (Ar _ _ _ _ bA) (HTS.o.keeps (T _)) (AR.of_cells CF (Blk.alloc (Ar _ 131 (T_ u) wr bA) _) bA (by simp [BE])) (am.o.keeps (T _))).mono ?_;rintro e w9 ⟨xa,xc,rfl,aa,hk9,E⟩;have B:Aa [] wz w9:=(HK.o.trans (T _)).trans hk9;have E:∀g o,xa=some (A_ g o)->wr.heap.size<=g:=(fun g o e=>by(have:=E g o e;simp at this;omega));have e3:=(HB0.o.keeps B bA).cell 3;have f3:=(HB0.o.keeps B bA).frozen 3;simp only [An,Aj,Ao] at e3)) | (refine rA 11 (fun K hK=>?_) ?_;go_simp));refine rO hK trivial fun hHeld=>?_;clear hK K) | (refine rQ 0 ?_;refine rQ 2 ?_;refine rQ 3 ?_;refine rQ 7 ?_) | (refine rQ 4 ?_) | (refine rQ 10 ?_) | refine rB [1,5,6,8,9,11] ?_ | (refine wpAnyH_done bC ?_ _;(have g0:=(HB0.o.keeps B bA).cell 0;have g1:=(HB0.o.keeps B bA).cell 1;have g2:=(HB0.o.keeps B bA).cell 2;have g4:=(HB0.o.keeps B bA).cell 4;have z0:=(HB2.o.keeps B bA).cell 0;have z1:=(HB2.o.keeps B bA).cell 1;have z2:=(HB2.o.keeps B bA).cell 2;have z3:=(HB2.o.keeps B bA).cell 3;have z4:=(HB2.o.keeps B bA).cell 4;have y0:=(HB2.o.keeps B bA).frozen 0;have y1:=(HB2.o.keeps B bA).frozen 1;have y2:=(HB2.o.keeps B bA).frozen 2;have y3:=(HB2.o.keeps B bA).frozen 3;have y4:=(HB2.o.keeps B bA).frozen 4;simp only [An,Aj,Ao] at g0 g1 g2 g4 z0 z1 z2 z3 z4;go_wp2_with fail;exact bodyPost_ret (v:=pH #[pF v.s.ga gn v.s.gc,pF v.s.ua un v.s.uc,pF v.s.fa fn v.s.fc,pF xa (k+1) xc,I_ seq]) (by simp [results,results118,go_sem,z0,z1,z2,z3,z4]) rfl (Q7 HPV.o O.o aa B HZ.o E F (LK w w9 _ _ _ _ _ _ _ _)))))
theorem Blk.put5{w:World}{g:Nat}{t:TypeId}{x0 x1 x2 x3 x4:Value}(h:Blk w g t #[x0,x1,x2,x3,x4])(a b c d e:Value):Blk (((((w.setCell (A_ g 0) a).setCell (A_ g 1) b).setCell (A_ g 2) c).setCell (A_ g 3) d).setCell (A_ g 4) e) g t #[a,b,c,d,e]:=((((h.set_ 0 a).set_ 1 b).set_ 2 c).set_ 3 d).set_ 4 e
theorem G6(w:World)(g:Nat)(a b c d e:Value):Aa [g] w (((((w.setCell (A_ g 0) a).setCell (A_ g 1) b).setCell (A_ g 2) c).setCell (A_ g 3) d).setCell (A_ g 4) e):=((((Ae w g 0 a).trans (Ae _ g 1 b)).trans (Ae _ g 2 c)).trans (Ae _ g 3 d)).trans (Ae _ g 4 e)
structure IF(B:Nat)(v:B6):Prop where
 s:Ja B v.s
 l:Dj B v.la
 t:∀u∈v.lv,Kx B u
theorem Ja.mono{B B':Nat}{v:DF}(h:Ja B v)(hb:B'<=B):Ja B' v:=⟨Dj.mono h.1 hb,Dj.mono h.2.1 hb,Dj.mono h.2.2 hb⟩
theorem IF.mono{B B':Nat}{v:B6}(h:IF B v)(hb:B'<=B):IF B' v:=⟨h.s.mono hb,h.l.mono hb,fun u hu=>(h.t u hu).mono hb⟩
theorem Cj.ge{w w':World}{u:TV}{t:Ten}{B:Nat}{S:List Nat}(h:Cj w u t)(hg:Kx B u)(hk:Aa S w w')(hS:∀y∈S,y<B):Cj w' u t:=h.keepsS hk (Dj.out hg.1 hS) (Dj.out hg.2 hS)
theorem AX.ge{w w':World}{B:Nat}{S:List Nat}(hk:Aa S w w')(hS:∀y∈S,y<B):∀ {V:List TV} {L:List Ten},AX w V L->(∀u∈V,Kx B u)->AX w' V L
 | [],[],_,_=>trivial
 | _::_,_::_,h,hg=>⟨h.1.ge (hg _ bA) hk hS,AX.ge hk hS h.2 (fun u hu=>hg u (by simp [hu]))⟩
 | [],_::_,h,_=>h.elim
 | _::_,[],h,_=>h.elim
theorem Dy.ge{w w':World}{v:DF}{s:Fz}{B:Nat}{S:List Nat}(h:Dy w v s)(hg:Ja B v)(hk:Aa S w w')(hS:∀y∈S,y<B):Dy w' v s:=h.keepsS hk (Dj.out hg.1 hS) (Dj.out hg.2.1 hS) (Dj.out hg.2.2 hS)
theorem CH.ge{w w':World}{v:B6}{r:CJ}{B:Nat}{S:List Nat}(h:CH w v r)(hg:IF B v)(hk:Aa S w w')(hS:∀y∈S,y<B):CH w' v r:=
 { h with s:=h.s.ge hg.s hk hS,l:=h.l.keepsS hk (Dj.out hg.l hS),t:=AX.ge hk hS h.t hg.t }
theorem Y1(n:Int)(w:World):Calls prog 57 #[pE pK n] w fun e w'=>∃v gn un fn,e = pJ (.tuple #[pH #[pF v.ga gn v.gc,pF v.ua un v.uc,pF v.fa fn v.fc,pF none 0 0,I_ 0],I_ (IU n).2])/\(IU n).1.gens.length=gn/\(IU n).1.used.length=un/\(IU n).1.free.length=fn/\Dy w' v (IU n).1/\Ja w v/\Aa [] w w':=by
 obtain⟨wz,hwz⟩:=eX (w.alloc (.cells LU.k 29));have HZ:Hi (Aa [] w wz):=lH jV;have HSZ:Hi (wz.heap.size=w.heap.size+1):=lH gA;have HB:Hi (Blk wz w 29 LU.k):=lH nN;go_enter func57,ntmps57;go_wp2_with fail;clear hwz;refine(aM n wz).mono ?_;rintro e w1 ⟨x,rfl,⟨v,gn,un,fn,rfl,h1,h2,h3,hm,D⟩,hk⟩;obtain⟨wa,E⟩:=eX (w1.alloc (.cells (S_ v gn un fn) 26));have B:Aa [] w1 wa:=by rw [<- E];exact(Aa.refl [] w1).alloc _
 have hb:=HB.o.keeps (hk.trans B) bA;have hs:Blk wa w1 26 (S_ v gn un fn):=by rw [<- E];exact Blk.new w1 _ _
 have z:=hb.cell;have y:=hb.frozen;have s:=hs.cell;have HFIN:Hi (∀F,Aa [w.heap.size] wa F->Dy F v (IU n).1/\Ja w v/\Aa [] w F):=lH fun F hkf=>by
  have hx:=(HZ.o.trans hk).trans B;have hsz:=HSZ.o;exact⟨(hm.keeps B).ge D hkf bF,D.mono bB,hx.own hkf bF⟩
 clear hm hk D B hb hs;go_wp2_with fail;refine bodyPost_ret (v:=.tuple #[pH #[pF v.ga gn v.gc,pF v.ua un v.uc,pF v.fa fn v.fc,pF none 0 0,I_ 0],I_ (IU n).2]) (by simp [results,results57,go_sem,z]) rfl ⟨v,gn,un,fn,rfl,h1,h2,h3,HFIN.o _ bJ⟩
theorem DQ{w:World}{B k n c sz:Nat}{e:TypeId}{a:Option Addr}{xs:List Value}(h:w.ownsRow B e sz (pF a n c) k xs):Dj B a:=fun g o e=>(h.lt g (by rw [e];rfl)).1
theorem ZR(u:TV)(t:Ten)(seq:Int)(w:World)(B:Cj w u t)(hr:u.rl<=1000)(T:u.cl<=1000):
  Calls prog 109 #[pH (U_ u seq)] w fun e w'=>∃ra rc ca cc,e = pJ (pH #[pE pK u.slot,I_ u.gen,Dz u.name,I_ u.state,I_ u.version,pF ra u.rl rc,pF ca u.cl cc,I_ u.deadline])/\w'.ownsRow w 55 5 (pF ra u.rl rc) u.rl (t.rules.flatMap B8)/\w'.ownsRow w 209 4 (pF ca u.cl cc) u.cl (t.creds.flatMap BT)/\Aa [] w w':=by
 obtain⟨wz,hwz⟩:=eX ((w.alloc (.cells (U_ u seq) 166)).alloc (.cells OC.k 131));have hz:Aa [] w wz:=by rw [<- hwz];exact((Aa.refl [] w).alloc _).alloc _
 have HB0:Hi (Blk wz w 166 (U_ u seq)):=lH kI;have HB1:Hi (Blk wz (w+1) 131 OC.k):=lH aF;have HSZ:Hi (wz.heap.size=w.heap.size+1+1):=lH gA;have HR:=lH (fun W (hk:Aa [] wz W)=>KB u.ra u.rc t.rules u.rl B.rl bB W (B.rs.keeps (hz.trans hk)));have HC:=lH (fun W (hk:Aa [] wz W)=>XY u.ca u.cc t.creds u.cl B.cl bB W (B.cs.keeps (hz.trans hk)));have HZ:=lH hz;have N:=lH B.rl;have M:=lH B.cl;have b:=HB0.o.cell;have HFIN:Hi (∀(w2 D:World) (ra ca:Option Addr) (rc cc:Nat),w2.ownsRow wz 55 5 (pF ra u.rl rc) u.rl (t.rules.flatMap B8)->w2.ownsRow wz 209 4 (pF ca u.cl cc) u.cl (t.creds.flatMap BT)->Aa [] wz w2->Aa [w.heap.size,w.heap.size+1] w2 D->
   ∃a c b d,pJ (pH #[pE pK u.slot,I_ u.gen,Dz u.name,I_ u.state,I_ u.version,pF ra u.rl rc,pF ca u.cl cc,I_ u.deadline]) = pJ (pH #[pE pK u.slot,I_ u.gen,Dz u.name,I_ u.state,I_ u.version,pF a u.rl c,pF b u.cl d,I_ u.deadline])/\D.ownsRow w 55 5 (pF a u.rl c) u.rl (t.rules.flatMap B8)/\D.ownsRow w 209 4 (pF b u.cl d) u.cl (t.creds.flatMap BT)/\Aa [] w D):=lH fun w2 D ra ca rc cc h1 h2 O E=>by
  have hs:=HSZ.o;have hS:∀y∈[w.heap.size,w.heap.size+1],y<wz.heap.size:=fun y hy=>by simp only [Ac,Ab,or_false] at hy;omega
  have hn:∀y,wz.heap.size<=y->y∉[w.heap.size,w.heap.size+1]:=fun y hy hm=>by have:=hS y hm;omega
  exact⟨ra,rc,ca,cc,rfl,Bw (Ah h1 E (fun g hg=>hn g (h1.lt g hg).1)) bB,Bw (Ah h2 E (fun g hg=>hn g (h2.lt g hg).1)) bB,(hz.trans O).own E bF⟩
 clear hz B hr T;go_enter func109,ntmps109;go_wp2;clear hwz;refine wp_region_held_drew (S:=(fun W:World=>True)) bC trivial (fun hHeld=>?_)
 repeat' (first | exact rZ | refine rX ?_ | ((first | (refine rA 2 (fun K hK=>?_) ?_;go_simp) | (refine rA 3 (fun K hK=>?_) ?_;go_simp;(refine(HR.o _ ((Aa.refl [] wz).drew)).mono ?_;rintro e w1 ⟨ra,rc,rfl,X,J,G⟩;have hk1:Aa [] wz w1:=((Aa.refl [] wz).drew).trans G;have c:=(HB0.o.keeps hk1 bA).cell)) | (refine rA 6 (fun K hK=>?_) ?_;go_simp) | (refine rA 7 (fun K hK=>?_) ?_;go_simp;(refine(HC.o _ hk1).mono ?_;rintro e w2 ⟨ca,cc,rfl,U,F,hck⟩;have hk2:Aa [] wz w2:=hk1.trans hck;have f:=(HB0.o.keeps hk2 bA).frozen;have d:=(HB0.o.keeps hk2 bA).cell)) | (refine rA 10 (fun K hK=>?_) ?_;go_simp) | (refine rA 13 (fun K hK=>?_) ?_;go_simp));refine rO hK trivial fun hHeld=>?_;clear hK K) | (refine rQ 0 ?_;refine rQ 1 ?_;refine rQ 4 ?_;refine rQ 5 ?_) | (refine rQ 8 ?_;refine rQ 9 ?_) | (refine rQ 11 ?_;refine rQ 12 ?_) | refine rB [2,3,6,7,10,13] ?_ | (refine wpAnyH_done bC ?_ _;(have x:=(HB1.o.keeps hk2 bA).cell;have y:=(HB1.o.keeps hk2 bA).frozen;go_wp2_with fail;exact bodyPost_ret (v:=pH #[pE pK u.slot,I_ u.gen,Dz u.name,I_ u.state,I_ u.version,pF ra u.rl rc,pF ca u.cl cc,I_ u.deadline]) (by simp [results,results109,go_sem,x]) rfl (HFIN.o w2 _ ra ca rc cc (Ah J hck (fun g hg=>by simp)) (Bw F hk1.size) hk2 bJ))))
structure PH(w:World)(B:Nat)(v:TV)(t:Ten):Prop where
 m:Cj w v t
 r:w.ownsRow B 55 5 (pF v.ra v.rl v.rc) v.rl (t.rules.flatMap B8)
 c:w.ownsRow B 209 4 (pF v.ca v.cl v.cc) v.cl (t.creds.flatMap BT)
def EK(w:World)(B:Nat):List TV->List Ten->Prop
 | [],[]=>True
 | v::V,t::L=>PH w B v t/\EK w B V L
 | _,_=>False
def U3(w:World)(B:Nat)(S:List Nat):Prop:=∀y∈S,y<B\/∃cs,Blk w y 131 cs
theorem PH.keeps{w w':World}{B:Nat}{v:TV}{t:Ten}{S:List Nat}(h:PH w B v t)(hk:Aa S w w')(hS:U3 w B S):PH w' B v t:=by
 have hr:∀g,(pF v.ra v.rl v.rc).ownBlock=some g->g∉S:=fun g hg hm=>by
  rcases hS g hm with h1 | ⟨cs,h1⟩
  ·have:=(h.r.lt g hg).1
   omega
  ·exact CX h.r h1 bE g hg rfl
 have E:∀g,(pF v.ca v.cl v.cc).ownBlock=some g->g∉S:=fun g hg hm=>by
  rcases hS g hm with h1 | ⟨cs,h1⟩
  ·have:=(h.c.lt g hg).1
   omega
  ·exact CX h.c h1 bE g hg rfl
 have D:=Ah h.r hk hr;have c2:=Ah h.c hk E;exact⟨{ h.m with rs:=AR.row Cv (by rw [h.m.rl];exact D),cs:=AR.row D0 (by rw [h.m.cl];exact c2) },D,c2⟩
theorem EK.keeps{w w':World}{B:Nat}{S:List Nat}(hk:Aa S w w')(hS:U3 w B S):∀ {V:List TV} {L:List Ten},EK w B V L->EK w' B V L
 | [],[],_=>trivial
 | _::_,_::_,h=>⟨h.1.keeps hk hS,EK.keeps hk hS h.2⟩
 | [],_::_,h=>h.elim
 | _::_,[],h=>h.elim
theorem EK.m{w:World}{B:Nat}: ∀ {V:List TV} {L:List Ten},EK w B V L->AX w V L
 | [],[],_=>trivial
 | _::_,_::_,h=>⟨h.1.m,EK.m h.2⟩
 | [],_::_,h=>h.elim
 | _::_,[],h=>h.elim
theorem EK.ge{w:World}{B:Nat}: ∀ {V:List TV} {L:List Ten},EK w B V L->∀u∈V,Kx B u
 | [],[],_,u,hu=>by simp at hu
 | _::_,_::_,h,u,hu=>by
  rcases Ac.1 hu with rfl | hu
  ·exact⟨fun g o e=>(h.1.r.lt g (by rw [e];rfl)).1,fun g o e=>(h.1.c.lt g (by rw [e];rfl)).1⟩
  ·exact EK.ge h.2 u hu
 | [],_::_,h,_,_=>h.elim
 | _::_,[],h,_,_=>h.elim
theorem EK.snoc{w:World}{B:Nat}{x:TV}{t:Ten}(hx:PH w B x t):∀ {V:List TV} {L:List Ten},EK w B V L->EK w B (V++[x]) (L++[t])
 | [],[],_=>⟨hx,trivial⟩
 | _::_,_::_,h=>⟨h.1,EK.snoc hx h.2⟩
 | [],_::_,h=>h.elim
 | _::_,[],h=>h.elim
theorem EK.len{w:World}{B:Nat}{V:List TV}{L:List Ten}(h:EK w B V L):V.length=L.length:=AX.len h.m
structure fK(w:World)(v:B6)(gn un fn ln:Nat)(seq:Int)(L:List Ten)(xa:Option Addr)(xc:Nat)(xs:List TV)(A:World):Prop where
 row:A.ownsRow (w.heap.size+6) 131 8 (pF xa xs.length xc) xs.length (xs.flatMap BE)
 ob:Blk A (w.heap.size+1+1) 27 #[pF xa xs.length xc]
 t:EK A (w.heap.size+6) xs L
 rb:Blk A w.heap.size 29 (R_ v gn un fn ln seq)
 r2:Blk A (w.heap.size+1) 29 LU.k
 pb:Blk A (w.heap.size+3) 29 (R_ v gn un fn ln seq)
 kw:Aa [] w A
def fJ(w:World)(v:B6)(gn un fn ln:Nat)(seq:Int)(L:List Ten)(A:World):Prop:=∃xa xc xs,fK w v gn un fn ln seq L xa xc xs A
theorem fK.keeps{w:World}{v:B6}{gn un fn ln:Nat}{seq:Int}{L:List Ten}{D:Option Addr}{E:Nat}{xs:List TV}{A B:World}{S:List Nat}(h:fK w v gn un fn ln seq L D E xs A)(hk:Aa S A B)(hS:∀y∈S,w.heap.size+4<=y/\y<w.heap.size+6):fK w v gn un fn ln seq L D E xs B:=by
 have hn:∀y,y<w.heap.size+4->y∉S:=fun y hy hm=>by have:=hS y hm;omega
 exact⟨Ah h.row hk (fun g hg2 hm=>by have:=(h.row.lt g hg2).1;have:=hS g hm;omega),h.ob.keeps hk (hn _ bB),h.t.keeps hk (fun y hy=>.inl (hS y hy).2),h.rb.keeps hk (hn _ bB),h.r2.keeps hk (hn _ bB),h.pb.keeps hk (hn _ bB),h.kw.own hk bM⟩
theorem fJ.keeps{w:World}{v:B6}{gn un fn ln:Nat}{seq:Int}{L:List Ten}{A B:World}{S:List Nat}(h:fJ w v gn un fn ln seq L A)(hk:Aa S A B)(hS:∀y∈S,w.heap.size+4<=y/\y<w.heap.size+6):fJ w v gn un fn ln seq L B:=by
 obtain⟨D,E,xs,h⟩:=h;exact⟨D,E,xs,h.keeps hk hS⟩
theorem fK.push{w:World}{v:B6}{gn un fn ln:Nat}{seq:Int}{L:List Ten}{J:Option Addr}{M:Nat}{xs:List TV}{A:World}(h:fK w v gn un fn ln seq L J M xs A)(hl:L.length<=1000)(hA:w.heap.size+6<=A.heap.size){z:TV}{t:Ten}(hz:PH A (w.heap.size+6) z t):
  ∃g n c W3,(BI #[27,27] 27 #[pF J xs.length M,pF (some (A_ A 0)) 1 1]).run prog (A.alloc (.cells (BE z).toArray 131)) = .ok (pF (some (A_ g 0)) n c) W3/\
   Blk W3 (w+1+1) 27 #[pF J xs.length M]/\fJ w v gn un fn ln seq (L++[t]) (W3.setCell (A2 w 0) (pF (some (A_ g 0)) n c))/\
   A.heap.size<=(W3.setCell (A2 w 0) (pF (some (A_ g 0)) n c)).heap.size/\∀y∈[w.heap.size+4,w.heap.size+5],(W3.setCell (A2 w 0) (pF (some (A_ g 0)) n c)).heap[y]? = A.heap[y]?:=by
 obtain⟨g,c,W3,F,B,hk3,T⟩:=CO (enc:=BE) prog (t:=27) underlying27 Io bE CF FB h.row hA z (by have:=h.t.len;omega) 27;have hgeS:=AZ h.row;have hne:∀y,y<w.heap.size+6->y∉(pF J xs.length M).ownBlock.toList:=fun y hy hm=>by have:=hgeS y hm;omega
 have E:=h.ob.keeps hk3 (hne _ bB);have hN:U3 A (w.heap.size+6) (pF J xs.length M).ownBlock.toList:=fun y hy=>.inr (DP h.row bU);have hk4:Aa [w.heap.size+1+1] W3 (W3.setCell (A2 w 0) (pF (some (A_ g 0)) (xs.length+1) c)):=Ae _ _ _ _;have D:∀y∈[w.heap.size+1+1],y<w.heap.size+6:=fun y hy=>by simp only [Ac,Ab,or_false] at hy;omega
 refine⟨g,_,c,W3,F,E,⟨some (A_ g 0),c,xs++[z],?_⟩,?_,?_⟩
 ·have h9:=Ah B hk4 (fun O N hm'=>by have:=(B.lt O N).1;have:=D _ hm';omega)
  rw [Al,Bp] at h9;refine⟨by rw [Al,Bp];exact h9,by rw [Al,Bp];exact E.set_ 0 _,((h.t.snoc hz).keeps hk3 hN).keeps hk4 (fun y hy=>.inl (D y hy)),(h.rb.keeps hk3 (hne _ bB)).keeps hk4 bI,(h.r2.keeps hk3 (hne _ bB)).keeps hk4 bA,(h.pb.keeps hk3 (hne _ bB)).keeps hk4 bA,(h.kw.own hk3 jW).own hk4 bF⟩
 ·exact A8 hk3.size hk4.size
 ·intro y hy
  have G:y<w.heap.size+6/\y≠w.heap.size+1+1:=by simp only [Ac,Ab,or_false] at hy;omega
  exact(hk4.block y (by have:=hk3.size;omega) (by simpa using G.2)).trans (hk3.block y bB (hne y G.1))
theorem YY{w:World}{v:B6}{r:CJ}{gn un fn ln:Nat}{seq:Int}{xa ga ua fa:Option Addr}{O gc uc fc B:Nat}{xs:List TV}{W0 w7 T:World}(hM:CH w v r)(hln:r.l.length=ln)(F:fK w v gn un fn ln seq r.l xa O xs W0)(hB:w.heap.size+6<=B)(hk7:Aa [] W0 w7)
 (X:F1 w7 ga gc r.slots.gens)(Y:GX w7 ua uc r.slots.used)(U:F1 w7 fa fc r.slots.free)(M:Dj B ga)(N:Dj B ua)(G:Dj B fa)(D:Aa [w.heap.size+1,w.heap.size+4] w7 T):
  ∃v':B6,pJ (pH #[pF ga gn gc,pF ua un uc,pF fa fn fc,pF xa xs.length O,I_ seq]) = pJ (pH (R_ v' gn un fn ln seq))/\CH T v' r/\IF w v'/\Aa [] w T:=by
 have hS:∀y∈[w.heap.size+1,w.heap.size+4],y<w.heap.size+6:=fun y hy=>by simp only [Ac,Ab,or_false] at hy;omega
 have E:∀y∈[w.heap.size+1,w.heap.size+4],y<B:=fun y hy=>by have:=hS y hy;omega
 have hT:=F.t.keeps hk7 (fun y hy=>by simp at hy);have hrow:AR BE 8 w7 xa O xs:=AR.row CF (Ah F.row hk7 (fun g hg=>by simp));have J:Dj (w.heap.size+6) xa:=DQ F.row;have hl:xs.length=ln:=by rw [F.t.len,hln]
 rw [hl];refine⟨⟨⟨ga,gc,ua,uc,fa,fc⟩,xa,O,xs⟩,rfl,{ s:=⟨X.keepsS D (M.out E),Y.keepsS D (N.out E),U.keepsS D (G.out E),hM.s.sg,hM.s.su,hM.s.sf⟩,l:=hrow.keepsS D (J.out hS),t:=(hT.keeps D (fun y hy=>.inl (hS y hy))).m,sl:=hM.sl,small:=hM.small },⟨⟨M.mono bB,N.mono bB,G.mono bB⟩,J.mono bB,fun u hu=>(F.t.ge u hu).mono bB⟩,(F.kw.trans hk7).own D bF⟩
theorem RI(v:B6)(r:CJ)(gn un fn ln:Nat)(hg:r.slots.gens.length=gn)(hu:r.slots.used.length=un)(hf:r.slots.free.length=fn)(hln:r.l.length=ln)(seq:Int)(hsq:r.seq=seq)(w:World)(h:CH w v r):
  Calls prog 50 #[pH (R_ v gn un fn ln seq)] w fun x w'=>∃v':B6,x = pJ (pH (R_ v' gn un fn ln seq))/\CH w' v' r/\IF w v'/\Aa [] w w':=by
 subst hsq;obtain⟨seq,U⟩:=eX r.seq;have ac:=fun W=>FU v r gn un fn ln W;rw [U] at ac ⊢;refine(callsIn_wide (n:=9)).1 ?_;have HL:=lH h.l;have HT:=lH h.t;have HLN:Hi (v.lv.length=ln):=lH lP;have a9:ln<=1000:=by have:=h.sl;omega
 have HM:=lH h;have ay:=lH ac;have HG:=lH hg;have HU:=lH hu;have HF:=lH hf;clear h hln ac U hg hu hf;refine callsIn_of_wp_marks func50 rfl trivial ?_ rfl;simp only [ntmps50,Cz,Av,D4,pL,pM,Bt,Bu,Cd,BD,BH,AL];gi_wp2_with fail;refine⟨trivial,(callsIn_wide.2 (ay.o _)).mono ?_⟩;rintro e w1 ⟨rfl,hw1⟩;gi_wp2_with fail;have hsz:w1.heap.size=w.heap.size+4:=by rw [<- hw1];simp
 have ag:fJ w v gn un fn ln seq [] w1:=by
  have hk:Aa [] w w1:=by rw [<- hw1];exact((((Aa.refl [] w).alloc _).alloc _).alloc _).alloc _
  refine⟨none,0,[],BQ _ _ _ _,?_,trivial,?_,?_,?_,hk⟩<;>rw [<- hw1]
  ·exact(Ar _ _ _ _ bA).alloc _
  ·exact(((Blk.new w _ _).alloc _).alloc _).alloc _
  ·exact((Ar _ _ _ _ bA).alloc _).alloc _
  ·exact Ar _ _ _ _ bA
 have aq:=lH ag;clear ag hw1;refine Cc rfl bB (gf:=136) (lb:=#[pG (some (A3 w 0))]) rfl trivial (enters_of func136 bC rfl) (FV 8 (w+1+1+1) v.la v.lc ln v.lv HLN.o a9 seq) (fun _=>rfl)
  (fun D A=>fJ w v gn un fn ln seq (r.l.take D.length) A) (fun _ _=>False)
  (fun D A A' h hk=>h.keeps hk bF)
  (fun D A A' h hk=>h)
  (fun D A h=>by obtain⟨_,_,_,h⟩:=h;exact⟨h.pb.cell 3,h.pb.cell 4,HL.o.keeps h.kw⟩) aq.o
  (fun k W=>(fun u:TV=>(({ tmps:=#[pH (R_ v gn un fn ln seq),p_ w 0,p1 w 0,p2 w 0,UD,p_ W 0,UD,pH (R_ v gn un fn ln seq),
     .func (.func 136) #[] #[pG (some (A3 w 0))],I_ (k:Int),pH (U_ u seq),UD,UD,UD,UD,UD,UD,UD,UD,UD,UD,UD,UD,UD,UD,UD,UD,UD,UD,UD,UD,UD],defers:=[] } : Act),W.alloc (.cells (U_ u seq) 166))) (v.lv.getD k tv0))
  (fun k W=>(Aa.refl [] W).alloc _) ?assign ?body ?done ?stop
 case assign=>
  intro l k W K hK;simp only [Mg];dsimp only at hK;generalize v.lv.getD k tv0=u at hK ⊢;gi_wp2;exact hK
 case body=>
  rintro l D k W W2 hI G X hk2;obtain⟨rfl,hkn⟩:=E8 G;obtain⟨u,hu⟩:∃u,v.lv[k]? = some u:=⟨_,Aq iV⟩;have hgd:v.lv.getD k tv0=u:=by rw [AO,hu];rfl
  obtain⟨t,ht,J⟩:=HT.o.get? hu;dsimp only at hk2 ⊢;rw [hgd] at hk2 ⊢;rw [AP] at hI;have bh:W.heap.size+1<=W2.heap.size:=by have:=hk2.size;rw [Eo] at this;exact this
  have a1:=(hI.keeps ((Aa.refl [] W).alloc (.cells (U_ u seq) 166)) bA).keeps hk2 bF;have hb:=(Blk.new W 166 (U_ u seq)).keeps hk2 bI;obtain⟨xa,xc,xs,N⟩:=a1;have HJ:=lH N;have b:=hb.cell;have x:=N.ob.cell;obtain⟨n,hn⟩:=eX xs.length;have au:Hi ((r.l.take k).length<=1000):=lH (by rw [Ax];have:=HM.o.sl;omega);have HTS:Hi (r.l.take (AC k++[k]).length=r.l.take k++[t]):=lH (by rw [Al,AP,Bp,A0 ht]);have ba:=HM.o.small t (CD ht);have az:=lH (fun W' (hk:Aa [] W2 W')=>ZR u t seq W' (J.keeps (N.kw.trans hk)) (by have:=J.rl;omega) (by have:=J.cl;omega));have a0:Hi (∀(W5:World) (ra ca:Option Addr) (rc cc:Nat),Aa [] W2 W5->W5.ownsRow W2 55 5 (pF ra u.rl rc) u.rl (t.rules.flatMap B8)->W5.ownsRow W2 209 4 (pF ca u.cl cc) u.cl (t.creds.flatMap BT)->
    PH W5 (w.heap.size+6) { u with ra:=ra,rc:=rc,ca:=ca,cc:=cc } t):=lH fun W5 ra ca rc cc hk h1 h2=>by
   have hm:=J.keeps (N.kw.trans hk);have h1:=Bw h1 (show w.heap.size+6<=W2.heap.size by omega);have h2:=Bw h2 (show w.heap.size+6<=W2.heap.size by omega);exact⟨{ hm with rs:=AR.row Cv (by rw [hm.rl];exact h1),cs:=AR.row D0 (by rw [hm.cl];exact h2) },h1,h2⟩
  clear hI G hk2 hb N hgd hu ht J ba hn;gi_wp2_with fail;refine BA (S:=(fun W:World=>True)) bC bC (fun _ _ h=>h) trivial (fun hHeld=>?_)
  repeat' (first | exact rZ | refine rX ?_ | ((first | (refine rA 0 (fun K hK=>?_) ?_;go_simp) | (refine rA 1 (fun K hK=>?_) ?_;go_simp) | (refine rA 2 (fun K hK=>?_) ?_;go_simp;(refine(az.o _ ((Aa.refl [] W2).drew)).mono ?_;rintro e w5 ⟨ra,rc,ca,cc,rfl,al,aj,hk5⟩;have hk5:Aa [] W2 w5:=((Aa.refl [] W2).drew).trans hk5;have Y:=lH (HJ.o.keeps hk5 bA);have x5:=Y.o.ob.cell;have ao:=a0.o _ _ _ _ _ hk5 al aj;obtain⟨g,n9,c9,W9,am,T,ah,an,ai⟩:=Y.o.push au.o (by have:=hk5.size;omega) ao;have y5:=fun o=>((Y.o.ob.alloc o).cell);have O:=lH T;have ar:=lH ah;have aw:=lH (A8 hk5.size an);have ap:Hi (∀y∈[w1.heap.size,w1.heap.size+1],(W9.setCell (A2 w 0) (pF (some (A_ g 0)) n9 c9)).heap[y]? = W2.heap[y]?):=lH (fun y hy=>(ai y (by simpa [hsz,EA] using hy)).trans (hk5.block y gB bA));clear T ah an ai hk5 al aj ao)) | (refine rA 3 (fun K hK=>?_) ?_;go_simp) | (refine rA 4 (fun K hK=>?_) ?_;(refine BG _ _ 27 bD bD bD bD am ?_;have f9:=O.o.frozen;have x9:=O.o.cell)) | (refine rA 5 (fun K hK=>?_) ?_;go_simp));refine rO hK trivial fun hHeld=>?_;clear hK K) | refine rB [0,1,2,3,4,5] ?_ | (refine wpAnyH_done bC ?_ _;(gi_wp2_with fail;refine⟨aw.o,ap.o,?_⟩;show fJ w v gn un fn ln seq (r.l.take (AC k++[k]).length) _;rw [HTS.o];exact ar.o)))
 case done=>
  rintro W hI X hK;rw [AP,Ak (by have:=AX.len HT.o;have:=HLN.o;omega)] at hI;obtain⟨xa,xc,xs,N⟩:=hI;have b:=N.rb.cell;obtain⟨W0,ab⟩:=eX (W.alloc (.cells (S_ v.s gn un fn) 26));have hk0:Aa [] W W0:=by rw [<- ab];exact(Aa.refl [] W).alloc _
  have HSB:Hi (Blk W0 W 26 (S_ v.s gn un fn)):=lH (by rw [<- ab];exact Blk.new _ _ _);have HJ:=lH (N.keeps hk0 bA);have HK:Hi (W0.heap[w.heap.size+4]? = some (.deferred (some []))):=lH (by rw [<- hsz];exact(hk0.block _ bB bA).trans hK);have av:Hi (r.l.length=ln):=lH (by have:=AX.len HT.o;have:=HLN.o;omega);have HSZ:Hi (w.heap.size+6<=W0.heap.size/\w.heap.size+6<=W.heap.size):=lH (by have:=hk0.size;omega);have HS:Hi (∀A,Aa [w.heap.size+1] W0 A->Aa [w.heap.size+1] W0 A/\(∀i,A.cell? (A_ W i)=((S_ v.s gn un fn):Array Value)[i]?)/\(∀i,A.cell? (A2 w i)=(#[pF xa xs.length xc]:Array Value)[i]?)/\(∀i,A.cell? (A_ w i)=((R_ v gn un fn ln seq):Array Value)[i]?)):=lH fun A hk=>by
   have:=HSZ.o;exact⟨hk,(HSB.o.keeps hk bI).cell,(HJ.o.ob.keeps hk bI).cell,(HJ.o.rb.keeps hk bI).cell⟩
  have aa:Hi (∀A,Aa [w.heap.size+1] W0 A->Aa [] w A):=lH fun A hk=>HJ.o.kw.own hk bF;clear N hk0 hK;gi_wp2_with fail;clear ab b;refine I6 (S:=(fun A:World=>Aa [w.heap.size+1] W0 A/\(∀i,A.cell? (A_ W i)=((S_ v.s gn un fn):Array Value)[i]?)/\(∀i,A.cell? (A2 w i)=(#[pF xa xs.length xc]:Array Value)[i]?)/\(∀i,A.cell? (A_ w i)=((R_ v gn un fn ln seq):Array Value)[i]?))) bC bC (by((try dsimp only);(first | exact HS.o _ ((Aa.refl _ W0).drew) | exact HS.o _ (hHeld.1.trans (F.mono bA)) | exact HS.o _ (hHeld.1.trans (M.mono bA)) | exact HS.o _ (hHeld.1.trans (E.mono bA)) | exact HS.o _ (by(repeat with_reducible refine Aa.setCell ?_ (.inl bA) _);with_reducible exact hHeld.1)))) (fun hHeld=>?_)
  repeat' (first | exact rZ | refine rX ?_ | ((first | (refine rA 2 (fun K hK=>?_) ?_;go_simp;(refine(PR v.s.ga v.s.gc r.slots.gens gn HG.o (by have:=HM.o.s.sg;have:=HG.o;omega) _ (HM.o.s.g.keeps (aa.o _ hHeld.1))).mono ?_;rintro e w5 ⟨ga,gc,rfl,a7,a6,F⟩)) | (refine rA 5 (fun K hK=>?_) ?_;go_simp;(refine(Rb v.s.ua v.s.uc r.slots.used un HU.o (by have:=HM.o.s.su;have:=HU.o;omega) _ (HM.o.s.u.keeps (aa.o _ hHeld.1))).mono ?_;rintro e w6 ⟨ua,uc,rfl,be,bd,M⟩)) | (refine rA 8 (fun K hK=>?_) ?_;go_simp;(refine(PR v.s.fa v.s.fc r.slots.free fn HF.o (by have:=HM.o.s.sf;have:=HF.o;omega) _ (HM.o.s.f.keeps (aa.o _ hHeld.1))).mono ?_;rintro e w7 ⟨fa,fc,rfl,a5,a4,E⟩;have hk7:Aa [] W0 w7:=(((Aa.refl [] W0).drew.trans F).trans M).trans E;have z:=(HJ.o.r2.keeps hk7 bA).cell;have y:=(HJ.o.r2.keeps hk7 bA).frozen)) | (refine rA 14 (fun K hK=>?_) ?_;go_simp));refine rO hK (by((try dsimp only);(first | exact HS.o _ ((Aa.refl _ W0).drew) | exact HS.o _ (hHeld.1.trans (F.mono bA)) | exact HS.o _ (hHeld.1.trans (M.mono bA)) | exact HS.o _ (hHeld.1.trans (E.mono bA)) | exact HS.o _ (by(repeat with_reducible refine Aa.setCell ?_ (.inl bA) _);with_reducible exact hHeld.1)))) fun hHeld=>?_;clear hK K) | (refine rQ 0 ?_;refine rQ 1 ?_;refine rQ 3 ?_;refine rQ 4 ?_;refine rQ 6 ?_;refine rQ 7 ?_;refine rQ 10 ?_;refine rQ 11 ?_;refine rQ 12 ?_) | (refine rQ 9 ?_;refine rQ 13 ?_) | refine rB [2,5,8,14] ?_ | (refine wpAnyH_done bC ?_ _;simp only [YX];(gi_wp2_with fail;have hW:=HSZ.o;have ak:=G6 w7 (w+1) (pF ga gn gc) (pF ua un uc) (pF fa fn fc) (pF xa xs.length xc) (I_ seq);have a3:=((HJ.o.r2.keeps hk7 bA).put5 (pF ga gn gc) (pF ua un uc) (pF fa fn fc) (pF xa xs.length xc) (I_ seq)).keeps (AG (S:=[w.heap.size+4]) (l:=w.heap.size+4) _ (.deferred none) bA) bA;have zF:=a3.cell;refine⟨by simp,.inl ⟨_,_,rfl,run_takeDeferred ((ak.block _ (by have:=hk7.size;omega) bI).trans ((hk7.block _ bB bA).trans HK.o)),?_⟩⟩;refine⟨pH #[pF ga gn gc,pF ua un uc,pF fa fn fc,pF xa xs.length xc,I_ seq],by simp [results,results50,go_sem,zF],?_⟩;exact YY (B:=W0.heap.size) HM.o av.o HJ.o hW.1 hk7 ((a7.keeps M).keeps E) (be.keeps E) a5 (DQ a6) ((DQ bd).mono F.size) ((DQ a4).mono (A8 F.size M.size)) ((ak.mono bA).trans (AG _ _ bA)))))
 case stop=>
  rintro D W G hX X hK;exact hX.elim
end
section
open Go.RowKit
theorem O7(t:Ten)(c:FW)(now:Int):(Bv t c now).1.version=t.version:=by
 unfold Bv
 (repeat' split)<;>rfl
theorem RK(l:List EX)(a:Int)(r:EX):(BU l a r).1.length<=l.length+1:=by
 unfold BU
 repeat' split
 all_goals (try simp)
 omega
theorem Sz(l:List EX)(a:Int):(Cl l a).1.length<=l.length+1:=by
 unfold Cl
 repeat' split
 all_goals (try simp [List.length_eraseIdx])
 split<;>omega
theorem Mo(l:List El)(k:ByteArray)(a b c:Int):(Bk l k a b c).1.length<=l.length+1:=by
 have h:(Cq l a b).length<=l.length:=List.length_filterMap_le ..;unfold Bk
 repeat' split
 all_goals (try simp)
 omega
theorem SL(t:Ten)(c:FW)(now:Int):(Bv t c now).1.rules.length<=t.rules.length+1/\(Bv t c now).1.creds.length<=t.creds.length+1:=by
 have h1:=RK t.rules c.at_ c.rule;have h2:=Sz t.rules (-(c.at_+1));have h3:=Mo t.creds c.key now c.n c.m;unfold Bv
 (repeat' split)<;>dsimp only<;>omega
theorem Zr{l:List Ten}{t x:Ten}(h:x∈GI l t):x=t\/x∈l:=by
 unfold GI at h;dsimp only at h;rcases AQ.1 h with h | h
 ·exact .inr (List.mem_of_mem_take h)
 ·rcases Ac.1 h with h | h
  ·exact .inl h
  ·right
   generalize hk:(l.takeWhile fun y=>decide (y.slot<t.slot)).length=k at h;split at h
   ·rename_i y m hd
    split at h
    ·exact List.mem_of_mem_drop (i:=k) (by rw [hd];exact Ca _ h)
    ·exact List.mem_of_mem_drop (i:=k) (by rw [hd];exact h)
   ·simp at h
theorem Zs{l:List TV}{t x:TV}(h:x∈DC l t):x=t\/x∈l:=by
 unfold DC at h;rcases AQ.1 h with h | h
 ·rcases AQ.1 h with h | h
  ·exact .inr (List.mem_of_mem_take h)
  ·exact .inl bK
 ·right
  generalize hk:(l.takeWhile fun y=>decide (y.slot<t.slot)).length=k at h;split at h
  ·rename_i y m hd
   split at h
   ·exact List.mem_of_mem_drop (i:=k) (by rw [hd];exact Ca _ h)
   ·exact List.mem_of_mem_drop (i:=k) (by rw [hd];exact h)
  ·simp at h
theorem Sv(l:List Ten)(t:Ten):(GI l t).length<=l.length+1:=by
 unfold GI;dsimp only;generalize (l.takeWhile fun y=>decide (y.slot<t.slot)).length=k;rw [Al,Av,Ax];have B:(l.drop k).length=l.length - k:=B1;split
 ·rename_i y m h
  rw [h,Av] at B;split<;>(try rw [Av])<;>omega
 ·simp;omega
theorem AX.eraseIdx{w:World}{V:List TV}{L:List Ten}(h:AX w V L)(k:Nat):AX w (V.eraseIdx k) (L.eraseIdx k):=by
 rw [List.eraseIdx_eq_take_drop_succ,List.eraseIdx_eq_take_drop_succ];exact(AX.take k h).app (AX.drop (k+1) h)
def DW(Q:Nat->Prop)(a:Option Addr)(n:Nat):Prop:=0<n->∀g o,a=some ⟨g,o,none⟩->¬Q g
def Ky(Q:Nat->Prop)(u:TV):Prop:=DW Q u.ra u.rl/\DW Q u.ca u.cl
structure CL(Q:Nat→Prop)(v:B6)(r:CJ):Prop where
 g:DW Q v.s.ga r.slots.gens.length
 u:DW Q v.s.ua r.slots.used.length
 f:DW Q v.s.fa r.slots.free.length
 l:DW Q v.la v.lv.length
 t:∀u∈v.lv,Ky Q u
theorem Dj.no{B n:Nat}{a:Option Addr}{Q:Nat->Prop}(h:Dj B a)(hQ:∀y,Q y->y<B):DW Q a n:=fun _ g o e hq=>by
 have:=h g o e;have:=hQ g hq;omega
theorem AR.no{α:Type}{enc:α->List Value}{n m:Nat}{w:World}{a:Option Addr}{c:Nat}{xs:List α}{Q:Nat->Prop}(h:AR enc n w a c xs)(hm:xs.length=m)(hQ:∀y,Q y->w.heap.size<=y):DW Q a m:=fun h0 g o e hq=>by
 obtain⟨g',o',e',hl,_⟩:=h.at_ bB;rw [e'] at e;injection e with e;injection e with e _ _
 have:=hQ g hq;omega
theorem Cj.no{w:World}{u:TV}{t:Ten}{Q:Nat->Prop}(h:Cj w u t)(hQ:∀y,Q y->w.heap.size<=y):Ky Q u:=⟨h.rs.no h.rl hQ,h.cs.no h.cl hQ⟩
theorem EY.no{B:Nat}{u u':TV}{Q:Nat->Prop}(h:EY B u u')(hu:Ky Q u)(hQ:∀y,Q y->y<B):Ky Q u':=
 ⟨h.1.elim (fun e=>by rw [e.1,e.2];exact hu.1) (fun e=>e.no hQ),h.2.elim (fun e=>by rw [e.1,e.2];exact hu.2) (fun e=>e.no hQ)⟩
theorem AX.no{w:World}{Q:Nat->Prop}(hQ:∀y,Q y->w.heap.size<=y):∀ {V:List TV} {L:List Ten},AX w V L->∀u∈V,Ky Q u
 | [],[],_,u,hu=>by simp at hu
 | _::_,_::_,h,u,hu=>by
  rcases Ac.1 hu with rfl | hu
  ·exact h.1.no hQ
  ·exact AX.no hQ h.2 u hu
 | [],_::_,h,_,_=>h.elim
 | _::_,[],h,_,_=>h.elim
theorem CH.later{w:World}{v:B6}{r:CJ}{Q:Nat->Prop}(h:CH w v r)(hQ:∀y,Q y->w.heap.size<=y):CL Q v r:=
 ⟨h.s.g.no rfl hQ,h.s.u.no rfl hQ,h.s.f.no rfl hQ,h.l.no rfl hQ,AX.no hQ h.t⟩
theorem IF.no{B:Nat}{v:B6}{r:CJ}{Q:Nat->Prop}(h:IF B v)(hQ:∀y,Q y->y<B):CL Q v r:=
 ⟨Dj.no h.s.1 hQ,Dj.no h.s.2.1 hQ,Dj.no h.s.2.2 hQ,h.l.no hQ,fun u hu=>⟨(h.t u hu).1.no hQ,(h.t u hu).2.no hQ⟩⟩
theorem Cj.stay{w w':World}{u:TV}{t:Ten}{Q:Nat->Prop}{S:List Nat}(h:Cj w u t)(hn:Ky Q u)(hk:Aa S w w')(hS:∀y∈S,Q y):Cj w' u t:=
 { h with rs:=h.rs.keepsN hk (fun h0 g o e hm=>hn.1 (by rw [<- h.rl];exact h0) g o e (hS g hm)),cs:=h.cs.keepsN hk (fun h0 g o e hm=>hn.2 (by rw [<- h.cl];exact h0) g o e (hS g hm)) }
theorem AX.stay{w w':World}{Q:Nat->Prop}{S:List Nat}(hk:Aa S w w')(hS:∀y∈S,Q y):∀ {V:List TV} {L:List Ten},AX w V L->(∀u∈V,Ky Q u)->AX w' V L
 | [],[],_,_=>trivial
 | _::_,_::_,h,hn=>⟨h.1.stay (hn _ bA) hk hS,AX.stay hk hS h.2 (fun u hu=>hn u (by simp [hu]))⟩
 | [],_::_,h,_=>h.elim
 | _::_,[],h,_=>h.elim
theorem CH.stay{w w':World}{v:B6}{r:CJ}{Q:Nat->Prop}{S:List Nat}(h:CH w v r)(hn:CL Q v r)(hk:Aa S w w')(hS:∀y∈S,Q y):CH w' v r:=
 { h with s:=⟨h.s.g.keepsN hk (fun h0 g o e hm=>hn.g h0 g o e (hS g hm)),h.s.u.keepsN hk (fun h0 g o e hm=>hn.u h0 g o e (hS g hm)),h.s.f.keepsN hk (fun h0 g o e hm=>hn.f h0 g o e (hS g hm)),h.s.sg,h.s.su,h.s.sf⟩,l:=h.l.keepsN hk (fun h0 g o e hm=>hn.l h0 g o e (hS g hm)),t:=AX.stay hk hS h.t hn.t }
theorem CL.put{Q:Nat->Prop}{v:B6}{r:CJ}{U:TV}{T:Ten}{a:Option Addr}{c:Nat}{seq:Int}(h:CL Q v r)(ha:DW Q a (DC v.lv U).length)(hU:Ky Q U):CL Q ⟨v.s,a,c,DC v.lv U⟩ ⟨r.slots,GI r.l T,seq⟩:=
 ⟨h.g,h.u,h.f,ha,fun u hu=>by
  rcases Zs hu with rfl | hu
  ·exact hU
  ·exact h.t u hu⟩
def OB(w:World)(v:B6)(r:CJ)(v':B6)(r':CJ):Prop:=∀Q:Nat->Prop,(∀y,Q y->y<w.heap.size)->CL Q v r->CL Q v' r'
theorem CH.put{w W:World}{v:B6}{r:CJ}{U:TV}{T:Ten}{a:Option Addr}{c:Nat}(h:CH w v r)(hk:Aa [] w W)(hs:AR BE 8 W a c (DC v.lv U))(E:Cj W U T)(hl:r.l.length<=900)(D:T.rules.length<=1000/\T.creds.length<=1000)(seq:Int):
  CH W ⟨v.s,a,c,DC v.lv U⟩ ⟨r.slots,GI r.l T,seq⟩/\(GI r.l T).length=(DC v.lv U).length:=by
 have B:=Zt (AX.keeps h.t hk) E;refine⟨⟨h.s.keeps hk,hs,B,?_,?_⟩,(AX.len B).symm⟩
 ·exact A8 (Sv r.l T) bB
 ·intro t B
  rcases Zr B with rfl | B
  ·exact D
  ·exact h.small t B
end
section
open Go.RowKit Go.Shelf
attribute [local go_sem] pN Lr Ls Lp Lq
attribute [local go_sem ↓] wp_at_zero wp_at_succ
def LZ(t:Ten):Ten:={ t with name:=Rl 41 t.name,rules:=t.rules.take 18,creds:=GN t.creds }
def F9(r:CJ):CJ:={ r with slots:=Fq r.slots,l:=(r.l.take 8).map LZ }
structure Lw(w:World)(v:B6)(r:CJ):Prop where
 g:F1 w v.s.ga v.s.gc r.slots.gens
 u:GX w v.s.ua v.s.uc r.slots.used
 f:F1 w v.s.fa v.s.fc r.slots.free
 l:AR BE 8 w v.la v.lc v.lv
 t:AX w v.lv r.l
 small:∀t∈r.l,t.name.size≤maxLen∧t.rules.length≤9223372036854775807∧t.creds.length≤9223372036854775807∧∀c∈t.creds,c.key.size≤maxLen
theorem Lw.keeps{w w':World}{v:B6}{r:CJ}(h:Lw w v r)(hk:Aa [] w w'):Lw w' v r:={ h with g:=h.g.keeps hk,u:=h.u.keeps hk,f:=h.f.keeps hk,l:=h.l.keeps hk,t:=h.t.keeps hk }
theorem Yg{w:World}{v:DF}{s:Fz}(hG:F1 w v.ga v.gc s.gens)(hU:GX w v.ua v.uc s.used)(hF:F1 w v.fa v.fc s.free):Dy w v (Fq s):=
 ⟨hG.take 66,hU.take 66,hF.take 66,by show(s.gens.take 66).length<=1000;rw [Ax];omega,by show(s.used.take 66).length<=1000;rw [Ax];omega,by show(s.free.take 66).length<=1000;rw [Ax];omega⟩
structure iP(wd:World)(ob:Nat)(x0 x1 x2:Value)(seq:Int)(L:List Ten)(xa:Option Addr)(xc:Nat)(xs:List TV)(A:World):Prop where
 row:A.ownsRow wd.heap.size 131 8 (pF xa xs.length xc) xs.length (xs.flatMap BE)
 bx:Blk A ob 29 #[x0,x1,x2,pF xa xs.length xc,pE pK seq]
 t:EK A wd.heap.size xs L
 kw:Aa [ob] wd A
theorem iP.push{wd:World}{E:Nat}{T U X:Value}{seq:Int}{L:List Ten}{J:Option Addr}{M:Nat}{xs:List TV}{A:World}(ab:E<wd.heap.size)(h:iP wd E T U X seq L J M xs A)(hl:L.length<=1000){W:World}(hk:Aa [] A W){z:TV}{t:Ten}(hz:PH W wd z t):
  ∃g c W3,(BI #[27,27] 27 #[pF J xs.length M,pF (some (A_ W 0)) 1 1]).run prog (W.alloc (.cells (BE z).toArray 131)) = .ok (pF (some (A_ g 0)) (xs.length+1) c) W3/\
   Blk W3 E 29 #[T,U,X,pF J xs.length M,I_ seq]/\iP wd E T U X seq (L++[t]) (some (A_ g 0)) c (xs++[z]) (W3.setCell (A_ E 3) (pF (some (A_ g 0)) (xs.length+1) c)):=by
 have hrow:=Ah h.row hk (fun _ _=>by simp);have F:=h.bx.keeps hk bA;have hT:=h.t.keeps hk (fun y hy=>by simp at hy);have N:wd.heap.size<=W.heap.size:=A8 h.kw.size hk.size;obtain⟨g,c,W3,G,B,hk3,_⟩:=CO (enc:=BE) prog (t:=27) underlying27 Io bE CF FB hrow N z (by have:=h.t.len;omega) 27;have hgeS:=AZ hrow;have hne:E∉(pF J xs.length M).ownBlock.toList:=fun hm=>by have:=hgeS _ hm;omega
 have D:=F.keeps hk3 hne;have hN:U3 W wd (pF J xs.length M).ownBlock.toList:=fun y hy=>.inr (DP hrow bU);have hk4:Aa [E] W3 (W3.setCell (A_ E 3) (pF (some (A_ g 0)) (xs.length+1) c)):=Ae _ _ _ _;refine⟨g,c,W3,G,D,?_⟩;have h9:=Ah B hk4 (fun Y O hm'=>by have:=(B.lt Y O).1;simp only [Ac,Ab,or_false] at hm';omega);rw [Al,Bp] at h9;refine⟨by rw [Al,Bp];exact h9,by rw [Al,Bp];exact D.set_ 3 _,((hT.snoc hz).keeps hk3 hN).keeps hk4 (fun y hy=>.inl gB),?_⟩;exact((h.kw.trans (hk.mono bA)).trans' hk3 (fun y hy=>.inr (hgeS y hy))).trans hk4
theorem eU{w wr w3 w4:World}{B m J c3 M c4:Nat}{X Y:Option Addr}{x u:Value}{y:TV}{t:Ten}(hB:B<=wr.heap.size)(O:wr.heap.size+1<=w3.heap.size)(hm:Cj w y t)(N:min y.name.size 41=m)
 (E:(t.rules.take 18).length=J)(D:w3.ownsRow (wr+1) 55 5 (pF X J c3) J ((t.rules.take 18).flatMap B8))(F:(GN t.creds).length=M)(G:w4.ownsRow (w3.setCell (A_ wr 5) x).heap.size 209 4 (pF Y M c4) M ((GN t.creds).flatMap BT))
 (hk4:Aa [] (w3.setCell (A_ wr 5) x) w4):PH (w4.setCell (A_ wr 6) u) B ⟨y.slot,y.gen,y.name.extract 0 m,y.state,y.version,X,J,c3,Y,M,c4,y.deadline⟩ (LZ t):=by
 have h1:Aa [wr.heap.size] w3 (w3.setCell (A_ wr 5) x):=Ae _ _ _ _;have h2:Aa [wr.heap.size] w4 (w4.setCell (A_ wr 6) u):=Ae _ _ _ _;have T:=Ah (Ah (Ah D h1 (fun g hg hm'=>by have:=(D.lt g hg).1;simp only [Ac,Ab,or_false] at hm';omega)) hk4 (fun _ _=>by simp)) h2 (fun g hg hm'=>by have:=(D.lt g hg).1;simp only [Ac,Ab,or_false] at hm';omega);have hz4:wr.heap.size+1<=(w3.setCell (A_ wr 5) x).heap.size:=A8 O h1.size;have U:=Ah G h2 (fun g hg hm'=>by have:=(G.lt g hg).1;simp only [Ac,Ab,or_false] at hm';omega);have e1:y.name.extract 0 m=Rl 41 t.name:=by rw [<- N,hm.name];rfl
 exact⟨⟨hm.slot,hm.gen,e1,hm.state,hm.version,hm.deadline,E,F,AR.row Cv (by rw [<- E] at T;exact T),AR.row D0 (by rw [<- F] at U;exact U)⟩,Bw T bB,Bw U bB⟩
theorem VP(v:B6)(r:CJ)(gn un fn ln:Nat)(hg:r.slots.gens.length=gn)(hu:r.slots.used.length=un)(hf:r.slots.free.length=fn)(hln:v.lv.length=ln)(b1:ln<=9223372036854775807)(seq:Int)(hsq:r.seq=seq)(wA:World)(hA:Lw wA v r)(w:World)(ar:Aa [] wA w):
  Calls prog 25 #[pH (R_ v gn un fn ln seq)] w fun e w'=>∃(v':B6) (g u f l:Nat),e = pJ (pH (R_ v' g u f l seq))/\CH w' v' (F9 r)/\
   ((F9 r).slots.gens.length=g/\(F9 r).slots.used.length=u/\(F9 r).slots.free.length=f/\(F9 r).l.length=l)/\CL (fun y=>wA.heap.size<=y/\y<w.heap.size) v' (F9 r)/\Aa [] w w':=by
 have h:=hA.keeps ar;subst hsq;obtain⟨seq,ay⟩:=eX r.seq;rw [ay];have HC9:Hi (∀W,Aa [] w W->Calls prog 60 #[pH (S_ v.s gn un fn)] W fun e w'=>∃g u f,e = pJ (pH (S_ v.s g u f))/\((Fq r.slots).gens.length=g/\(Fq r.slots).used.length=u/\(Fq r.slots).free.length=f)/\Aa [] W w'):=lH fun W hk=>
  (VO v.s r.slots gn un fn hg hu hf W (h.g.keeps hk) (h.u.keeps hk) (h.f.keeps hk)).mono fun _ _ ⟨g,u,f,h1,_,h3,h4⟩=>⟨g,u,f,h1,h3,h4⟩
 have bi:=lH (Yg h.g h.u h.f);have U:Hi (DW (fun y=>wA.heap.size<=y/\y<w.heap.size) v.s.ga (Fq r.slots).gens.length/\DW (fun y=>wA.heap.size<=y/\y<w.heap.size) v.s.ua (Fq r.slots).used.length/\DW (fun y=>wA.heap.size<=y/\y<w.heap.size) v.s.fa (Fq r.slots).free.length):=lH ⟨(hA.g.take 66).no rfl (fun _ hy=>hy.1),(hA.u.take 66).no rfl (fun _ hy=>hy.1),(hA.f.take 66).no rfl (fun _ hy=>hy.1)⟩;have H:=lH h;have HLN:=lH hln;clear hg hu hf h hln hA ar;obtain⟨w0,hw0⟩:=eX ((w.alloc (.cells (R_ v gn un fn ln seq) 29)).alloc (.cells LU.k 29));have HK0:Hi (Aa [] w w0):=lH lX;have hb0:Blk w0 w 29 (R_ v gn un fn ln seq):=by rw [<- hw0];exact(Blk.new w _ _).alloc _
 have hb1:Blk w0 (w+1) 29 LU.k:=by rw [<- hw0];exact Ar _ _ _ _ bA
 have HSZ:Hi (w0.heap.size=w.heap.size+2):=lH (by rw [<- hw0];simp);have q0:=hb0.rl;have HB0:=lH hb0;have HB1:=lH hb1;clear hb0 hb1;go_enter func25,ntmps25;go_wp2_with fail;clear hw0;go_cut [3] (fun x wd=>∃N g u f,x = p_ N 0/\Hi (Blk wd N 29 #[pF v.s.ga g v.s.gc,pF v.s.ua u v.s.uc,pF v.s.fa f v.s.fc,pF none 0 0,I_ seq])/\Hi ((Fq r.slots).gens.length=g/\(Fq r.slots).used.length=u/\(Fq r.slots).free.length=f)/\Hi (Aa [] w0 wd)/\Hi (w0.heap.size<=N))
 case first=>
  refine wp_region_held_drew (S:=(Aa [] w0)) bC (by((try dsimp only);(repeat(with_reducible first | exact B | exact Aa.refl _ _ | refine Aa.drew ?_ | refine Aa.alloc ?_ _ | refine Aa.own ?_ hkS (fun y hy=>fC))))) (fun hHeld=>?_)
  repeat' (first | exact rZ | refine rX ?_ | ((first | (refine rA 2 (fun K hK=>?_) ?_;go_simp;(refine(HC9.o _ (HK0.o.trans hHeld)).mono ?_;rintro er w3 ⟨g,u,f,rfl,D,hk3⟩;have bg:=lH D;clear D;have B:=hHeld.trans hk3;have ae:=B.size;have ch:=hHeld.size;have bu:=hk3.size;(try simp at bu))) | (refine rA 6 (fun K hK=>?_) ?_;go_simp) | (refine rA 7 (fun K hK=>?_) ?_;(refine DT 29 _ _ bD _ #[pF v.s.ga g v.s.gc,pF v.s.ua u v.s.uc,pF v.s.fa f v.s.fc,pF none 0 0,I_ seq] bD bD 29 LU.k ?_ rfl bC aG ?_;(· (repeat(with_reducible first | exact Blk.new _ _ _ | exact Ar _ _ _ _ bA | refine Blk.alloc ?_ _ | refine Blk.drew ?_ | refine Blk.keeps ?_ hk3 bA)));intro wS HRB hkS)));(try clear rH);refine rP hK ((by((try dsimp only);(repeat(with_reducible first | exact B | exact Aa.refl _ _ | refine Aa.drew ?_ | refine Aa.alloc ?_ _ | refine Aa.own ?_ hkS (fun y hy=>fC)))))) fun rH hHeld=>?_;clear hK K) | (refine rK 0 ?_;refine rK 1 ?_;refine rK 3 ?_;refine rK 4 ?_) | (refine rK 5 ?_) | refine rB [2,6,7] ?_ | (refine wpAnyH_done bC ?_ _;(go_wp2_with fail;go_meet;exact⟨_,g,u,f,rfl,lH HRB,bg,lH hHeld,lH gE⟩)))
 case rest=>
  obtain⟨N,g,u,f,rfl,ak,T,HKD,bd⟩:=hcut
  rename World=>wd
  clear q0;have HKW:Hi (Aa [] w wd):=lH (HK0.o.trans HKD.o);have HOL:Hi (w.heap.size+2<=N/\N<wd.heap.size):=lH ⟨by have:=HSZ.o;have:=bd.o;omega,ak.o.lt⟩;have be:Hi (iP wd N (pF v.s.ga g v.s.gc) (pF v.s.ua u v.s.uc) (pF v.s.fa f v.s.fc) seq [] none 0 [] wd):=lH ⟨BQ _ _ _ _,ak.o,trivial,Aa.refl _ _⟩;go_wp2;go_loopw [4] (fun i wr=>∃(k:Nat) (xa:Option Addr) (xc:Nat) (xs:List TV),k<=ln/\k<=8/\i = I_ k/\Hi (iP wd N (pF v.s.ga g v.s.gc) (pF v.s.ua u v.s.uc) (pF v.s.fa f v.s.fc) seq ((r.l.take k).map LZ) xa xc xs wr)) (fun i _=>8 - (intOf i).toNat)
  case atStart=>exact⟨0,none,0,[],Ba _,Ba _,rfl,be⟩
  case round=>
   obtain⟨k,xa,xc,xs,cd,hk8,rfl,HJ⟩:=hrel;have hb0:Blk wr w 29 (R_ v gn un fn ln seq):=(HB0.o.keeps HKD.o bA).keeps HJ.o.kw kK;have r0:=hb0.rl;have HKR:Hi (Aa [] w wr):=lH (HKW.o.own HJ.o.kw nV);have ba:Hi (wd.heap.size<=wr.heap.size):=lH HJ.o.kw.size;by_cases hlt:k<ln/\k<8
   ·obtain⟨h1,h2⟩:=hlt
    have J:k<v.lv.length:=by rw [HLN.o];exact h1
    obtain⟨gg,off,y,ha,aq,hy,hat⟩:=H.o.l.at_k (k:=k) J;have hkL:k<r.l.length:=by rw [<- H.o.t.len];exact J
    obtain⟨t,ht⟩:∃t,r.l[k]? = some t:=⟨_,Aq hkL⟩;have hm:Cj w y t:=by
     have h:=H.o.t.get k J hkL;rw [Aq J] at hy;rw [Aq hkL] at ht;rw [Option.some.inj hy,Option.some.inj ht] at h;exact h
    obtain⟨hs1,bt,F,M⟩:=H.o.small t (CD ht);have HM:=lH hm;have b7:=lH M;rw [ha] at r0;have hq:∀j u,(BE y)[j]? = some u->wr.cell? (A_ gg (off+k*8+j))=some u:=fun j u hj=>(HKR.o.cell (p:=A_ gg _) aq bA).trans (hat j u hj);have q0:=hq 0 _ rfl;have q1:=hq 1 _ rfl;have q2:=hq 2 _ rfl;have q3:=hq 3 _ rfl;have q4:=hq 4 _ rfl;have q5:=hq 5 _ rfl;have q6:=hq 6 _ rfl;have q7:=hq 7 _ rfl;rw [AT] at q0;have bs:y.name.size<=maxLen:=by rw [hm.name];exact hs1
    unfold maxLen at bs;obtain⟨m,ac⟩:∃m:Nat,min y.name.size 41=m:=⟨_,rfl⟩;obtain⟨z1,z2,z3⟩:=Iy y.name.size 41 41 m ac;have i1:(0:Int)<=(k:Int):=bB;have i2:(k:Int)<(ln:Int):=bB;have i3:(k:Int)<8:=bB;have ax:=hm.rl;have ap:=hm.cl;have bb:Hi (∀W,Aa [] w W->Calls prog 61 #[pF y.ra y.rl y.rc] W fun e w'=>∃a' n' c',e = pJ (.slice a' n' c')/\Ku w' a' c' (t.rules.take 18)/\(t.rules.take 18).length=n'/\w'.ownsRow W 55 5 (.slice a' n' c') n' ((t.rules.take 18).flatMap B8)/\Aa [] W w'):=lH fun W hW=>VZ y.ra y.rc t.rules y.rl ax bB W (hm.rs.keeps hW);have ai:Hi (∀W,Aa [] w W->Calls prog 62 #[pF y.ca y.cl y.cc] W fun e w'=>∃a' n' c',e = pJ (.slice a' n' c')/\Hg w' a' c' (GN t.creds)/\(GN t.creds).length=n'/\w'.ownsRow W 209 4 (.slice a' n' c') n' ((GN t.creds).flatMap BT)/\Aa [] W w'):=lH fun W hW=>Wa y.ca y.cc t.creds y.cl ap bB M W (hm.cs.keeps hW);have bl:Hi ((r.l.take (k+1)).map LZ=(r.l.take k).map LZ++[LZ t]):=lH (by rw [A0 ht,pO];rfl);have bh:=lH ac;clear ha J hkL hy hat ht hm hs1 bt F M hq ac ax ap aq hb0;go_wp2_with fail;have aa:Aa [] wr (wr.alloc (.cells #[pE pK y.slot,I_ y.gen,Dz (y.name.extract 0 m),I_ y.state,I_ y.version,pF y.ra y.rl y.rc,pF y.ca y.cl y.cc,I_ y.deadline] 131)):=(Aa.refl [] wr).alloc _;refine(bb.o _ (HKR.o.trans aa)).mono ?_;rintro e w3 ⟨a3,n3,c3,rfl,F,D,E,hk3⟩;have X:=(Blk.new wr 131 #[pE pK y.slot,I_ y.gen,Dz (y.name.extract 0 m),I_ y.state,I_ y.version,pF y.ra y.rl y.rc,pF y.ca y.cl y.cc,I_ y.deadline]).keeps hk3 bA;have B:Aa [] wr w3:=aa.trans hk3;have t3:=X.rl;have bj:=lH X;have HR3:=lH (Bl F (Bl D E));have aj:=lH B;have ae:wr.heap.size+1<=w3.heap.size:=by have:=hk3.size;rw [Eo] at this;exact this
    have bm:=lH ae;clear F D E hk3 B aa X ae r0 q0 q1 q2 q3 q4 q5 q6 q7;go_wp2_with fail;have ab:Aa [wr.heap.size] w3 (w3.setCell (A_ wr 5) (pF a3 n3 c3)):=Ae _ _ _ _;refine(ai.o _ (HKR.o.trans (aj.o.own ab bF))).mono ?_;rintro e w4 ⟨a4,n4,c4,rfl,M,av,aw,hk4⟩;obtain⟨F,D,E⟩:=HR3.o;rw [Eo] at E;have G:Aa [] wr w4:=(aj.o.own ab bF).trans hk4;have au:Aa [wr.heap.size] w4 (w4.setCell (A_ wr 6) (pF a4 n4 c4)):=Ae _ _ _ _;have Y:Blk w4 wr 131 #[pE pK y.slot,I_ y.gen,Dz (y.name.extract 0 m),I_ y.state,I_ y.version,pF a3 n3 c3,pF y.ca y.cl y.cc,I_ y.deadline]:=(bj.o.set_ 5 (pF a3 n3 c3)).keeps hk4 bA;have bq:Blk (w4.setCell (A_ wr 6) (pF a4 n4 c4)) wr 131 #[pE pK y.slot,I_ y.gen,Dz (y.name.extract 0 m),I_ y.state,I_ y.version,pF a3 n3 c3,pF a4 n4 c4,I_ y.deadline]:=Y.set_ 6 (pF a4 n4 c4);have az:=eU (u:=pF a4 n4 c4) ba.o bm.o HM.o bh.o D E av aw hk4;obtain⟨g5,c5,W5,O,ao,an⟩:=iP.push HOL.o.2 HJ.o (by rw [Bd,Ax];omega) (G.own au bF) az;have b2:=(HJ.o.bx.keeps G bA).rl;have hne:N≠wr.heap.size:=by have:=HJ.o.bx.lt;omega
    have t4:=Y.rl;have b5:=ao.rl;have bf:=lH an;clear F D E M av aw hk4 au ab G Y bq az ao an t3;simp only [BE,World.size_setCell] at O;go_wp2_with (at_builtin;refine Au _ rfl _ _ 27 rfl rfl rfl O ?_);go_roundw;case rel=>exact⟨k+1,some (A_ g5 0),c5,xs++[_],by omega,by omega,by go_num,lH (by rw [bl.o];exact bf.o)⟩
    case measure=>(simp [intOf];omega)
   ·have e1:((ln:Nat):Int)<=(k:Int)\/(8:Int)<=(k:Int):=bB;have hL:r.l.length=ln:=by rw [<- H.o.t.len];exact HLN.o
    have eL:(F9 r).l=(r.l.take k).map LZ:=by
     show(r.l.take 8).map LZ=_;rcases pP k 8 with h | h
     ·rw [Ak (by omega:r.l.length<=8),Ak (by omega:r.l.length<=k)]
     ·rw [show k=8 by omega]
    have HF:Hi (∀W',Aa [w.heap.size+1] wr W'->∃(v':B6) (g' u' f' l:Nat),pJ (pH #[pF v.s.ga g v.s.gc,pF v.s.ua u v.s.uc,pF v.s.fa f v.s.fc,pF xa xs.length xc,I_ seq]) = pJ (pH (R_ v' g' u' f' l seq))/\CH W' v' (F9 r)/\
      ((F9 r).slots.gens.length=g'/\(F9 r).slots.used.length=u'/\(F9 r).slots.free.length=f'/\(F9 r).l.length=l)/\CL (fun y=>wA.heap.size<=y/\y<w.heap.size) v' (F9 r)/\Aa [] w W'):=lH fun W' hk=>by
     have hkw:Aa [] w W':=HKR.o.own hk bF;have cg:w.heap.size+1<wd.heap.size:=by have:=HOL.o;omega
     have hT:=HJ.o.t.keeps hk (fun y hy=>.inl gB);have hrow:=Ah HJ.o.row hk (fun g' br hm'=>by have:=(HJ.o.row.lt g' br).1;simp only [Ac,Ab,or_false] at hm';omega);have hl:(F9 r).l.length=xs.length:=by rw [eL];exact HJ.o.t.len.symm
     refine⟨⟨v.s,xa,xc,xs⟩,g,u,f,xs.length,rfl,⟨bi.o.keeps hkw,AR.row CF hrow,by rw [eL];exact hT.m,by rw [hl,HJ.o.t.len,Bd,Ax];omega,fun t ht=>?_⟩,⟨T.o.1,T.o.2.1,T.o.2.2,hl⟩,⟨U.o.1,U.o.2.1,U.o.2.2,(DQ hrow).no (fun _ hy=>by omega),fun x hx=>⟨((EK.ge hT) x hx).1.no (fun _ hy=>by omega),((EK.ge hT) x hx).2.no (fun _ hy=>by omega)⟩⟩,hkw⟩;obtain⟨t',cf,rfl⟩:=BO.1 ht;exact⟨by show(t'.rules.take 18).length<=1000;rw [Ax];omega,by show((t'.creds.take 6).map Ot).length<=1000;rw [Bd,Ax];omega⟩
    have cr:=HJ.o.bx.rl;have hb1:Blk wr (w+1) 29 LU.k:=(HB1.o.keeps HKD.o bA).keeps HJ.o.kw kK;have bv:=lH hb1;have r1:=hb1.rl;clear hlt hL eL hb0 hb1;rcases pP k ln with hk | hk
    ·have i2:(k:Int)<(ln:Int):=bB;have i3:¬(k:Int)<8:=bB;clear e1;go_wp2_with fail;exact bodyPost_ret (v:=pH #[pF v.s.ga g v.s.gc,pF v.s.ua u v.s.uc,pF v.s.fa f v.s.fc,pF xa xs.length xc,I_ seq]) (by simp [results,results25,go_sem,r1]) rfl (HF.o _ (FN _ _ 0 _ _ _ _ _))
    ·have i2:¬(k:Int)<(ln:Int):=bB;clear e1;go_wp2_with fail;exact bodyPost_ret (v:=pH #[pF v.s.ga g v.s.gc,pF v.s.ua u v.s.uc,pF v.s.fa f v.s.fc,pF xa xs.length xc,I_ seq]) (by simp [results,results25,go_sem,r1]) rfl (HF.o _ (FN _ _ 0 _ _ _ _ _))
end
section
open Go.RowKit Go.Shelf
attribute [local go_sem] pN
attribute [local go_sem ↓] wp_at_zero wp_at_succ
def QG(k:Int)(f n:Nat):MapEntry:={ key:=pE pK k,val:=.func (.func f) #[] #[],born:=n }
def IP:Array MapEntry:=#[QG 2 117 0,QG 3 199 1,QG 4 200 2,QG 6 201 3,QG 7 202 4,QG 5 203 5,QG 8 203 6,QG 10 203 7]
theorem GU(es:Array MapEntry)(c:Nat)(k:Int)(f:Nat)(hf:B0 (.int .i64) (I_ k) es.toList 0=some none)(w:World):
  (Instr.mapUpdate 276 (.map (some w)) (I_ k) (.func (.func f) #[] #[])).run prog (w.alloc (.map es c)) = .ok () (w.alloc (.map (es.push (QG k f c)) (c+1))):=
 Fh underlying276 underlying3 rfl hf
theorem Xp(w:World):Calls prog 156 #[] w fun r w'=>r = pJ (.map (some w))/\w.alloc (.map IP 8)=w':=by
 have hm:=fun W=>run_makeMap (P:=prog) 276 W;have h1:=GU #[] 0 2 117 rfl w;have h2:=GU (IP.extract 0 1) 1 3 199 rfl w;have h3:=GU (IP.extract 0 2) 2 4 200 rfl w;have h4:=GU (IP.extract 0 3) 3 6 201 rfl w;have B:=GU (IP.extract 0 4) 4 7 202 rfl w;have D:=GU (IP.extract 0 5) 5 5 203 rfl w;have E:=GU (IP.extract 0 6) 6 8 203 rfl w;have h8:=GU (IP.extract 0 7) 7 10 203 rfl w;simp only [IP,List.extract_toArray,List.extract_eq_take_drop,BC,Nat.sub_zero,List.take_succ_cons,List.take_zero,Cd,BH,AL,pL] at h1 h2 h3 h4 B D E h8;go_enter func156,ntmps156;go_wp2;go_ret;exact⟨rfl,rfl⟩
theorem Xo(cb:Nat)(u:TV)(t:Ten)(seq:Int)(c:FW)(now:Int)(hv:c.verb=2\/c.verb=3\/c.verb=4\/c.verb=5\/c.verb=6\/c.verb=7\/c.verb=8\/c.verb=10)(D:0<=now/\now<=1000000000000)(hat : -9223372036854775808<=c.at_/\c.at_<=9223372036854775807)(F:t.rules.length<=999/\t.creds.length<=1000):
  ∃f,(∀(W:World) (b:Nat),W.heap[b]? = some (.map IP 8)->(Ed 276 (.map (some b)) (I_ c.verb) false).run prog W = .ok (.func (.func f) #[] #[]) W)/\(∀(W:World) args,(callFunc f args).run prog W = .ok (.enter f args) W)/\
   ∀(w:World) (E:Nat->Addr),Et w->Fp w E->Blk w cb 223 (K7 u seq c now)->Cj w u t->FX cb u->Calls prog f #[pG (some (A_ cb 0))] w (Gt cb u seq c now (Bv t c now) w):=by
 have hl:∀(k:Int) (f i:Nat),B0 (.int .i64) (I_ k) IP.toList 0=some (some (i,.func (.func f) #[] #[]))->∀(W:World) (b:Nat),W.heap[b]? = some (.map IP 8)->(Ed 276 (.map (some b)) (I_ k) false).run prog W = .ok (.func (.func f) #[] #[]) W:=
  fun k f i hf W b hb=>(DD underlying276 underlying3 hb bS hf).2
 rcases hv with h | h | h | h | h | h | h | h
 ·refine⟨117,by rw [h];exact hl _ _ _ rfl,fun W args=>enters_of func117 bC rfl args W,fun w E _ _ hb B hf=>?_⟩
  rw [show Bv t c now=_ by unfold Bv;rw [if_pos h]];exact Mq cb u t seq c now w hb B hf
 ·refine⟨199,by rw [h];exact hl _ _ _ rfl,fun W args=>enters_of func199 bC rfl args W,fun w E _ _ hb B hf=>?_⟩
  rw [show Bv t c now=_ by unfold Bv;rw [if_neg bB,if_pos h]];exact Uj cb u t seq c now w hb B hf
 ·refine⟨200,by rw [h];exact hl _ _ _ rfl,fun W args=>enters_of func200 bC rfl args W,fun w E _ _ hb B hf=>?_⟩
  rw [show Bv t c now=_ by unfold Bv;rw [if_neg bB,if_neg bB,if_pos h]];exact VT cb u t seq c now D w hb B hf
 ·refine⟨203,by rw [h];exact hl _ _ _ rfl,fun W args=>enters_of func203 bC rfl args W,fun w E _ _ hb B hf=>?_⟩
  rw [show Bv t c now=(t,0) by unfold Bv;rw [if_neg bB,if_neg bB,if_neg bB,if_neg bB,if_neg bB]];exact Jo cb u t seq c now w hb B
 ·refine⟨201,by rw [h];exact hl _ _ _ rfl,fun W args=>enters_of func201 bC rfl args W,fun w E hg _ hb B hf=>?_⟩
  rw [show Bv t c now=_ by unfold Bv;rw [if_neg bB,if_neg bB,if_neg bB,if_pos h]];exact Ri cb u t seq c now w hg hb B F.2 hf
 ·refine⟨202,by rw [h];exact hl _ _ _ rfl,fun W args=>enters_of func202 bC rfl args W,fun w E _ hE hb B hf=>?_⟩
  rw [show Bv t c now=Vv t c by unfold Bv;rw [if_neg bB,if_neg bB,if_neg bB,if_neg bB,if_pos h];rfl];exact XW cb u t seq c now hat w E hE hb B F.1 hf
 ·refine⟨203,by rw [h];exact hl _ _ _ rfl,fun W args=>enters_of func203 bC rfl args W,fun w E _ _ hb B hf=>?_⟩
  rw [show Bv t c now=(t,0) by unfold Bv;rw [if_neg bB,if_neg bB,if_neg bB,if_neg bB,if_neg bB]];exact Jo cb u t seq c now w hb B
 ·refine⟨203,by rw [h];exact hl _ _ _ rfl,fun W args=>enters_of func203 bC rfl args W,fun w E _ _ hb B hf=>?_⟩
  rw [show Bv t c now=(t,0) by unfold Bv;rw [if_neg bB,if_neg bB,if_neg bB,if_neg bB,if_neg bB]];exact Jo cb u t seq c now w hb B
def jF(w0:World)(v0:B6)(r0:CJ)(w:World)(r:CJ)(x:Value):Prop:=∃(v:B6) (gn un fn ln:Nat),x = pH (R_ v gn un fn ln r.seq)/\r.slots.gens.length=gn/\r.slots.used.length=un/\r.slots.free.length=fn/\r.l.length=ln/\CH w v r/\OB w0 v0 r0 v r
def D8(v0:B6)(r0:CJ)(w:World)(R:CJ×Ten×Int):Ending->World->Prop:=fun e w'=>∃(v:B6) (gn un fn ln:Nat) (seq:Int) (u:TV),e = pJ (.tuple #[pH (R_ v gn un fn ln seq),pH (T_ u),FY R.2.2])/\
 (R.2.2=0->seq=R.1.seq/\R.1.slots.gens.length=gn/\R.1.slots.used.length=un/\R.1.slots.free.length=fn/\R.1.l.length=ln/\CH w' v R.1/\OB w v0 r0 v R.1/\u.slot=R.2.1.slot/\u.gen=R.2.1.gen/\u.version=R.2.1.version/\u.state=R.2.1.state)/\Aa [] w w'
def kT:TV:=⟨0,0,⟨#[]⟩,0,0,none,0,0,none,0,0,0⟩
theorem Il{v0:B6}{r0:CJ}{w w1 w':World}{R:CJ×Ten×Int}{v:B6}{gn un fn ln:Nat}{seq:Int}{er:Int}{S:List Nat}(h:R.2.2=er)(h0:er≠0)(hk:Aa [] w w1)(hk2:Aa S w1 w')(hS:∀y∈S,w.heap.size<=y):D8 v0 r0 w R (pJ (.tuple #[pH (R_ v gn un fn ln seq),.agg OC.k,.iface 215 (pH #[pE pK er])])) w':=
 ⟨v,gn,un,fn,ln,seq,kT,by rw [h,FY,if_neg h0];rfl,fun e=>absurd (h▸e) h0,hk.own hk2 hS⟩
theorem MN{F:B6}{E:CJ}{w w':World}{R:CJ×Ten×Int}{D:CJ}{B:Ten}{x:Value}{u:TV}(h:R=(D,B,0))(hx:jF w F E w' D x)(h1:u.slot=B.slot)(h2:u.gen=B.gen)(h3:u.version=B.version)(h4:u.state=B.state)(hk:Aa [] w w'):D8 F E w R (pJ (.tuple #[x,pH (T_ u),.nilIface])) w':=by
 subst h;obtain⟨v,gn,un,fn,ln,rfl,G,a2,J,M,N,O⟩:=hx;exact⟨v,gn,un,fn,ln,_,u,rfl,fun _=>⟨rfl,G,a2,J,M,N,O,h1,h2,h3,h4⟩,hk⟩
theorem EY.mono{B B':Nat}{u u':TV}(h:EY B u u')(hb:B'<=B):EY B' u u':=⟨h.1.imp id (fun e=>e.mono hb),h.2.imp id (fun e=>e.mono hb)⟩
theorem ZW{k:Int}(h:k=8\/k=10)(h8:(k==8)=false):(k==10)=true:=by
 have h1:¬k=8:=by simpa using h8
 simpa using h.resolve_left h1
theorem ZB{w:World}{B n c E:Nat}{e:TypeId}{a:Option Addr}{xs:List Value}(h:w.ownsRow B e E (pF a n c) n xs)(h0:0<n):∃g,a=some (A_ g 0)/\B<=g/\g<w.heap.size:=by
 obtain⟨m,rfl⟩:∃m,n=m+1:=⟨n - 1,by omega⟩;obtain⟨g,c2,D,hb,hl⟩:=QC h;injection D with D _ _
 exact⟨g,D,hb,hl⟩
theorem ZT{A:World}{a:Option Addr}{c i g1 o1:Nat}{xs:List TV}{u1:TV}(h:AR BE 8 A a c xs)(hx:xs[i]? = some u1)(B:a=some (A_ g1 o1)):A.cell? (A_ g1 (o1+i*8))=some (I_ u1.slot)/\A.cell? (A_ g1 (o1+i*8+1))=some (I_ u1.gen)/\A.cell? (A_ g1 (o1+i*8+2))=some (Dz u1.name)/\A.cell? (A_ g1 (o1+i*8+3))=some (I_ u1.state)/\A.cell? (A_ g1 (o1+i*8+4))=some (I_ u1.version)/\A.cell? (A_ g1 (o1+i*8+5))=some (pF u1.ra u1.rl u1.rc)/\A.cell? (A_ g1 (o1+i*8+6))=some (pF u1.ca u1.cl u1.cc)/\A.cell? (A_ g1 (o1+i*8+7))=some (I_ u1.deadline):=by
 have hi:=(Ad.1 hx).1;obtain⟨g,o,u,e,_,hx2,hat⟩:=h.at_k hi;rw [hx] at hx2;injection hx2 with hx2
 subst hx2;rw [B] at e;injection e with e;injection e with e1 e2 _
 subst e1;subst e2;exact⟨hat 0 _ rfl,hat 1 _ rfl,hat 2 _ rfl,hat 3 _ rfl,hat 4 _ rfl,hat 5 _ rfl,hat 6 _ rfl,hat 7 _ rfl⟩
theorem Ud{l:List Ten}{B:ByteArray}{i:Nat}(h:C7 l B=some i):∃t,l[i]? = some t/\l.getD i IX=t:=by
 unfold C7 at h;have:=(Dx.1 h).1;exact⟨l[i],Aq this,by rw [AO,Aq this];rfl⟩
theorem AX.getV{w:World}{V:List TV}{L:List Ten}(h:AX w V L){k:Nat}{t:Ten}(B:L[k]? = some t):∃u,V[k]? = some u/\Cj w u t:=by
 obtain⟨hk,e⟩:=Ad.1 B;have hk2:k<V.length:=by rw [h.len];exact hk
 exact⟨V[k],Aq hk2,by rw [<- e];exact h.get k hk2 hk⟩
theorem Qt(v:B6)(r:CJ)(gn un fn ln:Nat)(hg:r.slots.gens.length=gn)(hu:r.slots.used.length=un)(hf:r.slots.free.length=fn)(hln:r.l.length=ln)(seq:Int)(hsq:r.seq=seq)(c:FW)(now:Int)
 (hv:c.verb=2\/c.verb=3\/c.verb=4\/c.verb=5\/c.verb=6\/c.verb=7\/c.verb=8\/c.verb=10)(b5:0<=now/\now<=1000000000000)(hat : -9223372036854775808<=c.at_/\c.at_<=9223372036854775807)
 (av:r.l.length<=900/\(∀t∈r.l,t.rules.length<=900/\t.creds.length<=900/\0<=t.version/\t.version<=1000000000000))(w:World)(E:Nat->Addr)(hE:Fp w E)(bv:Et w)(h:CH w v r):
  Calls prog 113 #[pH (R_ v gn un fn ln seq),pH (K_ c),I_ now] w (D8 v r w (EL r c now)):=by
 obtain⟨wz,hwz⟩:=eX ((((w.alloc (.cells (R_ v gn un fn ln seq) 29)).alloc (.cells (K_ c) 57)).alloc (.cells LU.k 29)).alloc (.cells OC.k 131));have hz:Aa [] w wz:=by rw [<- hwz];exact((((Aa.refl [] w).alloc _).alloc _).alloc _).alloc _
 have HB0:Hi (Blk wz w 29 (R_ v gn un fn ln seq)):=lH nB;have HB1:Hi (Blk wz (w+1) 57 (K_ c)):=lH mZ;have HB2:Hi (Blk wz (w+1+1) 29 LU.k):=lH jU;have D:Hi (Blk wz (w+1+1+1) 131 OC.k):=lH aF;have HSZ:Hi (wz.heap.size=w.heap.size+4):=lH gA;have cp:=lH (Pv v r gn un fn ln lP (by have:=h.sl;omega) seq hsq c.name wz (h.l.keeps hz) (h.t.keeps hz));have Y:=HB0.o.cell;have b1:=HB1.o.cell;have HM:=lH h;have HG:=lH hg;have HU:=lH hu;have HF:=lH hf;have HLN:=lH hln;have HSQ:=lH hsq;have HZ:=lH hz;have an:=lH av;have cm:=lH hE;have cn:=lH bv;obtain⟨R,hR⟩:=eX (EL r c now);rw [hR];have HR:=lH hR;clear hg hu hf hln hsq hz h av hE bv hR;go_enter func113,ntmps113;go_wp2_with fail;clear hwz;refine cp.o.mono ?_;rintro e w1 ⟨rfl,hk1⟩;replace HB0:=lH (HB0.o.keeps hk1 bA);replace HB1:=lH (HB1.o.keeps hk1 bA);replace HB2:=lH (HB2.o.keeps hk1 bA);replace D:=lH (D.o.keeps hk1 bA);have hs1:=hk1.size;clear Y b1;have Y:=HB0.o.cell;have b1:=HB1.o.cell;have HK1:=lH (HZ.o.trans hk1);cases hp:C7 r.l c.name with
 | none=>
  have ac:Hi (R.2.2=154):=lH (by rw [<- HR.o];unfold EL;rw [hp]);clear hk1 hp;have y2:=HB2.o.frozen;have y3:=D.o.frozen;have z2:=HB2.o.cell;have z3:=D.o.cell;simp only [Option.isSome_none,Option.getD_none];go_wp2_with fail;exact bodyPost_ret (v:=.tuple #[pH (R_ v gn un fn ln seq),.agg OC.k,.iface 215 (pH #[pE pK 154])]) (by simp [results,results113,go_sem,z2,z3]) rfl (Il ac.o bE HK1.o (S:=[w.heap.size+1+1,w.heap.size+1+1+1]) bJ bF)
 | some i=>
  obtain⟨t,ht,bj⟩:=Ud hp;obtain⟨u,hu,cd⟩:=HM.o.t.getV ht;have au:i<ln:=by rw [<- HLN.o];exact(Ad.1 ht).1
  have X:v.lv.length=ln:=by rw [AX.len HM.o.t,HLN.o]
  obtain⟨g1,o1,u1,bh,hg1,hx1,hat1⟩:=(HM.o.l.keeps HK1.o).at_k (k:=i) (by rw [X];exact au);obtain rfl:u1=u:=by rw [hx1] at hu;injection hu
  have q:=fun j x=>hat1 j x;have bx:R=(if c.want≠0/\c.want≠t.version then(r,IX,155) else
   if(Bv t c now).2≠0 then(r,IX,(Bv t c now).2) else
    if c.verb=8\/c.verb=10 then(r,t,0)
    else if c.verb=5 then(⟨(CW r.slots ((Bv t c now).1.slot,(Bv t c now).1.gen)).1,r.l.eraseIdx i,r.seq⟩,{ (Bv t c now).1 with version:=(Bv t c now).1.version+1 },0)
    else(⟨r.slots,GI r.l { (Bv t c now).1 with version:=(Bv t c now).1.version+1 },r.seq⟩,{ (Bv t c now).1 with version:=(Bv t c now).1.version+1 },0)):=by
   rw [<- HR.o];unfold EL;rw [hp];simp only [bj]
  have ac:=lH bx;have O:=lH cd;have HI:=lH bj;have ao:=lH (an.o.2 t (CD ht));have bd:=lH hx1;have q0:=hat1 0 _ rfl;have q1:=hat1 1 _ rfl;have q2:=hat1 2 _ rfl;have q3:=hat1 3 _ rfl;have q4:=hat1 4 _ rfl;have q5:=hat1 5 _ rfl;have q6:=hat1 6 _ rfl;have q7:=hat1 7 _ rfl;rw [bh] at Y;rw [AT] at q0;have i1:(0:Int)<=(i:Int):=bB;have i2:(i:Int)<(ln:Int):=bB;have a5:=lH bh;clear hk1 hp ht bj hu cd au X hx1 hat1 q bx hg1 bh;simp only [Option.isSome_some,Option.getD_some];go_upto_region 4 with fail
  go_cut [11] (fun x wc=>∃cb,x = p_ cb 0/\Hi (Blk wc cb 223 (K7 u1 seq c now)/\Aa [] w1 wc/\w1.heap.size<=cb))
  case first=>
   go_region;go_wp2_with fail;go_meet;exact⟨_,rfl,lH ⟨by first | exact Blk.new _ _ _ | exact(Blk.new _ _ _).drewN _,by first | exact((Aa.refl [] w1).drewN _).alloc _ | exact((Aa.refl [] w1).alloc _).drewN _ | exact(Aa.refl [] w1).alloc _,by first | exact Aw _ | simp⟩⟩
  case rest=>
   obtain⟨cb,rfl,HC⟩:=hcut
   rename World=>wc
   clear q0 q1 q2 q3 q4 q5 q6 q7;replace HB0:=lH (HB0.o.keeps HC.o.2.1 bA);replace HB1:=lH (HB1.o.keeps HC.o.2.1 bA);replace HB2:=lH (HB2.o.keeps HC.o.2.1 bA);replace D:=lH (D.o.keeps HC.o.2.1 bA);replace HK1:=lH (HK1.o.trans HC.o.2.1);clear Y b1;have b1:=HB1.o.cell;have x0:=HC.o.1.cell;obtain⟨bw,bz⟩:=eX (decide (c.want≠0/\c.want≠u1.version));have a0:=lH bz;clear bz;go_upto_region 5 with fail
   go_cut [51] (fun x wd=>x = pI bw/\Hi (Aa [] wc wd))
   case first=>
    simp only [K7] at x0;by_cases h0:c.want=0
    ·have f1:(c.want != 0)=false:=by simpa using h0
     obtain rfl:bw=false:=by rw [<- a0.o];exact decide_eq_false (fun h=>h.1 h0)
     clear h0;go_region;go_wp2_with fail;go_meet;exact⟨rfl,lH (by first | exact(Aa.refl [] wc) | exact(Aa.refl [] wc).drewN _)⟩
    ·have f1:(c.want != 0)=true:=by simpa using h0
     have f2:(c.want != u1.version)=bw:=by rw [<- a0.o];by_cases h:c.want=u1.version<;>simp [h0,h,bne]
     clear h0;go_region;go_wp2_with fail;go_meet;exact⟨rfl,lH (by first | exact(Aa.refl [] wc) | exact(Aa.refl [] wc).drewN _)⟩
   case rest=>
    obtain⟨rfl,HD⟩:=hcut
    rename World=>wd
    replace HB0:=lH (HB0.o.keeps HD.o bA);replace HB1:=lH (HB1.o.keeps HD.o bA);replace HB2:=lH (HB2.o.keeps HD.o bA);replace D:=lH (D.o.keeps HD.o bA);replace HK1:=lH (HK1.o.trans HD.o);have bq:=lH (HC.o.1.keeps HD.o bA);clear b1 x0;have aw:(c.want≠0/\c.want≠t.version)=(c.want≠0/\c.want≠u1.version):=by rw [O.o.version]
    have ar:=a0.o;cases bw with
    | true=>
     have bb:Hi (R.2.2=155):=lH (by rw [ac.o,if_pos (by rw [aw];exact of_decide_eq_true ar)]);have Y:=HB0.o.cell;have y2:=HB2.o.frozen;have y3:=D.o.frozen;have z2:=HB2.o.cell;have z3:=D.o.cell;clear aw ar;go_wp2_with fail;exact bodyPost_ret (v:=.tuple #[pH (R_ v gn un fn ln seq),.agg OC.k,.iface 215 (pH #[pE pK 155])]) (by simp [results,results113,go_sem,z2,z3]) rfl (Il bb.o bE HK1.o (S:=[w.heap.size+1+1,w.heap.size+1+1+1]) bJ bF)
    | false=>
     have bf:=ac.o;rw [if_neg (by rw [aw];exact of_decide_eq_false ar)] at bf;replace ac:=lH bf;clear aw ar bf;obtain⟨f,ae,hent,hcall⟩:=Xo cb u1 t seq c now hv b5 hat ⟨by have:=ao.o;omega,by have:=ao.o;omega⟩;have a9:=lH ae;have HENT:=lH hent;have HCALL:=lH hcall;clear ae hent hcall;have b1:=HB1.o.ce 0;have am:Hi (w.heap.size+4<=cb/\cb<wd.heap.size):=lH ⟨by have h1:=HC.o.2.2;have h2:=HSZ.o;have h3:=hs1;omega,bq.o.lt⟩;have HS:Hi (∀A,Aa [cb] wd A->Aa [cb] wd A/\A.cell? (A1 w 0)=some (I_ c.verb)):=lH fun A hk=>⟨hk,(HB1.o.keeps hk (by have:=am.o;simp only [Ac,Ab,or_false];omega)).cell 0⟩;clear b1;go_upto_region 7 with fail
     go_cut [12] (fun x we=>x=FY (Bv t c now).2/\Hi (((Bv t c now).2=0->∃u',Blk we cb 223 (K7 u' seq c now)/\Cj we u' (Bv t c now).1/\EY wd u1 u')/\Aa [cb] wd we))
     case first=>
      refine wp_region_held_drew (S:=(fun A:World=>Aa [cb] wd A/\A.cell? (A1 w 0)=some (I_ c.verb))) bC lG (fun hHeld=>?_);refine rQ 1 ?_;refine rQ 2 ?_;refine rQ 4 ?_;refine rC 0 fun K hK=>?_;go_simp
      (refine(Xp _).mono ?_;rintro e w2 ⟨rfl,bl⟩;have hl:=a9.o w2 wd (by rw [<- bl];exact heap_alloc_new wd.drew _);have hk2:Aa [] wd w2:=(by rw [<- bl];exact((Aa.refl [] wd).drew).alloc _);clear bl)
      refine rO hK lG fun hHeld=>?_;clear hK K;refine rC 3 fun K hK=>?_;go_simp;refine rO hK lG fun hHeld=>?_;clear hK K;refine rC 5 fun K hK=>?_;go_simp
      (rw [HENT.o,Oper.upon_enter];refine(HCALL.o _ E (cn.o.keeps (HK1.o.trans hk2) bA) (cm.o.keep (HK1.o.trans hk2)) (bq.o.keeps hk2 bA) (O.o.keeps (HK1.o.trans hk2)) (FX.of O.o (by have:=am.o;omega))).mono ?_;rintro e w9 ⟨rfl,cx,hk9⟩)
      refine rO hK lG fun hHeld=>?_;clear hK K;refine rQ 6 ?_;refine wpAnyH_done bC ?_ _
      (go_wp2_with fail;go_meet;exact⟨rfl,lH ⟨fun h0=>(by obtain⟨u',a1,a2,a3⟩:=cx h0;exact⟨u',a1,a2,a3.mono hk2.size⟩),(hk2.mono bA).trans hk9⟩⟩)
     case rest=>
      obtain⟨rfl,HV⟩:=hcut
      rename World=>we
      have cu:=am.o;have hn:∀y,y<w.heap.size+4->y∉[cb]:=fun y hy=>by simp only [Ac,Ab,or_false];omega
      replace HB0:=lH (HB0.o.keeps HV.o.2 (hn _ bB));replace HB1:=lH (HB1.o.keeps HV.o.2 (hn _ bB));replace HB2:=lH (HB2.o.keeps HV.o.2 (hn _ bB));replace D:=lH (D.o.keeps HV.o.2 (hn _ bB));replace HK1:=lH (HK1.o.own HV.o.2 bF);obtain⟨⟨N,er⟩,ag⟩:∃r,Bv t c now=r:=⟨_,rfl⟩;have bu:=lH ag;have HR3:Hi (R=if er≠0 then(r,IX,er) else
        if c.verb=8\/c.verb=10 then(r,t,0)
        else if c.verb=5 then(⟨(CW r.slots (N.slot,N.gen)).1,r.l.eraseIdx i,r.seq⟩,{ N with version:=N.version+1 },0)
        else(⟨r.slots,GI r.l { N with version:=N.version+1 },r.seq⟩,{ N with version:=N.version+1 },0)):=lH (by have h:=ac.o;rw [ag] at h;exact h)
      have bt:Hi (er=0->∃u',Blk we cb 223 (K7 u' seq c now)/\Cj we u' N/\EY wd u1 u'):=lH (by have h:=HV.o.1;rw [ag] at h;exact h);rw [ag];dsimp only;have Y:=HB0.o.cell;have y2:=HB2.o.frozen;have y3:=D.o.frozen;have z2:=HB2.o.cell;have z3:=D.o.cell;clear ag hn;by_cases he:er=0
      ·subst he
       simp only [FY,if_true];obtain⟨B,hb2,b9,b7⟩:=bt.o rfl;have HB:=lH hb2;have ap:=lH b9;have bs:=lH b7;have bg:=HR3.o;rw [if_neg bA] at bg;have br:=lH bg;have b1:=HB1.o.cell;clear hb2 b9 b7 bg bt HR3;by_cases h8:c.verb=8\/c.verb=10
       ·have cq:Hi (R=(r,t,0)):=lH (by rw [br.o,if_pos h8])
        obtain⟨q8,cy⟩:=eX ((c.verb==8));have HSA:Hi (∀A,Aa [w.heap.size+1+1,w.heap.size+1+1+1] we A->Aa [w.heap.size+1+1,w.heap.size+1+1+1] we A/\(∀k,A.cell? (A_ w k)=((R_ v gn un fn ln seq):Array Value)[k]?)/\A.cell? (A_ g1 (o1+i*8))=some (I_ u1.slot)/\A.cell? (A_ g1 (o1+i*8+1))=some (I_ u1.gen)/\A.cell? (A_ g1 (o1+i*8+2))=some (Dz u1.name)/\A.cell? (A_ g1 (o1+i*8+3))=some (I_ u1.state)/\A.cell? (A_ g1 (o1+i*8+4))=some (I_ u1.version)/\A.cell? (A_ g1 (o1+i*8+5))=some (pF u1.ra u1.rl u1.rc)/\A.cell? (A_ g1 (o1+i*8+6))=some (pF u1.ca u1.cl u1.cc)/\A.cell? (A_ g1 (o1+i*8+7))=some (I_ u1.deadline)):=lH fun A hk=>⟨hk,(HB0.o.keeps hk bI).cell,ZT (HM.o.l.keeps (HK1.o.own hk bF)) bd.o a5.o⟩;rw [a5.o] at Y HSA;have b6:q8=false->(c.verb==10)=true:=fun e=>ZW h8 (cy.trans e);cases q8;all_goals
         try have cr:=b6 rfl
         go_wp2_with fail;refine wp_region_held_drew (S:=(fun A:World=>Aa [w.heap.size+1+1,w.heap.size+1+1+1] we A/\(∀k,A.cell? (A_ w k)=(#[pF v.s.ga gn v.s.gc,pF v.s.ua un v.s.uc,pF v.s.fa fn v.s.fc,pF (some (A_ g1 o1)) ln v.lc,I_ seq]:Array Value)[k]?)/\A.cell? (A_ g1 (o1+i*8))=some (I_ u1.slot)/\A.cell? (A_ g1 (o1+i*8+1))=some (I_ u1.gen)/\A.cell? (A_ g1 (o1+i*8+2))=some (Dz u1.name)/\A.cell? (A_ g1 (o1+i*8+3))=some (I_ u1.state)/\A.cell? (A_ g1 (o1+i*8+4))=some (I_ u1.version)/\A.cell? (A_ g1 (o1+i*8+5))=some (pF u1.ra u1.rl u1.rc)/\A.cell? (A_ g1 (o1+i*8+6))=some (pF u1.ca u1.cl u1.cc)/\A.cell? (A_ g1 (o1+i*8+7))=some (I_ u1.deadline))) bC mM (fun hHeld=>?_);refine rQ 0 ?_;refine rQ 1 ?_;refine rQ 2 ?_;refine rQ 3 ?_;refine rQ 4 ?_;refine rQ 5 ?_;refine rC 6 fun K hK=>?_;go_simp;refine rO hK mM fun hHeld=>?_;clear hK K;refine rC 7 fun K hK=>?_;go_simp;refine rO hK mM fun hHeld=>?_;clear hK K;refine rQ 8 ?_;refine wpAnyH_done bC ?_ _
         (go_wp2_with fail;exact bodyPost_ret (v:=.tuple #[pH #[pF v.s.ga gn v.s.gc,pF v.s.ua un v.s.uc,pF v.s.fa fn v.s.fc,pF (some (A_ g1 o1)) ln v.lc,I_ seq],pH (T_ u1),.nilIface]) (by simp [results,results113,go_sem,z2,z3]) rfl (MN cq.o ⟨v,gn,un,fn,ln,by rw [a5.o,HSQ.o],HG.o,HU.o,HF.o,HLN.o,HM.o.keeps (HK1.o.own hHeld.1 bF),fun _ _ h=>h⟩ O.o.slot O.o.gen O.o.version O.o.state (HK1.o.own hHeld.1 bF)))
       ·have f8:(c.verb==8)=false:=by simpa using fun h=>h8 (.inl h)
        have cr:(c.verb==10)=false:=by simpa using fun h=>h8 (.inr h)
        have ad:=br.o;rw [if_neg h8] at ad;have af:B.version=N.version/\N.version=t.version:=⟨ap.o.version,by have:=O7 t c now;rw [bu.o] at this;exact this⟩;have hw1:IntKind.i64.wrap (B.version+1)=B.version+1:=IntWalk.i64_in _ (by have:=ao.o;omega);have c8:=lH af;have x0:=HB.o.cell;have y0:=HB.o.frozen;simp only [K7] at x0;obtain⟨wf,hwf⟩:=eX (we.setCell (A_ cb 4) (I_ (B.version+1)));have hkf:Aa [cb] we wf:=by rw [<- hwf];exact Ae _ _ _ _
        have HBF:Hi (Blk wf cb 223 (K7 { B with version:=B.version+1 } seq c now)):=lH (by rw [<- hwf];exact HB.o.set_ 4 _);have aa:Hi (Cj wf { B with version:=B.version+1 } { N with version:=N.version+1 }):=lH (by
         have h:=O.o.src ap.o bs.o hkf mW;exact { h with version:=by dsimp only;rw [af.1] })
        have HSF:Hi (EY wd u1 { B with version:=B.version+1 }):=lH bs.o;have hn:∀y,y<w.heap.size+4->y∉[cb]:=fun y hy=>by simp only [Ac,Ab,or_false];omega
        replace HB0:=lH (HB0.o.keeps hkf (hn _ bB));replace HB1:=lH (HB1.o.keeps hkf (hn _ bB));replace HB2:=lH (HB2.o.keeps hkf (hn _ bB));replace D:=lH (D.o.keeps hkf (hn _ bB));replace HK1:=lH (HK1.o.own hkf bF);clear h8 af hkf hn Y y2 y3 z2 z3;by_cases h5:c.verb=5
        ·have f5:(c.verb==5)=true:=by simpa using h5
         have ba:Hi (R=(⟨(CW r.slots (N.slot,N.gen)).1,r.l.eraseIdx i,r.seq⟩,{ N with version:=N.version+1 },0)):=lH (by rw [ad,if_pos h5]);clear ad h5;have HSG:Hi (∀A,Aa [w.heap.size] wf A->Aa [w.heap.size] wf A/\(∀k,A.cell? (A_ cb k)=((G_ B seq c now):Array Value)[k]?)):=lH fun A hk=>⟨hk,(HBF.o.keeps hk bI).cell⟩;go_upto_region 16 with fail
         clear hwf x0 y0;have Y:=HB0.o.cell;go_cut [91] (fun _ wg=>∃(F:DF) (n1 n2 n3:Nat),Hi (Blk wg w 29 #[pF F.ga n1 F.gc,pF F.ua n2 F.uc,pF F.fa n3 F.fc,pF v.la ln v.lc,I_ seq]/\Dy wg F (CW r.slots (B.slot,B.gen)).1/\Ja wf F/\(CW r.slots (B.slot,B.gen)).1.gens.length=n1/\(CW r.slots (B.slot,B.gen)).1.used.length=n2/\(CW r.slots (B.slot,B.gen)).1.free.length=n3/\Aa [w.heap.size] wf wg))
         case first=>
          refine wp_region_held_drew (S:=(fun A:World=>Aa [w.heap.size] wf A/\(∀k,A.cell? (A_ cb k)=((G_ B seq c now):Array Value)[k]?))) bC lC (fun hHeld=>?_);refine rQ 0 ?_;refine rQ 2 ?_;refine rQ 3 ?_;refine rQ 4 ?_;refine rQ 5 ?_;refine rQ 6 ?_;refine rQ 7 ?_;refine rC 1 fun K hK=>?_;go_simp;refine rO hK lC fun hHeld=>?_;clear hK K;refine rC 8 fun K hK=>?_;go_simp
          (refine(Xz v.s r.slots gn un fn HG.o HU.o HF.o B.slot B.gen _ (HM.o.s.keeps (HK1.o.own hHeld.1 bF))).mono ?_;rintro e w6 ⟨rv,rfl,⟨F,n1,n2,n3,rfl,l1,l2,l3,av,b8⟩,hk6⟩;have hkw6:Aa [w.heap.size] wf w6:=hHeld.1.trans (hk6.mono bA);have J:Aa [] wf w6:=((Aa.refl [] wf).drew).trans hk6;clear Y;have Y:=(HB0.o.keeps J bA).cell;have y0:=(HB0.o.keeps J bA).frozen)
          refine rO hK lC fun hHeld=>?_;clear hK K;refine rQ 9 ?_;refine rQ 10 ?_;refine rQ 11 ?_;refine rQ 12 ?_;refine rC 13 fun K hK=>?_;go_simp;refine rO hK lC fun hHeld=>?_;clear hK K;refine wpAnyH_done bC ?_ _
          (go_wp2_with fail;go_meet;exact⟨F,n1,n2,n3,lH ⟨((((HB0.o.keeps J bA).set_ 0 _).set_ 1 _).set_ 2 _),av.ge b8 (G5 _ _ _ _ _) (fun y hy=>by have:=HB0.o.lt;simp only [Ac,Ab,or_false] at hy;subst hy;exact this),b8,l1,l2,l3,hkw6.trans (G5 _ _ _ _ _)⟩⟩)
         case rest=>
          obtain⟨F,n1,n2,n3,G⟩:=hcut
          rename World=>wg
          clear Y;have X:v.lv.length=ln:=by rw [AX.len HM.o.t,HLN.o]
          have au:i<ln:=by rw [<- X];exact(Ad.1 bd.o).1
          have dl:ln<=900:=by have:=an.o.1;have:=HLN.o;omega
          have HKG:Hi (Aa [] w wg):=lH (HK1.o.own G.o.2.2.2.2.2.2 bF);have dk:IntKind.i64.wrap ((i:Int)+1)=(i:Int)+1:=IntWalk.i64_in _ bB;have cj:Hi (Blk wg cb 223 (G_ B seq c now)):=lH (HBF.o.keeps G.o.2.2.2.2.2.2 bI);replace HB2:=lH (HB2.o.keeps G.o.2.2.2.2.2.2 bI);replace D:=lH (D.o.keeps G.o.2.2.2.2.2.2 bI);have Y:=G.o.1.cell;go_wp2_with fail;refine(Tm v.la v.lc v.lv ln X bB wg (HM.o.l.keeps HKG.o)).mono ?_;rintro e w7 ⟨a7,c7,rfl,c0,bi,hk7⟩;obtain⟨g7,rfl,cw,b3⟩:=ZB bi bB;go_wp2_with fail;refine(Tt v.lv ln i g7 c7 wg X au bB w7 bi).mono ?_;rintro e w8 ⟨rfl,hs8,hk8⟩;have M:Aa [] wg w8:=hk7.own hk8 bF;have ct:=G.o.1.lt;have aq:=G.o.1.keeps M bA;clear Y;have Y:=aq.cell;have y0:=aq.frozen;obtain⟨wh,hwh⟩:=eX (w8.setCell (A_ w 3) (pF (some (A_ g7 0)) (ln - 1) c7));have hkh:Aa [w.heap.size] w8 wh:=by rw [<- hwh];exact Ae _ _ _ _
          have HBH:Hi (Blk wh w 29 #[pF F.ga n1 F.gc,pF F.ua n2 F.uc,pF F.fa n3 F.fc,pF (some (A_ g7 0)) (ln - 1) c7,I_ seq]):=lH (by rw [<- hwh];exact aq.set_ 3 _);have ck:Hi (Blk wh cb 223 (G_ B seq c now)):=lH ((cj.o.keeps M bA).keeps hkh bI);replace HB2:=lH ((HB2.o.keeps M bA).keeps hkh bI);replace D:=lH ((D.o.keeps M bA).keeps hkh bI);have a4:Hi (∀WF,Aa [w.heap.size+1+1,w.heap.size+1+1+1] wh WF->D8 v r w R (pJ (.tuple #[pH #[pF F.ga n1 F.gc,pF F.ua n2 F.uc,pF F.fa n3 F.fc,pF (some (A_ g7 0)) (ln - 1) c7,I_ seq],pH #[pE pK B.slot,I_ B.gen,Dz B.name,I_ B.state,I_ (B.version+1),pF B.ra B.rl B.rc,pF B.ca B.cl B.cc,I_ B.deadline],.nilIface])) WF):=lH fun WF h4=>by
           have hlt:=HBF.o.lt;have dj:=G.o.2.2.2.2.2.2.size;have ab:Aa [w.heap.size,w.heap.size+1+1,w.heap.size+1+1+1] w8 WF:=(hkh.mono bA).trans (h4.mono bA);have hS:∀y∈[w.heap.size,w.heap.size+1+1,w.heap.size+1+1+1],w.heap.size<=y/\y<wd.heap.size/\y<wf.heap.size/\y<wg.heap.size:=fun y hy=>by simp only [Ac,Ab,or_false] at hy;omega
           have b4:Aa [] w WF:=(HKG.o.trans M).own ab (fun y hy=>(hS y hy).1);have h1:=ap.o.slot;have h2:=ap.o.gen;have hR:=ba.o;rw [<- h1,<- h2] at hR;have dh:=HK1.o.size;have b2:∀ {α:Type} (xs:List α),xs.length=ln->(xs.eraseIdx i).length=ln - 1:=fun xs hx=>by rw [List.length_eraseIdx,if_pos bB,hx]
           refine MN (u:={ B with version:=B.version+1 }) hR ⟨⟨F,some (A_ g7 0),c7,v.lv.eraseIdx i⟩,n1,n2,n3,ln - 1,by rw [HSQ.o],G.o.2.2.2.1,G.o.2.2.2.2.1,G.o.2.2.2.2.2.1,b2 _ HLN.o,⟨(G.o.2.1.keeps M).ge G.o.2.2.1 ab (fun y hy=>(hS y hy).2.2.1),hs8.keepsS ab (fun g o e hm=>by injection e with e;injection e with e _ _;subst e;have:=hS _ hm;omega),(AX.keeps HM.o.t b4).eraseIdx i,by rw [b2 _ HLN.o];omega,fun t' c1=>HM.o.small t' (List.mem_of_mem_eraseIdx c1)⟩,fun Q hQ h=>⟨Dj.no G.o.2.2.1.1 bN,Dj.no G.o.2.2.1.2.1 bN,Dj.no G.o.2.2.1.2.2 bN,fun _ g o e hq=>by injection e with e;injection e with e _ _;subst e;have:=hQ _ hq;omega,fun u' c3=>h.t u' (List.mem_of_mem_eraseIdx c3)⟩⟩ rfl rfl aa.o.version aa.o.state b4
          clear hs8 hk8 c0 bi hk7 M aq hkh ct cw b3;go_wp2_with fail;clear hwh Y y0;have y2:=HB2.o.frozen;have y3:=D.o.frozen;have z2:=HB2.o.cell;have z3:=D.o.cell;have HSH:Hi (∀A,Aa [w.heap.size+1+1,w.heap.size+1+1+1] wh A->Aa [w.heap.size+1+1,w.heap.size+1+1+1] wh A/\(∀k,A.cell? (A_ w k)=(#[pF F.ga n1 F.gc,pF F.ua n2 F.uc,pF F.fa n3 F.fc,pF (some (A_ g7 0)) (ln - 1) c7,I_ seq]:Array Value)[k]?)/\(∀k,A.cell? (A_ cb k)=((G_ B seq c now):Array Value)[k]?)):=lH fun A hk=>⟨hk,(HBH.o.keeps hk bI).cell,(ck.o.keeps hk bI).cell⟩;refine wp_region_held_drew (S:=(fun A:World=>Aa [w.heap.size+1+1,w.heap.size+1+1+1] wh A/\(∀k,A.cell? (A_ w k)=(#[pF F.ga n1 F.gc,pF F.ua n2 F.uc,pF F.fa n3 F.fc,pF (some (A_ g7 0)) (ln - 1) c7,I_ seq]:Array Value)[k]?)/\(∀k,A.cell? (A_ cb k)=((G_ B seq c now):Array Value)[k]?))) bC mN (fun hHeld=>?_);refine rQ 0 ?_;refine rQ 1 ?_;refine rQ 2 ?_;refine rQ 3 ?_;refine rQ 4 ?_;refine rQ 5 ?_;refine rC 6 fun K hK=>?_;go_simp;refine rO hK mN fun hHeld=>?_;clear hK K;refine rC 7 fun K hK=>?_;go_simp;refine rO hK mN fun hHeld=>?_;clear hK K;refine rQ 8 ?_;refine wpAnyH_done bC ?_ _
          (go_wp2_with fail;exact bodyPost_ret (v:=.tuple #[pH #[pF F.ga n1 F.gc,pF F.ua n2 F.uc,pF F.fa n3 F.fc,pF (some (A_ g7 0)) (ln - 1) c7,I_ seq],pH #[pE pK B.slot,I_ B.gen,Dz B.name,I_ B.state,I_ (B.version+1),pF B.ra B.rl B.rc,pF B.ca B.cl B.cc,I_ B.deadline],.nilIface]) (by simp [results,results113,go_sem,z2,z3]) rfl (a4.o _ hHeld.1))
        ·have f5:(c.verb==5)=false:=by simpa using h5
         have ba:Hi (R=(⟨r.slots,GI r.l { N with version:=N.version+1 },r.seq⟩,{ N with version:=N.version+1 },0)):=lH (by rw [ad,if_neg h5]);clear ad h5;go_wp2_with fail;clear hwf x0 y0;have X:v.lv.length=ln:=by rw [AX.len HM.o.t,HLN.o]
         have HSP:Hi (∀A,Aa [w.heap.size+1+1,w.heap.size+1+1+1] wf A->Aa [w.heap.size+1+1,w.heap.size+1+1+1] wf A/\(∀k,A.cell? (A_ w k)=((R_ v gn un fn ln seq):Array Value)[k]?)/\(∀k,A.cell? (A_ cb k)=((G_ B seq c now):Array Value)[k]?)):=lH fun A hk=>⟨hk,(HB0.o.keeps hk bI).cell,(HBF.o.keeps hk bI).cell⟩;have a4:Hi (∀(w6 WF:World) (a6:Option Addr) (c6:Nat),Aa [] wf w6->AR BE 8 w6 a6 c6 (DC v.lv { B with version:=B.version+1 })->Dj wf a6->Aa [w.heap.size+1+1,w.heap.size+1+1+1] w6 WF->
           D8 v r w R (pJ (.tuple #[pH #[pF v.s.ga gn v.s.gc,pF v.s.ua un v.s.uc,pF v.s.fa fn v.s.fc,pF a6 (DC v.lv { B with version:=B.version+1 }).length c6,I_ seq],pH #[pE pK B.slot,I_ B.gen,Dz B.name,I_ B.state,I_ (B.version+1),pF B.ra B.rl B.rc,pF B.ca B.cl B.cc,I_ B.deadline],.nilIface])) WF):=lH fun w6 WF a6 c6 h1 h2 h3 h4=>by
          have hlt:=HBF.o.lt;have hS:∀y∈[w.heap.size+1+1,w.heap.size+1+1+1],w.heap.size<=y/\y<wd.heap.size/\y<wf.heap.size:=fun y hy=>by simp only [Ac,Ab,or_false] at hy;omega
          have ab:Aa [w.heap.size+1+1,w.heap.size+1+1+1] wf WF:=(h1.mono bA).trans h4;have hsz:=SL t c now;rw [bu.o] at hsz;dsimp only at hsz;have dm:=ao.o;obtain⟨q1,q3⟩:=HM.o.put (T:={ N with version:=N.version+1 }) (U:={ B with version:=B.version+1 }) (HK1.o.own ab (fun y hy=>(hS y hy).1)) (h2.keepsS h4 (h3.out (fun y hy=>(hS y hy).2.2))) (O.o.src aa.o HSF.o ab (fun y hy=>⟨(hS y hy).1,(hS y hy).2.1⟩)) an.o.1 ⟨by dsimp only;omega,by dsimp only;omega⟩ r.seq;have dg:=HK1.o.size;have di:=am.o;exact MN ba.o ⟨_,gn,un,fn,_,by rw [HSQ.o],HG.o,HU.o,HF.o,q3,q1,fun Q hQ h=>h.put (h3.no bN) (HSF.o.no (h.t _ (CD bd.o)) bN)⟩ aa.o.slot aa.o.gen aa.o.version aa.o.state (HK1.o.own ab (fun y hy=>(hS y hy).1))
         refine wp_region_held_drew (S:=(fun A:World=>Aa [w.heap.size+1+1,w.heap.size+1+1+1] wf A/\(∀k,A.cell? (A_ w k)=((R_ v gn un fn ln seq):Array Value)[k]?)/\(∀k,A.cell? (A_ cb k)=((G_ B seq c now):Array Value)[k]?))) bC lD (fun hHeld=>?_);refine rQ 0 ?_;refine rQ 1 ?_;refine rQ 2 ?_;refine rQ 3 ?_;refine rQ 4 ?_;refine rQ 5 ?_;refine rQ 7 ?_;refine rQ 8 ?_;refine rQ 9 ?_;refine rQ 10 ?_;refine rQ 11 ?_;refine rC 6 fun K hK=>?_;go_simp
         (refine(Q6 v gn un fn ln X (by have:=an.o.1;have:=HLN.o;omega) seq { B with version:=B.version+1 } _ (HM.o.l.keeps (HK1.o.own hHeld.1 bF))).mono ?_;rintro e w6 ⟨a6,c6,rfl,cz,cv,hk6⟩;have hkw6:Aa [w.heap.size+1+1,w.heap.size+1+1+1] wf w6:=hHeld.1.trans (hk6.mono bA);have J:Aa [] wf w6:=((Aa.refl [] wf).drew).trans hk6;have z2:=(HB2.o.keeps J bA).cell;have z3:=(D.o.keeps J bA).cell;have y2:=(HB2.o.keeps J bA).frozen;have y3:=(D.o.keeps J bA).frozen)
         refine rO hK lD fun hHeld=>?_;clear hK K;refine rC 12 fun K hK=>?_;go_simp;refine rO hK lD fun hHeld=>?_;clear hK K;refine rC 13 fun K hK=>?_;go_simp;refine rO hK lD fun hHeld=>?_;clear hK K;refine rQ 14 ?_;refine wpAnyH_done bC ?_ _
         (go_wp2_with fail;exact bodyPost_ret (v:=.tuple #[pH #[pF v.s.ga gn v.s.gc,pF v.s.ua un v.s.uc,pF v.s.fa fn v.s.fc,pF a6 (DC v.lv { B with version:=B.version+1 }).length c6,I_ seq],pH #[pE pK B.slot,I_ B.gen,Dz B.name,I_ B.state,I_ (B.version+1),pF B.ra B.rl B.rc,pF B.ca B.cl B.cc,I_ B.deadline],.nilIface]) (by simp [results,results113,go_sem,z2,z3]) rfl (a4.o w6 _ a6 c6 J cz cv bJ))
      ·simp only [FY,if_neg he]
       have bb:Hi (R.2.2=er):=lH (by rw [HR3.o,if_pos he]);clear cu;go_wp2_with fail;exact bodyPost_ret (v:=.tuple #[pH (R_ v gn un fn ln seq),.agg OC.k,.iface 215 (pH #[pE pK er])]) (by simp [results,results113,go_sem,z2,z3]) rfl (Il bb.o he HK1.o (S:=[w.heap.size+1+1,w.heap.size+1+1+1]) bJ bF)
end
section
open Go.RowKit Go.Shelf
attribute [local go_sem] pN Lr Ls Lp Lq
attribute [local go_sem ↓] wp_at_zero wp_at_succ
theorem RH(v:B6)(r:CJ)(gn un fn ln:Nat)(hg:r.slots.gens.length=gn)(hu:r.slots.used.length=un)(hf:r.slots.free.length=fn)(hln:r.l.length=ln)(seq:Int)(hsq:r.seq=seq)(c:FW)(now:Int)
 (a7:r.l.length<=900)(w:World)(a3:Et w)(h:CH w v r):
  Calls prog 112 #[pH (R_ v gn un fn ln seq),pH (K_ c),I_ now] w (D8 v r w (Gm r c now)):=by
 obtain⟨wz,hwz⟩:=eX ((((w.alloc (.cells (R_ v gn un fn ln seq) 29)).alloc (.cells (K_ c) 57)).alloc (.cells LU.k 29)).alloc (.cells OC.k 131));have hz:Aa [] w wz:=by rw [<- hwz];exact((((Aa.refl [] w).alloc _).alloc _).alloc _).alloc _
 have HB0:Hi (Blk wz w 29 (R_ v gn un fn ln seq)):=lH nB;have HB1:Hi (Blk wz (w+1) 57 (K_ c)):=lH mZ;have HB2:Hi (Blk wz (w+1+1) 29 LU.k):=lH jU;have al:Hi (Blk wz (w+1+1+1) 131 OC.k):=lH aF;have HSZ:Hi (wz.heap.size=w.heap.size+4):=lH gA;have bt:=HB0.o.rl;have bu:=HB1.o.rl;have aj:=HB2.o.rl;have ak:=al.o.rl;have bf:=lH (fun W (hk:Aa [] wz W)=>Pv v r gn un fn ln lP (by have:=h.sl;omega) seq hsq c.name W (h.l.keeps (hz.trans hk)) (h.t.keeps (hz.trans hk)));have HM:=lH h;have HG:=lH hg;have HU:=lH hu;have HF:=lH hf;have HLN:=lH hln;have HSQ:=lH hsq;have HZ:=lH hz;have a1:=lH a7;have az:=lH a3;obtain⟨R,hR⟩:=eX (Gm r c now);rw [hR];have HR:=lH hR;clear hg hu hf hln hsq hz h a7 a3 hR;obtain⟨bn,hbn⟩:=eX (IK c.name);have HBN:=lH hbn;go_enter func112,ntmps112;go_wp2_with fail;clear hwz;refine(Nl c.name bn HBN.o wz).mono ?_;rintro e w1 ⟨rfl,hk1⟩;have r1:=hk1.rl;have HK1:=lH (HZ.o.trans hk1);have hR:=HR.o;unfold Gm at hR;rw [hbn] at hR;clear hbn;cases bn with
 | false=>
  have X:Hi (R.2.2=152):=lH (by rw [<- hR];rfl);clear hR;go_wp2_with fail;exact bodyPost_ret (v:=.tuple #[pH (R_ v gn un fn ln seq),.agg OC.k,.iface 215 (pH #[pE pK 152])]) (by simp [results,results112,go_sem,aj,ak,r1]) rfl (Il X.o bE HK1.o (S:=[w.heap.size+1+1,w.heap.size+1+1+1]) bJ bF)
 | true=>
  rw [if_pos rfl] at hR;go_wp2_with fail;refine(bf.o w1 hk1).mono ?_;rintro e w2 ⟨rfl,hk2⟩;have M:=hk1.trans hk2;clear r1;have r2:=M.rl;have HK2:=lH (HK1.o.trans hk2);cases hp:C7 r.l c.name with
  | some i=>
   rw [hp] at hR;have X:Hi (R.2.2=153):=lH (by rw [<- hR]);clear hR hp;simp only [Option.isSome_some,Option.getD_some];go_wp2_with fail;exact bodyPost_ret (v:=.tuple #[pH (R_ v gn un fn ln seq),.agg OC.k,.iface 215 (pH #[pE pK 153])]) (by simp [results,results112,go_sem,aj,ak,r2]) rfl (Il X.o bE HK2.o (S:=[w.heap.size+1+1,w.heap.size+1+1+1]) bJ bF)
  | none=>
   rw [hp] at hR;dsimp only at hR;have HR3:=lH hR;clear hR hp;simp only [Option.isSome_none,Option.getD_none];go_wp2_with fail;refine(X6 v.s r.slots gn un fn HG.o HU.o HF.o w2 (HM.o.s.keeps HK2.o)).mono ?_;rintro e w3 ⟨x3,rfl,⟨B,n1,n2,n3,rfl,l1,l2,l3,N,af⟩,hk3⟩;have ae:=M.trans hk3;clear r2;have r3:=ae.rl;have be:=lH (HK2.o.trans hk3);obtain⟨⟨s',D,er⟩,ao⟩:∃t,Bn r.slots=t:=⟨_,rfl⟩;rw [ao] at l1 l2 l3 N ⊢;have hR:=HR3.o;rw [ao] at hR;dsimp only at hR l1 l2 l3 N ⊢;obtain⟨wa,ap⟩:=eX ((w3.alloc (.cells (S_ B n1 n2 n3) 26)).alloc (.cells #[pE pK D.1,I_ D.2] 44));have am:Aa [] w3 wa:=by rw [<- ap];exact((Aa.refl [] w3).alloc _).alloc _
   have E:=ae.trans am;clear r3;have ra:=E.rl;have bv:=Blk.rl (show Blk wa w3 26 (S_ B n1 n2 n3) by rw [<- ap];exact(Blk.new w3 _ _).alloc _);have bw:=Blk.rl (show Blk wa (w3+1) 44 #[pE pK D.1,I_ D.2] by rw [<- ap];exact Ar _ _ _ _ bA);have ab:=lH (be.o.trans am);by_cases he:er=0
   ·subst he
    rw [if_neg bA] at hR;have av:=lH hR;have HS:=lH (N.keeps am);have HSG:=lH af;clear hR N af HR3 ao;go_wp2_with fail;clear ap;refine(ME none 0 [] 0 rfl bB c.key now 0 c.n wa (az.o.keeps ab.o bA) (BS (Be w _ az.o) ab.o.size) AR.none_).mono ?_;rintro e w5 ⟨x5,rfl,⟨G,O,rfl,J,Y⟩,hk5⟩;obtain⟨⟨l,id,er⟩,an⟩:∃t,Bk [] c.key now 0 c.n=t:=⟨_,rfl⟩;have hR:=av.o;rw [an] at hR J ⊢;dsimp only at hR J ⊢;by_cases he:er=0
    ·subst he
     rw [if_neg bA] at hR;have bg:=lH hR;have F:=E.trans hk5;have HK5:=lH (ab.o.trans hk5);obtain⟨wb,aq⟩:=eX ((((w5.setCell (A_ w 0) (pF B.ga n1 B.gc)).setCell (A_ w 1) (pF B.ua n2 B.uc)).setCell (A_ w 2) (pF B.fa n3 B.fc)).alloc (.cells #[pE pK D.1,I_ D.2,Dz c.name,I_ 1,I_ 1,pF none 0 0,pF G l.length O,I_ 0] 131));have ad:Aa [w.heap.size] w5 wb:=by rw [<- aq];exact(G5 _ _ _ _ _).alloc _
     have hb0:Blk wb w 29 #[pF B.ga n1 B.gc,pF B.ua n2 B.uc,pF B.fa n3 B.fc,pF v.la ln v.lc,I_ seq]:=by rw [<- aq];exact((((HB0.o.keeps F bA).set_ 0 _).set_ 1 _).set_ 2 _).alloc _
     have hlt:=(HB0.o.keeps F bA).lt;have hb1:Blk wb w5 131 #[pE pK D.1,I_ D.2,Dz c.name,I_ 1,I_ 1,pF none 0 0,pF G l.length O,I_ 0]:=by rw [<- aq];simpa [World.setCell] using Blk.new (((w5.setCell (A_ w 0) (pF B.ga n1 B.gc)).setCell (A_ w 1) (pF B.ua n2 B.uc)).setCell (A_ w 2) (pF B.fa n3 B.fc)) 131 #[pE pK D.1,I_ D.2,Dz c.name,I_ 1,I_ 1,pF none 0 0,pF G l.length O,I_ 0]
     have HB2:=lH ((HB2.o.keeps F bA).keeps ad bI);have al:=lH ((al.o.keeps F bA).keeps ad bI);have bj:=hk3.size;have bh:Hi (Dy wb B s'):=lH ((HS.o.keeps hk5).ge HSG.o ad (by intro y hy;have h1:=M.size;have h2:=HSZ.o;simp only [Ac,Ab,or_false] at hy;omega));have bb:Hi (Hg wb G O l):=lH (J.keepsS ad (fun g o e hm=>by have h1:=Y g o e;have h2:=E.size;have h3:=HSZ.o;simp only [Ac,Ab,or_false] at hm;omega));have au:=lH (HK5.o.own ad bF);have aa:Hi (Ja (w.heap.size+4) B/\Dj (w.heap.size+4) G):=lH ⟨HSG.o.mono (by have:=M.size;have:=HSZ.o;omega),fun g o e=>A8 (by have:=E.size;have:=HSZ.o;omega) (Y g o e)⟩;have ar:Hi (w.heap.size+4<=w5.heap.size/\w5.heap.size<wb.heap.size):=lH ⟨by have h2:=F.size;have h3:=HSZ.o;omega,hb1.lt⟩;have bm:v.lv.length=ln:=by rw [AX.len HM.o.t,HLN.o]
     have ba:Hi (l.length<=1):=lH (by have:=Mo [] c.key now 0 c.n;rw [an] at this;exact this);have r5:=(E.trans hk5).rl;have a9:=hk5.rl;clear hR an ra av hk5 HS HSG J Y bj F am ae M hk3 hk2 hk1 E;go_wp2_with fail;clear aq r5 a9 bt bu aj ak bv bw;have e1:¬w5.heap.size=w.heap.size+1+1:=by have:=ar.o;omega
     have e2:¬w5.heap.size=w.heap.size+1+1+1:=by have:=ar.o;omega
     have q0:=hb0.rl;have q1:=hb1.rl;have a0:Hi (∀W,Aa [] w W->Calls prog 118 #[pH #[pF B.ga n1 B.gc,pF B.ua n2 B.uc,pF B.fa n3 B.fc,pF v.la ln v.lc,I_ seq],pH #[pE pK D.1,I_ D.2,Dz c.name,I_ 1,I_ 1,pF none 0 0,pF G l.length O,I_ 0]] W fun e w'=>∃a k,e = pJ (pH #[pF B.ga n1 B.gc,pF B.ua n2 B.uc,pF B.fa n3 B.fc,pF a (DC v.lv ⟨D.1,D.2,c.name,1,1,none,0,0,G,l.length,O,0⟩).length k,I_ seq])/\AR BE 8 w' a k (DC v.lv ⟨D.1,D.2,c.name,1,1,none,0,0,G,l.length,O,0⟩)/\Dj W a/\Aa [] W w'):=lH fun W hk=>
      Q6 { v with s:=B } n1 n2 n3 ln bm (by have:=a1.o;have:=HLN.o;omega) seq ⟨D.1,D.2,c.name,1,1,none,0,0,G,l.length,O,0⟩ W (HM.o.l.keeps hk)
     have bd:Hi (∀(w6 WF:World) (a6:Option Addr) (c6:Nat),Aa [] wb w6->AR BE 8 w6 a6 c6 (DC v.lv ⟨D.1,D.2,c.name,1,1,none,0,0,G,l.length,O,0⟩)->Dj wb a6->Aa [w.heap.size+1+1,w.heap.size+1+1+1] w6 WF->
       D8 v r w R (pJ (.tuple #[pH #[pF B.ga n1 B.gc,pF B.ua n2 B.uc,pF B.fa n3 B.fc,pF a6 (DC v.lv ⟨D.1,D.2,c.name,1,1,none,0,0,G,l.length,O,0⟩).length c6,I_ seq],pH #[pE pK D.1,I_ D.2,Dz c.name,I_ 1,I_ 1,pF none 0 0,pF G l.length O,I_ 0],.nilIface])) WF):=lH fun w6 WF a6 c6 h1 h2 h3 h4=>by
      have b5:=ar.o;have hS:∀y∈[w.heap.size+1+1,w.heap.size+1+1+1],w.heap.size<=y/\y<w.heap.size+4/\y<wb.heap.size:=fun y hy=>by simp only [Ac,Ab,or_false] at hy;omega
      have ax:Aa [w.heap.size+1+1,w.heap.size+1+1+1] wb WF:=(h1.mono bA).trans h4;have a4:Aa [] w WF:=au.o.own ax (fun y hy=>(hS y hy).1);have hM:CH WF { v with s:=B } ⟨s',r.l,r.seq⟩:={ HM.o.keeps a4 with s:=bh.o.ge aa.o.1 ax (fun y hy=>(hS y hy).2.1) };have hT:Cj WF ⟨D.1,D.2,c.name,1,1,none,0,0,G,l.length,O,0⟩ ⟨D.1,D.2,c.name,1,1,[],l,0⟩:=⟨rfl,rfl,rfl,rfl,rfl,rfl,rfl,rfl,AR.none_,bb.o.keepsS ax (aa.o.2.out (fun y hy=>(hS y hy).2.1))⟩;obtain⟨q1,q3⟩:=hM.put (T:=⟨D.1,D.2,c.name,1,1,[],l,0⟩) (U:=⟨D.1,D.2,c.name,1,1,none,0,0,G,l.length,O,0⟩) (Aa.refl [] WF) (h2.keepsS h4 (h3.out (fun y hy=>(hS y hy).2.2))) hT a1.o ⟨by simp,by have:=ba.o;dsimp only;omega⟩ r.seq;have b4:=au.o.size;exact MN (u:=⟨D.1,D.2,c.name,1,1,none,0,0,G,l.length,O,0⟩) bg.o.symm ⟨_,n1,n2,n3,_,by rw [HSQ.o],l1,l2,l3,q3,q1,fun Q hQ h=>CL.put (v:={ v with s:=B }) (r:=⟨s',r.l,r.seq⟩) ⟨Dj.no aa.o.1.1 bN,Dj.no aa.o.1.2.1 bN,Dj.no aa.o.1.2.2 bN,h.l,h.t⟩ (h3.no bN) ⟨(Dj.none_ (w.heap.size+4)).no bN,aa.o.2.no bN⟩⟩ rfl rfl rfl rfl a4
     refine wp_region_held_drew (S:=(Aa [w.heap.size+1+1,w.heap.size+1+1+1] wb)) bC fA (fun hHeld=>?_);refine rK 0 ?_;refine rK 1 ?_;refine rK 3 ?_;refine rC 2 fun K hK=>?_;go_simp
     (refine(a0.o _ (au.o.own hHeld bF)).mono ?_;rintro e w6 ⟨a6,c6,rfl,bl,bi,hk6⟩;have hkw6:Aa [w.heap.size+1+1,w.heap.size+1+1+1] wb w6:=hHeld.trans (hk6.mono bA);have ac:Aa [] wb w6:=((Aa.refl [] wb).drew).trans hk6;have z2:=(HB2.o.keeps ac bA).rl;have z3:=(al.o.keeps ac bA).rl)
     (try clear rH);refine rP hK fA fun rH hHeld=>?_;clear hK K
     refine rC 4 fun K hK=>?_;go_simp
     (try clear rH);refine rP hK fA fun rH hHeld=>?_;clear hK K
     refine rC 5 fun K hK=>?_;go_simp
     (try clear rH);refine rP hK fA fun rH hHeld=>?_;clear hK K
     refine rK 6 ?_;refine wpAnyH_done bC ?_ _
     (go_wp2_with fail;exact bodyPost_ret (v:=.tuple #[pH #[pF B.ga n1 B.gc,pF B.ua n2 B.uc,pF B.fa n3 B.fc,pF a6 (DC v.lv ⟨D.1,D.2,c.name,1,1,none,0,0,G,l.length,O,0⟩).length c6,I_ seq],pH #[pE pK D.1,I_ D.2,Dz c.name,I_ 1,I_ 1,pF none 0 0,pF G l.length O,I_ 0],.nilIface]) (by simp [results,results112,go_sem,z2,z3]) rfl (bd.o w6 _ a6 c6 ac bl bi bJ))
    ·have X:Hi (R.2.2=er):=lH (by rw [<- hR,if_pos he])
     have f1:(er != 0)=true:=by simpa using he
     have r5:=(E.trans hk5).rl;have a9:=hk5.rl;clear hR J Y av an ra;go_wp2_with fail;exact bodyPost_ret (v:=.tuple #[pH (R_ v gn un fn ln seq),.agg OC.k,.iface 215 (pH #[pE pK er])]) (by simp [results,results112,go_sem,aj,ak,r5]) rfl (Il X.o he (ab.o.trans hk5) (S:=[w.heap.size+1+1,w.heap.size+1+1+1]) bJ bF)
   ·have X:Hi (R.2.2=er):=lH (by rw [<- hR,if_pos he])
    have f1:(er != 0)=true:=by simpa using he
    clear hR N af HR3 ao;go_wp2_with fail;exact bodyPost_ret (v:=.tuple #[pH (R_ v gn un fn ln seq),.agg OC.k,.iface 215 (pH #[pE pK er])]) (by simp [results,results112,go_sem,aj,ak,ra]) rfl (Il X.o he ab.o (S:=[w.heap.size+1+1,w.heap.size+1+1+1]) bJ bF)
theorem OB.down{w w':World}{v v':B6}{r r':CJ}(h:OB w' v r v' r')(hs:w.heap.size<=w'.heap.size):OB w v r v' r':=fun Q hQ hn=>h Q (fun y hy=>BS (hQ y hy) hs) hn
theorem D8.up{v:B6}{r:CJ}{w wz w9 D:World}{R:CJ×Ten×Int}{e:Ending}{S:List Nat}(hm:CH w v r)(hz:Aa [] w wz)(h:D8 v r wz R e w9)(hk:Aa S w9 D)(hS:∀y∈S,w.heap.size<=y/\y<wz.heap.size):D8 v r w R e D:=by
 obtain⟨v9,O,T,U,X,Y,u9,he,B,hk9⟩:=h;refine⟨v9,O,T,U,X,Y,u9,he,fun h0=>?_,(hz.trans hk9).own hk (fun y hy=>(hS y hy).1)⟩;obtain⟨F,a2,G,J,M,N,E,a8⟩:=B h0;exact⟨F,a2,G,J,M,N.stay (E (·∈S) (fun y hy=>(hS y hy).2) (hm.later (fun y hy=>(hS y hy).1))) hk (fun y hy=>hy),E.down hz.size,a8⟩
theorem cM(v:B6)(r:CJ)(gn un fn ln:Nat)(hg:r.slots.gens.length=gn)(hu:r.slots.used.length=un)(hf:r.slots.free.length=fn)(hln:r.l.length=ln)(seq:Int)(hsq:r.seq=seq)(c:FW)(now:Int)
 (hv:1<=c.verb/\c.verb<=10)(ae:0<=now/\now<=1000000000000)(hat : -9223372036854775808<=c.at_/\c.at_<=9223372036854775807)
 (F:r.l.length<=900/\(∀t∈r.l,t.rules.length<=900/\t.creds.length<=900/\0<=t.version/\t.version<=1000000000000))(w:World)(E:Nat->Addr)(hE:Fp w E)(B:Et w)(h:CH w v r):
  Calls prog 51 #[pH (R_ v gn un fn ln seq),pH (K_ c),I_ now] w (D8 v r w (Xv r c now)):=by
 obtain⟨wz,hwz⟩:=eX ((((w.alloc (.cells (R_ v gn un fn ln seq) 29)).alloc (.cells (K_ c) 57)).alloc (.cells LU.k 29)).alloc (.cells OC.k 131));have hz:Aa [] w wz:=by rw [<- hwz];exact((((Aa.refl [] w).alloc _).alloc _).alloc _).alloc _
 have hsz:wz.heap.size=w.heap.size+4:=by rw [<- hwz];simp
 have ai:=Blk.rl (show Blk wz w 29 (R_ v gn un fn ln seq) by rw [<- hwz];exact(((Blk.new w _ _).alloc _).alloc _).alloc _);have aj:=Blk.rl (show Blk wz (w+1) 57 (K_ c) by rw [<- hwz];exact((Ar _ _ _ _ bA).alloc _).alloc _);have U:=Blk.rl (show Blk wz (w+1+1) 29 LU.k by rw [<- hwz];exact(Ar _ _ _ _ bA).alloc _);have X:=Blk.rl (show Blk wz (w+1+1+1) 131 OC.k by rw [<- hwz];exact Ar _ _ _ _ bA);have ac:Hi (∀(R:CJ×Ten×Int) (e:Ending) (w9 J:World),D8 v r wz R e w9->Aa [w.heap.size+1+1,w.heap.size+1+1+1] w9 J->D8 v r w R e J):=lH fun R e w9 J h1 h2=>h1.up h hz h2 mW;obtain⟨R,hR⟩:=eX (Xv r c now);rw [hR];unfold Xv at hR;by_cases h1:c.verb=1
 ·rw [if_pos h1] at hR
  have f1:(c.verb==1)=true:=bR;have HC:=lH (RH v r gn un fn ln hg hu hf hln seq hsq c now F.1 wz (B.keeps hz bA) (h.keeps hz));rw [hR] at HC;clear hg hu hf hln hsq hz hsz h F hE B hR h1;go_enter func51,ntmps51;go_wp2_with fail;clear hwz;refine HC.o.mono ?_;rintro e w9 ⟨v9,M,N,O,T,Y,u9,rfl,D,hk9⟩;have G:Hi (D8 v r wz R (pJ (.tuple #[pH (R_ v9 M N O T Y),pH (T_ u9),FY R.2.2])) w9):=lH ⟨v9,M,N,O,T,Y,u9,rfl,D,hk9⟩;have r9:=hk9.rl;clear D hk9;go_wp2_with fail;exact bodyPost_ret (v:=.tuple #[pH (R_ v9 M N O T Y),pH (T_ u9),FY R.2.2]) (by simp [results,results51,go_sem,U,X,r9]) rfl (ac.o _ _ w9 _ G.o bJ)
 ·rw [if_neg h1] at hR
  have f1:(c.verb==1)=false:=bR;by_cases h9:c.verb=9
  ·rw [if_pos h9] at hR
   have f9:(c.verb==9)=true:=by simpa using h9
   have af:Hi (∀J,Aa [w.heap.size+1+1,w.heap.size+1+1+1] wz J->D8 v r w R (pJ (.tuple #[pH (R_ v gn un fn ln seq),.agg OC.k,.nilIface])) J):=lH fun J hk=>by
    have ad:=hz.own hk bF;exact MN (u:=kT) hR.symm ⟨v,gn,un,fn,ln,by rw [hsq],hg,hu,hf,hln,h.keeps ad,fun _ _ h=>h⟩ rfl rfl rfl rfl ad
   clear hg hu hf hln hsq hz hsz h F hE B hR h1 h9;go_enter func51,ntmps51;go_wp2_with fail;clear hwz;exact bodyPost_ret (v:=.tuple #[pH (R_ v gn un fn ln seq),.agg OC.k,.nilIface]) (by simp [results,results51,go_sem,U,X]) rfl (af.o _ bJ)
  ·rw [if_neg h9] at hR
   have f9:(c.verb==9)=false:=by simpa using h9
   have HC:=lH (Qt v r gn un fn ln hg hu hf hln seq hsq c now bB ae hat F wz E (hE.keep hz) (B.keeps hz bA) (h.keeps hz));rw [hR] at HC;clear hg hu hf hln hsq hz hsz h F hE B hR h1 h9;go_enter func51,ntmps51;go_wp2_with fail;clear hwz;refine HC.o.mono ?_;rintro e w9 ⟨v9,M,N,O,T,Y,u9,rfl,D,hk9⟩;have G:Hi (D8 v r wz R (pJ (.tuple #[pH (R_ v9 M N O T Y),pH (T_ u9),FY R.2.2])) w9):=lH ⟨v9,M,N,O,T,Y,u9,rfl,D,hk9⟩;have r9:=hk9.rl;clear D hk9;go_wp2_with fail;exact bodyPost_ret (v:=.tuple #[pH (R_ v9 M N O T Y),pH (T_ u9),FY R.2.2]) (by simp [results,results51,go_sem,U,X,r9]) rfl (ac.o _ _ w9 _ G.o bJ)
structure Lx(w:World)(E:Nat→Addr):Prop where
 v:Er w
 e:Fp w E
 t:Et w
theorem Lx.keeps{w w':World}{E:Nat->Addr}(h:Lx w E)(hk:Aa [] w w'):Lx w' E:=⟨h.v.keeps hk bA,h.e.keep hk,h.t.keeps hk bA⟩
def Lt(w:World)(R:CJ×lA):Ending->World->Prop:=fun e w'=>∃(v:B6) (gn un fn ln:Nat) (seq:Int),e = pJ (.tuple #[pH (R_ v gn un fn ln seq),pH #[pE pK R.2.err,pE pK R.2.seq,pE pK R.2.slot,pE pK R.2.gen,pE pK R.2.version,pE pK R.2.state]])/\
 seq=R.1.seq/\R.1.slots.gens.length=gn/\R.1.slots.used.length=un/\R.1.slots.free.length=fn/\R.1.l.length=ln/\CH w' v R.1/\CL (· < w.heap.size) v R.1/\Aa [] w w'
theorem YQ{D B:Int}(h:LJ D B=true):1<=B/\B<=10:=by
 unfold LJ B7 at h;simp only [List.any_cons,List.any_nil,Bool.or_eq_true,Af,beq_iff_eq,Bool.or_false] at h;omega
theorem SH(n:Int)(w:World)(hg:Et w):Calls prog 52 #[FY n] w fun e w'=>e = pJ (I_ n)/\Aa [] w w':=by
 by_cases h:n=0
 ·subst h
  exact ErG.told_nil w
 ·rw [FY,if_neg h]
  exact ErG.told_why n w hg
theorem Lm:∀(i:Nat) (u:List Bool) (g:List Int),(usedL i u g).length<=u.length
 | i,true::u,x::g=>by
  have:=Lm (i+1) u g;simp only [usedL,Av];omega
 | i,false::u,x::g=>by
  have:=Lm (i+1) u g;simp only [usedL,Av];omega
 | i,[],g=>by cases g<;>simp [usedL]
 | i,true::u,[]=>by simp [usedL]
 | i,false::u,[]=>by simp [usedL]
theorem Oa{seq:Int}: ∀ {A:List (Int×Int)} {X:List Ten} {met:List ByteArray},De seq met A X=true->∀t∈X,Gq seq t=true
 | [],[],_,_,t,ht=>by simp at ht
 | a::A,x::X,met,h,t,ht=>by
  simp only [De,Af] at h;rcases Ac.1 ht with rfl | ht
  ·exact h.1.2
  ·exact Oa h.2 t ht
 | [],_::_,_,h,_,_=>by simp [De] at h
 | _::_,[],_,h,_,_=>by simp [De] at h
theorem NH{r:CJ}(h:I1 r=true):r.l.length<=900/\(∀t∈r.l,t.rules.length<=900/\t.creds.length<=900/\0<=t.version/\t.version<=1000000000000):=by
 unfold I1 at h;simp only [Af,decide_eq_true_eq] at h;obtain⟨⟨⟨hs,h0⟩,h1⟩,G⟩:=h;have F:=Lj G;have D:(Dt r.slots).length<=64:=by
  unfold Dt;rw [if_pos hs];unfold Dv at hs;simp only [Af,decide_eq_true_eq] at hs;exact A8 (Lm _ _ _) bB
 refine⟨by omega,fun t B=>?_⟩;have:=Oa G t B;unfold Gq EM Hf at this;simp only [Af,decide_eq_true_eq] at this;have hr:=this.2.1.2;have E:=this.2.2;unfold Ew at hr;unfold DK at E;simp only [Af,decide_eq_true_eq] at hr E;omega
theorem Ng(v:B6)(r:CJ)(gn un fn ln:Nat)(hg:r.slots.gens.length=gn)(hu:r.slots.used.length=un)(hf:r.slots.free.length=fn)(hln:r.l.length=ln)(seq:Int)(hsq:r.seq=seq)(X:Int)(c:FW)(now:Int)
 (hat : -9223372036854775808<=c.at_/\c.at_<=9223372036854775807)(w:World)(E:Nat->Addr)(hE:Lx w E)(h:CH w v r):
  Calls prog 21 #[pH (R_ v gn un fn ln seq),I_ X,pH (K_ c),I_ now] w (Lt w (applyR r X c now)):=by
 obtain⟨wz,hwz⟩:=eX ((((w.alloc (.cells (R_ v gn un fn ln seq) 29)).alloc (.cells (K_ c) 57)).alloc (.cells LU.k 29)).alloc (.cells fS.k 83));have hz:Aa [] w wz:=by rw [<- hwz];exact((((Aa.refl [] w).alloc _).alloc _).alloc _).alloc _
 have hsz:wz.heap.size=w.heap.size+4:=by rw [<- hwz];simp
 have HB0:Hi (Blk wz w 29 (R_ v gn un fn ln seq)):=lH nB;have HB1:Hi (Blk wz (w+1) 57 (K_ c)):=lH mZ;have HB2:Hi (Blk wz (w+1+1) 29 LU.k):=lH jU;have D:Hi (Blk wz (w+1+1+1) 83 fS.k):=lH aF;have ap:=HB0.o.rl;have aq:=HB1.o.rl;have ai:=HB2.o.rl;have aj:=D.o.rl;obtain⟨bo,aa⟩:=eX (I1 r);have ak:=lH (Kd v r gn un fn ln hg hu hf lP seq hsq bo aa wz (h.keeps hz));obtain⟨R,hR⟩:=eX (applyR r X c now);rw [hR];unfold applyR at hR;rw [aa,hsq] at hR;by_cases G:bo=false\/1000000000000<=seq\/now<0\/1000000000000<now
 ·rw [if_pos G] at hR
  have ad:Hi (∀w1 WF,Aa [] wz w1->Aa [w.heap.size+1+1,w.heap.size+1+1+1] w1 WF->Lt w R (pJ (.tuple #[.agg LU.k,pH #[pE pK 150,I_ 0,I_ 0,I_ 0,I_ 0,I_ 0]])) WF):=lH fun w1 WF h1 h2=>by
   rw [<- hR];refine⟨⟨⟨none,0,none,0,none,0⟩,none,0,[]⟩,0,0,0,0,0,rfl,rfl,rfl,rfl,rfl,rfl,⟨Dy.zero _,AR.none_,trivial,by decide,fun t ht=>by simp [WM] at ht⟩,⟨fun h=>by simp [WM,Ez] at h,fun h=>by simp [WM,Ez] at h,fun h=>by simp [WM,Ez] at h,fun h=>by simp at h,fun u hu=>by simp at hu⟩,(hz.trans h1).own h2 bF⟩
  clear hg hu hf hln hsq hz hsz h hE hR aa HB0 HB1 HB2 D;go_enter func21,ntmps21;go_wp2_with fail;clear hwz;refine ak.o.mono ?_;rintro e w1 ⟨rfl,hk1⟩;have r1:=hk1.rl;have HK1:=lH hk1;have G:bo=false\/(bo=true/\decide (seq≥1000000000000)=true)\/(bo=true/\decide (seq≥1000000000000)=false/\decide (now<0)=true)\/(bo=true/\decide (seq≥1000000000000)=false/\decide (now<0)=false/\decide (now>1000000000000)=true):=by
   cases bo
   ·exact .inl rfl
   ·simp only [Bool.true_eq_false,false_or] at G
    simp only [decide_eq_true_eq,decide_eq_false_iff_not,Bool.true_eq_false,false_or,true_and];omega
  clear hk1 ak;rcases G with rfl | ⟨rfl,f1⟩ | ⟨rfl,f1,f2⟩ | ⟨rfl,f1,f2,f3⟩
  all_goals
   go_wp2_with fail;exact bodyPost_ret (v:=.tuple #[.agg LU.k,pH #[pE pK 150,I_ 0,I_ 0,I_ 0,I_ 0,I_ 0]]) (by simp [results,results21,go_sem,ai,aj,r1]) rfl (ad.o w1 _ HK1.o bJ)
 ·rw [if_neg G] at hR
  obtain rfl:bo=true:=by cases bo<;>simp_all
  have bv:seq<1000000000000/\0<=now/\now<=1000000000000:=bB;have cp:0<=seq:=by unfold I1 at aa;simp only [Af,decide_eq_true_eq] at aa;omega
  have f1:decide (seq≥1000000000000)=false:=decide_eq_false bB;have f2:decide (now<0)=false:=decide_eq_false bB;have f3:decide (now>1000000000000)=false:=decide_eq_false bB;have hw:IntKind.i64.wrap (seq+1)=seq+1:=IntWalk.i64_in _ bB;have HBD:=lH bv;have HG:=lH hg;have HU:=lH hu;have HF:=lH hf;have HLN:=lH hln;have HSQ:=lH hsq;have HZ:=lH hz;have HSZ:=lH hsz;have HM:=lH h;have HE:=lH hE;have b9:=lH (NH aa);obtain⟨bm,az⟩:=eX (LJ X c.verb);rw [az] at hR;have br:=lH az;have HR:=lH hR;clear hg hu hf hln hsq hz hsz h hE hR aa G bv az cp;go_enter func21,ntmps21;go_wp2_with fail;clear hwz;refine ak.o.mono ?_;rintro e w1 ⟨rfl,hk1⟩;have r1:=hk1.rl;clear ak;go_wp2_with fail;refine(RI v r gn un fn ln HG.o HU.o HF.o HLN.o seq HSQ.o w1 (HM.o.keeps (HZ.o.trans hk1))).mono ?_;rintro e w2 ⟨J,rfl,bz,ag,hk2⟩;have T:=hk1.trans hk2;have hlt:w.heap.size+4<=w1.heap.size:=by have:=hk1.size;have:=HSZ.o;omega
  obtain⟨wa,a0⟩:=eX (((((w2.setCell (A_ w 0) (pF J.s.ga gn J.s.gc)).setCell (A_ w 1) (pF J.s.ua un J.s.uc)).setCell (A_ w 2) (pF J.s.fa fn J.s.fc)).setCell (A_ w 3) (pF J.la ln J.lc)).setCell (A_ w 4) (I_ seq));have bw:Aa [w.heap.size] w2 wa:=by rw [<- a0];exact G6 _ _ _ _ _ _ _
  obtain⟨wb,bd⟩:=eX (wa.setCell (A_ w 4) (I_ (seq+1)));have bx:Aa [w.heap.size] wa wb:=by rw [<- bd];exact Ae _ _ _ _
  have ay:Blk wa w 29 (R_ J gn un fn ln seq):=by rw [<- a0];exact(HB0.o.keeps T bA).put5 _ _ _ _ _
  have HBB:Hi (Blk wb w 29 (R_ J gn un fn ln (seq+1))):=lH (by rw [<- bd];exact ay.set_ 4 _);have N:Aa [w.heap.size] w2 wb:=bw.trans bx;have au:Hi (CH wb J ⟨r.slots,r.l,seq+1⟩):=lH { (bz.ge ag N mW) with };have F:Hi (IF w1 J):=lH ag;have ae:Hi (Aa [] w wb):=lH ((HZ.o.trans T).own N bF);have HLT:=lH hlt;have bu:Hi (w1.heap.size<=wb.heap.size):=lH (A8 hk2.size N.size);have U:Aa [w.heap.size] wz wb:=(T.mono bA).trans N;have cx:=lH U;have HB1:=lH (HB1.o.keeps U bI);have HB2:=lH (HB2.o.keeps U bI);have D:=lH (D.o.keeps U bI);have r2:=T.rl;have ba:=ay.rl;have bb:=HB1.o.rl;clear r1 hk1 hk2 T hlt bw bx ay N U bz ag;go_wp2_with fail;clear bd a0 ap aq ai aj r2 ba bb;have ap:=HBB.o.rl;have aq:=HB1.o.rl;have ai:=HB2.o.rl;have aj:=D.o.rl;refine(U1 X c.verb bm br.o wb (HE.o.keeps ae.o).v).mono ?_;rintro e w3 ⟨rfl,hk3⟩;have hR:=HR.o;cases bm with
  | false=>
   rw [if_pos rfl] at hR;have HSA:Hi (∀A,Aa [w.heap.size+1+1,w.heap.size+1+1+1] w3 A->Lt w R (pJ (.tuple #[pH (R_ J gn un fn ln (seq+1)),pH #[pE pK 151,I_ (seq+1),I_ 0,I_ 0,I_ 0,I_ 0]])) A):=lH fun A hk=>by
    rw [<- hR];have hl:=HLT.o;have hS:∀y∈[w.heap.size+1+1,w.heap.size+1+1+1],w.heap.size<=y/\y<w1.heap.size:=fun y hy=>by simp only [Ac,Ab,or_false] at hy;omega
    exact⟨J,gn,un,fn,ln,_,rfl,rfl,HG.o,HU.o,HF.o,HLN.o,(au.o.keeps hk3).ge F.o hk (fun y hy=>(hS y hy).2),F.o.no gD,(ae.o.trans hk3).own hk (fun y hy=>(hS y hy).1)⟩
   have z2:=(HB2.o.keeps hk3 bA).rl;have z3:=(D.o.keeps hk3 bA).rl;have z0:=(HBB.o.keeps hk3 bA).rl;clear ap aq ai aj hk3 hR;go_wp2_with fail;refine wp_region_held_drew (S:=(Aa [w.heap.size+1+1,w.heap.size+1+1+1] w3)) bC bX (fun hHeld=>?_);refine rK 0 ?_;refine rK 1 ?_;refine rK 2 ?_;refine rK 3 ?_;refine rC 4 fun K hK=>?_;go_simp
   (try clear rH);refine rP hK bX fun rH hHeld=>?_;clear hK K
   refine rC 5 fun K hK=>?_;go_simp
   (try clear rH);refine rP hK bX fun rH hHeld=>?_;clear hK K
   refine wpAnyH_done bC ?_ _
   (go_wp2_with fail;exact bodyPost_ret (v:=.tuple #[pH (R_ J gn un fn ln (seq+1)),pH #[pE pK 151,I_ (seq+1),I_ 0,I_ 0,I_ 0,I_ 0]]) (by simp [results,results21,go_sem,z2,z3]) rfl (HSA.o _ hHeld))
  | true=>
   rw [if_neg bE] at hR;have b8:=lH hR;have r3:=hk3.rl;have Y:=lH hk3;clear hk3 hR;go_wp2_with fail;refine(cM J ⟨r.slots,r.l,seq+1⟩ gn un fn ln HG.o HU.o HF.o HLN.o (seq+1) rfl c now (YQ br.o) HBD.o.2 hat b9.o w3 E (HE.o.keeps (ae.o.trans Y.o)).e (HE.o.keeps (ae.o.trans Y.o)).t (au.o.keeps Y.o)).mono ?_;rintro e w4 ⟨v9,n1,n2,n3,n4,sq,M,rfl,an,hk4⟩;obtain⟨⟨d1,d2,er⟩,hD⟩:∃d,Xv ⟨r.slots,r.l,seq+1⟩ c now=d:=⟨_,rfl⟩;have hR:=b8.o;rw [hD] at hR an ⊢;dsimp only at hR an ⊢;obtain⟨wc,ao⟩:=eX ((w4.alloc (.cells (R_ v9 n1 n2 n3 n4 sq) 29)).alloc (.cells (T_ M) 131));have am:Aa [] w4 wc:=by rw [<- ao];exact((Aa.refl [] w4).alloc _).alloc _
   have O:Aa [] wb wc:=(Y.o.trans hk4).trans am;have HKC:=lH (ae.o.trans O);have bs:=lH (hk4.trans am);have ab:Hi (Blk wc w4 29 (R_ v9 n1 n2 n3 n4 sq)):=lH (by rw [<- ao];exact(Blk.new w4 _ _).alloc _);have ar:Hi (Blk wc (w4+1) 131 (T_ M)):=lH (by rw [<- ao];exact Ar _ _ _ _ bA);have b7:Hi (er=0->sq=d1.seq/\d1.slots.gens.length=n1/\d1.slots.used.length=n2/\d1.slots.free.length=n3/\d1.l.length=n4/\CH wc v9 d1/\OB w3 J ⟨r.slots,r.l,seq+1⟩ v9 d1/\M.slot=d2.slot/\M.gen=d2.gen/\M.version=d2.version/\M.state=d2.state):=lH fun h0=>by
    obtain⟨a1,a2,a3,a4,a5,a6,a7⟩:=an h0;exact⟨a1,a2,a3,a4,a5,a6.keeps am,a7⟩
   have HB0:=lH (HBB.o.keeps O bA);have HB2:=lH (HB2.o.keeps O bA);have D:=lH (D.o.keeps O bA);have HR3:=lH hR;have aw:Hi (w1.heap.size<=w3.heap.size/\w.heap.size+4<=w4.heap.size):=lH ⟨by have:=bu.o;have:=Y.o.size;omega,by have:=bu.o;have:=Y.o.size;have:=hk4.size;have:=HLT.o;omega⟩;clear an hk4 hR hD am O;go_upto_region 8 with fail
   clear ao ap aq ai aj r3;have z0:=HB0.o.rl;have z5:=ar.o.rl;go_cut [13] (fun x wd=>∃g,x = p_ g 0/\Hi (Blk wd g 83 #[pE pK er,I_ (seq+1),I_ M.slot,I_ M.gen,I_ M.version,I_ M.state]/\Aa [] wc wd/\wc.heap.size<=g))
   case first=>
    refine wp_region_held_drew (S:=(Aa [] wc)) bC fW (fun hHeld=>?_);refine rK 0 ?_;refine rK 2 ?_;refine rK 3 ?_;refine rK 4 ?_;refine rK 5 ?_;refine rK 6 ?_;refine rK 7 ?_;refine rK 8 ?_;refine rK 9 ?_;refine wpAnyH_ready (rs:=[1,11]) bC bA ?_;refine AllReadyH.cons rfl (fun K hK=>?_) ?_
    ·go_simp
     (refine(SH er _ (HE.o.keeps (HKC.o.trans hHeld)).t).mono ?_;rintro e w5 ⟨rfl,hk5⟩;have hk5':Aa [] wc w5:=hHeld.trans hk5)
     (try clear rH);refine rP hK fW fun rH hHeld=>?_;clear hK K
     refine rK 10 ?_;refine rC 11 fun K hK=>?_;go_simp
     (try clear rH);refine rP hK fW fun rH hHeld=>?_;clear hK K
     refine rC 12 fun K hK=>?_;go_simp
     (try clear rH);refine rP hK fW fun rH hHeld=>?_;clear hK K
     refine wpAnyH_done bC ?_ _
     (go_wp2_with fail;go_meet;exact⟨_,rfl,lH ⟨by first | with_reducible exact Blk.new _ _ _ | exact(((((be.set_ 0 _).set_ 1 _).set_ 2 _).set_ 3 _).set_ 4 _).set_ 5 _,by(try with_reducible refine Aa.drew ?_);(repeat with_reducible refine Aa.setCell ?_ (.inr (Aw _)) _);(try with_reducible refine Aa.alloc ?_ _);with_reducible (first | exact hk5' | exact Aa.refl _ _),by first | exact hk5'.size | exact Aw _⟩⟩)
    refine AllReadyH.cons rfl (fun K hK=>?_) ?_
    ·go_simp
     (try clear rH);refine rP hK fW fun rH hHeld=>?_;clear hK K
     refine rC 1 fun K hK=>?_;go_simp
     (refine(SH er _ (HE.o.keeps (HKC.o.trans hHeld)).t).mono ?_;rintro e w5 ⟨rfl,hk5⟩;have hk5':Aa [] wc w5:=hHeld.trans hk5;have be:Blk w5 wc 83 fS.k:=(Blk.new wc 83 fS.k).drew.keeps hk5 bA;have c6:=be.rl)
     (try clear rH);refine rP hK fW fun rH hHeld=>?_;clear hK K
     refine rK 10 ?_;refine rC 12 fun K hK=>?_;go_simp
     (try clear rH);refine rP hK fW fun rH hHeld=>?_;clear hK K
     refine wpAnyH_done bC ?_ _
     (go_wp2_with fail;go_meet;exact⟨_,rfl,lH ⟨by first | with_reducible exact Blk.new _ _ _ | exact(((((be.set_ 0 _).set_ 1 _).set_ 2 _).set_ 3 _).set_ 4 _).set_ 5 _,by(try with_reducible refine Aa.drew ?_);(repeat with_reducible refine Aa.setCell ?_ (.inr (Aw _)) _);(try with_reducible refine Aa.alloc ?_ _);with_reducible (first | exact hk5' | exact Aa.refl _ _),by first | exact hk5'.size | exact Aw _⟩⟩)
    exact AllReadyH.nil
   case rest=>
    obtain⟨g,rfl,ac⟩:=hcut
    rename World=>wd
    clear z0 z5;have z0:=(HB0.o.keeps ac.o.2.1 bA).rl;have z1:=ac.o.1.rl;go_upto_region 9 with fail
    go_cut [14] (fun x we=>∃n0,x = p_ n0 0/\Hi (Blk we n0 83 #[pE pK er,I_ (seq+1),I_ 0,I_ 0,I_ 0,I_ 0]/\Aa [] wd we/\wd.heap.size<=n0))
    case first=>
     go_wp2_with fail;go_meet;exact⟨_,rfl,lH ⟨Blk.new wd _ _,(Aa.refl [] wd).alloc _,Aw _⟩⟩
    case rest=>
    obtain⟨n0,rfl,av⟩:=hcut
    rename World=>we
    have ah:=av.o.2.1;have B:Aa [] wc we:=ac.o.2.1.trans ah;have HNO:=lH av.o.1;have b6:=lH (ac.o.1.keeps ah bA);have ab:=lH (ab.o.keeps B bA);have HB2:=lH (HB2.o.keeps B bA);have D:=lH (D.o.keeps B bA);have bq:=lH (HB0.o.keeps B bA);have HKE:=lH (HKC.o.trans B);have b5:=lH B;have bt:=lH (bs.o.trans B);have HSS:Hi (∀y∈[w.heap.size+1+1,w.heap.size+1+1+1],w.heap.size<=y/\y<w1.heap.size/\y<w3.heap.size):=lH (fun y hy=>by have h1:=HLT.o;have h2:=aw.o;simp only [Ac,Ab,or_false] at hy;omega);have cm:=ac.o.2.2;have cn:=aw.o.2;have ck:=ab.o.lt;have cj:w4.heap.size<wc.heap.size:=ar.o.lt |> fun h=>by omega
    have e1:¬g=w.heap.size+1+1:=bB;have e2:¬g=w.heap.size+1+1+1:=bB;have e3:¬w4.heap.size=w.heap.size+1+1:=bB;have e4:¬w4.heap.size=w.heap.size+1+1+1:=bB;have cl:wc.heap.size<=wd.heap.size:=ac.o.2.1.size;have co:=av.o.2.2;have e5:¬n0=w.heap.size+1+1:=bB;have e6:¬n0=w.heap.size+1+1+1:=bB;clear ah B cm cn ck cj cl co;have hR:=HR3.o;by_cases he:er=0
    ·subst he
     rw [if_neg bA] at hR;have ad:Hi (∀WF,Aa [w.heap.size+1+1,w.heap.size+1+1+1] we WF->Lt w R (pJ (.tuple #[pH (R_ v9 n1 n2 n3 n4 sq),pH #[pE pK 0,I_ (seq+1),I_ M.slot,I_ M.gen,I_ M.version,I_ M.state]])) WF):=lH fun WF hk=>by
      obtain⟨a1,a2,a3,a4,a5,a6,a7,a8,a9,cc,cd⟩:=b7.o rfl;rw [<- hR];refine⟨v9,n1,n2,n3,n4,sq,by rw [a8,a9,cc,cd],a1,a2,a3,a4,a5,?_,?_,HKE.o.own hk (fun y hy=>(HSS.o y hy).1)⟩
      ·exact(a6.keeps b5.o).stay (a7 (·∈[w.heap.size+1+1,w.heap.size+1+1+1]) (fun y hy=>(HSS.o y hy).2.2) (F.o.no (fun y hy=>(HSS.o y hy).2.1))) hk (fun y hy=>hy)
      ·exact a7 (· < w.heap.size) (fun y hy=>by have:=aw.o;have:=HLT.o;omega) (F.o.no (fun y hy=>by have:=HLT.o;omega))
     clear hR;simp only [FY,if_true];go_wp2_with fail;clear z0 z1;have z2:=HB2.o.rl;have z3:=D.o.rl;have z4:=ab.o.rl;have z5:=b6.o.rl;refine wp_region_held_drew (S:=(Aa [w.heap.size+1+1,w.heap.size+1+1+1] we)) bC bX (fun hHeld=>?_);refine rK 0 ?_;refine rK 1 ?_;refine rC 2 fun K hK=>?_;go_simp
     (try clear rH);refine rP hK bX fun rH hHeld=>?_;clear hK K
     refine rC 3 fun K hK=>?_;go_simp
     (try clear rH);refine rP hK bX fun rH hHeld=>?_;clear hK K
     refine wpAnyH_done bC ?_ _
     (go_wp2_with fail;exact bodyPost_ret (v:=.tuple #[pH (R_ v9 n1 n2 n3 n4 sq),pH #[pE pK 0,I_ (seq+1),I_ M.slot,I_ M.gen,I_ M.version,I_ M.state]]) (by simp [results,results21,go_sem,z2,z3]) rfl (ad.o _ hHeld))
    ·rw [if_pos he] at hR
     have ad:Hi (∀WF,Aa [w.heap.size+1+1,w.heap.size+1+1+1] we WF->Lt w R (pJ (.tuple #[pH (R_ J gn un fn ln (seq+1)),pH #[pE pK er,I_ (seq+1),I_ 0,I_ 0,I_ 0,I_ 0]])) WF):=lH fun WF hk=>by
      rw [<- hR];exact⟨J,gn,un,fn,ln,_,rfl,rfl,HG.o,HU.o,HF.o,HLN.o,((au.o.keeps Y.o).keeps bt.o).ge F.o hk (fun y hy=>(HSS.o y hy).2.1),F.o.no (fun y hy=>by have:=HLT.o;omega),HKE.o.own hk (fun y hy=>(HSS.o y hy).1)⟩
     clear hR;simp only [FY,if_neg he];go_wp2_with fail;clear z0 z1;have z2:=HB2.o.rl;have z3:=D.o.rl;have z4:=bq.o.rl;have z5:=HNO.o.rl;refine wp_region_held_drew (S:=(Aa [w.heap.size+1+1,w.heap.size+1+1+1] we)) bC bX (fun hHeld=>?_);refine rK 0 ?_;refine rK 1 ?_;refine rC 2 fun K hK=>?_;go_simp
     (try clear rH);refine rP hK bX fun rH hHeld=>?_;clear hK K
     refine rC 3 fun K hK=>?_;go_simp
     (try clear rH);refine rP hK bX fun rH hHeld=>?_;clear hK K
     refine wpAnyH_done bC ?_ _
     (go_wp2_with fail;exact bodyPost_ret (v:=.tuple #[pH (R_ J gn un fn ln (seq+1)),pH #[pE pK er,I_ (seq+1),I_ 0,I_ 0,I_ 0,I_ 0]]) (by simp [results,results21,go_sem,z2,z3]) rfl (ad.o _ hHeld))
theorem Sy{r:CJ}(h:I1 r=true):r.l.length<=64/\0<=r.seq:=by
 unfold I1 at h;simp only [Af,decide_eq_true_eq] at h;obtain⟨⟨⟨hs,h0⟩,h1⟩,E⟩:=h;have D:=Lj E;have B:(Dt r.slots).length<=64:=by
  unfold Dt;rw [if_pos hs];unfold Dv at hs;simp only [Af,decide_eq_true_eq] at hs;exact A8 (Lm _ _ _) bB
 omega
def XA(w:World)(R:CJ):Ending->World->Prop:=fun e w'=>∃(v:B6) (gn un fn ln:Nat) (seq:Int),e = pJ (pH (R_ v gn un fn ln seq))/\seq=R.seq/\R.slots.gens.length=gn/\R.slots.used.length=un/\R.slots.free.length=fn/\R.l.length=ln/\CH w' v R/\CL (· < w.heap.size) v R/\Aa [] w w'
structure X9(w w4:World)(pb gn un fn ln:Nat)(now:Int)(v1:B6)(r:CJ)(seq:Int)(n:Nat)(vk:B6)(nk:Nat)(rk:CJ)(A:World):Prop where
 b0:Blk A w.heap.size 29 (R_ vk gn un fn nk rk.seq)
 b1:Blk A (w.heap.size+1) 3 #[pE pK now]
 b2:Blk A (w.heap.size+1+1) 29 LU.k
 pb:Blk A pb 29 (R_ v1 gn un fn ln seq)
 m:CH A vk rk
 slots:rk.slots=r.slots
 len:rk.l.length=nk
 sz:nk≤ln+n
 go_:∀Q:Nat→Prop,(∀y,Q y→y<w4.heap.size+2)→CL Q v1 r→CL Q vk rk
 sq:0≤rk.seq
 kw:Aa [w.heap.size] w4 A
theorem X9.keeps{w w4:World}{pb gn un fn ln:Nat}{now:Int}{B:B6}{r:CJ}{seq:Int}{n:Nat}{E:B6}{nk:Nat}{rk:CJ}{A D:World}{S:List Nat}(h:X9 w w4 pb gn un fn ln now B r seq n E nk rk A)(h1:CH w4 B r)(hp:w.heap.size+3<=pb/\pb<w4.heap.size)(hk:Aa S A D)(hS:∀y∈S,w4.heap.size<=y/\y<w4.heap.size+2):X9 w w4 pb gn un fn ln now B r seq n E nk rk D:=by
 have hn:∀y,y<w4.heap.size->y∉S:=fun y hy hm=>by have:=hS y hm;omega
 exact { h with b0:=h.b0.keeps hk (hn _ bB),b1:=h.b1.keeps hk (hn _ bB),b2:=h.b2.keeps hk (hn _ bB),pb:=h.pb.keeps hk (hn _ bB),m:=h.m.stay (h.go_ (·∈S) (fun y hy=>(hS y hy).2) (h1.later (fun y hy=>(hS y hy).1))) hk (fun y hy=>hy),kw:=h.kw.trans' hk (fun y hy=>.inr (hS y hy).1) }
theorem DW.and2{P Q R:Nat->Prop}{a:Option Addr}{n:Nat}(h1:DW P a n)(h2:DW Q a n)(h:∀y,R y->P y\/Q y):DW R a n:=fun h0 g o e hr=>(h g hr).elim (h1 h0 g o e) (h2 h0 g o e)
theorem CL.and2{P Q R:Nat->Prop}{v:B6}{r:CJ}(h1:CL P v r)(h2:CL Q v r)(h:∀y,R y->P y\/Q y):CL R v r:=
 ⟨h1.g.and2 h2.g h,h1.u.and2 h2.u h,h1.f.and2 h2.f h,h1.l.and2 h2.l h,fun u hu=>⟨(h1.t u hu).1.and2 (h2.t u hu).1 h,(h1.t u hu).2.and2 (h2.t u hu).2 h⟩⟩
theorem X9.next{w w4:World}{pb gn un fn ln:Nat}{now:Int}{O:B6}{r:CJ}{seq:Int}{n:Nat}{D:B6}{nk:Nat}{rk:CJ}{wf G:World}{u U:TV}{T:Ten}{F:Option Addr}{J B:Nat}(h:X9 w w4 pb gn un fn ln now O r seq n D nk rk wf)(aa:IF (w.heap.size+3) O)(hp:w.heap.size+3<=pb/\pb<w4.heap.size)(hu:u∈O.lv)(hU:Cj wf U T)(hs:EY B u U)(hB:w4.heap.size+2<=B)(hwf:w4.heap.size+2<=wf.heap.size)
 (hk6:Aa [] wf G)(ac:AR BE 8 G F J (DC D.lv U))(M:Dj wf F)(hl:nk<=900)(ad:T.rules.length<=1000/\T.creds.length<=1000):
  X9 w w4 pb gn un fn ln now O r seq (n+1) ⟨D.s,F,J,DC D.lv U⟩ (DC D.lv U).length ⟨rk.slots,GI rk.l T,rk.seq+1⟩ ((((((G.setCell (A_ w 0) (pF D.s.ga gn D.s.gc)).setCell (A_ w 1) (pF D.s.ua un D.s.uc)).setCell (A_ w 2) (pF D.s.fa fn D.s.fc)).setCell (A_ w 3) (pF F (DC D.lv U).length J)).setCell (A_ w 4) (I_ rk.seq)).setCell (A_ w 4) (I_ (rk.seq+1))):=by
 have E:Aa [w.heap.size] G ((((((G.setCell (A_ w 0) (pF D.s.ga gn D.s.gc)).setCell (A_ w 1) (pF D.s.ua un D.s.uc)).setCell (A_ w 2) (pF D.s.fa fn D.s.fc)).setCell (A_ w 3) (pF F (DC D.lv U).length J)).setCell (A_ w 4) (I_ rk.seq)).setCell (A_ w 4) (I_ (rk.seq+1))):=(G6 _ _ _ _ _ _ _).trans (Ae _ _ _ _);have hn:∀y,w.heap.size<y->y∉[w.heap.size]:=fun y hy=>by simp only [Ac,Ab,or_false];omega
 have hQ:∀y,(fun y=>y=w.heap.size) y->y<w4.heap.size+2:=fun y hy=>by dsimp only at hy;omega
 have N:CL (fun y=>y=w.heap.size) O r:=aa.no gD;have Y:Ky (fun y=>y=w.heap.size) U:=hs.no (N.t u hu) gD;have ab:CH ((((((G.setCell (A_ w 0) (pF D.s.ga gn D.s.gc)).setCell (A_ w 1) (pF D.s.ua un D.s.uc)).setCell (A_ w 2) (pF D.s.fa fn D.s.fc)).setCell (A_ w 3) (pF F (DC D.lv U).length J)).setCell (A_ w 4) (I_ rk.seq)).setCell (A_ w 4) (I_ (rk.seq+1))) D rk:=(h.m.keeps hk6).stay (h.go_ _ hQ N) E bA;have X:Cj ((((((G.setCell (A_ w 0) (pF D.s.ga gn D.s.gc)).setCell (A_ w 1) (pF D.s.ua un D.s.uc)).setCell (A_ w 2) (pF D.s.fa fn D.s.fc)).setCell (A_ w 3) (pF F (DC D.lv U).length J)).setCell (A_ w 4) (I_ rk.seq)).setCell (A_ w 4) (I_ (rk.seq+1))) U T:=(hU.keeps hk6).stay Y E bA;obtain⟨q1,q3⟩:=ab.put (Aa.refl [] _) (ac.keepsS E (M.out bF)) X (by rw [h.len];exact hl) ad (rk.seq+1);exact⟨((h.b0.keeps hk6 bA).put5 _ _ _ _ _).set_ 4 _,(h.b1.keeps hk6 bA).keeps E (hn _ bB),(h.b2.keeps hk6 bA).keeps E (hn _ bB),(h.pb.keeps hk6 bA).keeps E (hn _ bB),q1,h.slots,q3,by have:=Sv rk.l T;rw [q3,h.len] at this;have:=h.sz;omega,
  fun Q hQ hn=>(h.go_ Q hQ hn).put (M.no bN) (hs.no (hn.t u hu) bN),by have:=h.sq;dsimp only;omega,(h.kw.trans (hk6.mono bA)).trans E⟩
theorem X9.up{w w4:World}{pb gn un fn ln:Nat}{now:Int}{D:B6}{r:CJ}{seq:Int}{n B:Nat}{E:B6}{nk:Nat}{rk:CJ}{A:World}(h:X9 w w4 pb gn un fn ln now D r seq n E nk rk A)(hn:n<=B):X9 w w4 pb gn un fn ln now D r seq B E nk rk A:={ h with sz:=by have:=h.sz;omega }
theorem Wh(v:B6)(r:CJ)(gn un fn ln:Nat)(hg:r.slots.gens.length=gn)(hu:r.slots.used.length=un)(hf:r.slots.free.length=fn)(hln:r.l.length=ln)(seq:Int)(hsq:r.seq=seq)(now:Int)(w:World)(h:CH w v r):
  Calls prog 66 #[pH (R_ v gn un fn ln seq),pE pK now] w (XA w (Hx r now)):=by
 obtain⟨wz,hwz⟩:=eX (((w.alloc (.cells (R_ v gn un fn ln seq) 29)).alloc (.cells #[pE pK now] 3)).alloc (.cells LU.k 29));have hz:Aa [] w wz:=by rw [<- hwz];exact(((Aa.refl [] w).alloc _).alloc _).alloc _
 have hsz:wz.heap.size=w.heap.size+3:=by rw [<- hwz];simp
 have HB0:Hi (Blk wz w 29 (R_ v gn un fn ln seq)):=lH (by rw [<- hwz];exact((Blk.new w _ _).alloc _).alloc _);have HB1:Hi (Blk wz (w+1) 3 #[pE pK now]):=lH jU;have HB2:Hi (Blk wz (w+1+1) 29 LU.k):=lH aF;have b7:=HB0.o.rl;have HG:=lH hg;have HU:=lH hu;have HF:=lH hf;have HLN:=lH hln;have HSQ:=lH hsq;have HZ:=lH hz;have HSZ:=lH hsz;have HM:=lH h;obtain⟨R,hR⟩:=eX (Hx r now);rw [hR];have HR:=lH hR;clear hg hu hf hln hsq hz hsz h hR;have aj:=lH (fun B=>fun W=>FU B r gn un fn ln W);rw [HSQ.o] at aj;refine(callsIn_wide (n:=9)).1 ?_;refine callsIn_of_wp_marks func66 rfl trivial ?_ rfl;simp only [ntmps66,Cz,Av,D4,pL,pM,Bt,Bu,Cd,BD,BH,AL];gi_wp2_with (fail);clear hwz;refine⟨trivial,(callsIn_wide.2 (RI v r gn un fn ln HG.o HU.o HF.o HLN.o seq HSQ.o wz (HM.o.keeps HZ.o))).mono ?_⟩;rintro e w1 ⟨B,rfl,bd,ad,hk1⟩;obtain⟨wa,av⟩:=eX (((((w1.setCell (A_ w 0) (pF B.s.ga gn B.s.gc)).setCell (A_ w 1) (pF B.s.ua un B.s.uc)).setCell (A_ w 2) (pF B.s.fa fn B.s.fc)).setCell (A_ w 3) (pF B.la ln B.lc)).setCell (A_ w 4) (pE pK seq));have aq:Aa [w.heap.size] w1 wa:=by rw [<- av];exact G6 _ _ _ _ _ _ _
 have aw:Hi (Blk wa w 29 (R_ B gn un fn ln seq)):=lH (by rw [<- av];exact(HB0.o.keeps hk1 bA).put5 _ _ _ _ _);have ab:Hi (CH wa B r):=lH (bd.ge ad aq (by intro y hy;have:=HSZ.o;simp only [Ac,Ab,or_false] at hy;omega));have E:Hi (IF wz B):=lH ad;have Y:Aa [w.heap.size] wz wa:=(hk1.mono bA).trans aq;have ay:Hi (Aa [] w wa):=lH (HZ.o.own Y bF);have HB1:=lH (HB1.o.keeps Y bI);have HB2:=lH (HB2.o.keeps Y bI);have r1:=hk1.rl;have ra:=aw.o.rl;obtain⟨bo,ba⟩:=eX (I1 r);have aa:=lH ba;clear bd ad aq Y hk1 ba;gi_wp2_with (fail);clear av r1 b7;refine⟨trivial,(callsIn_wide.2 (Kd B r gn un fn ln HG.o HU.o HF.o (by rw [AX.len ab.o.t,HLN.o]) seq HSQ.o bo aa.o wa ab.o)).mono ?_⟩;rintro e w3 ⟨rfl,hk3⟩;have r3:=hk3.rl;have O:=lH hk3;have bt:=lH (aj.o B);have hR:=HR.o;unfold Hx at hR;rw [aa.o] at hR;cases bo with
 | false=>
  rw [if_neg bE] at hR;have z2:=(HB2.o.keeps hk3 bA).rl;have bl:Hi (∀WF,Aa [w.heap.size+1+1] w3 WF->XA w R (pJ (pH (R_ B gn un fn ln seq))) WF):=lH fun WF hk=>by
   have hs:=HSZ.o;rw [<- hR];exact⟨B,gn,un,fn,ln,seq,rfl,HSQ.o.symm,HG.o,HU.o,HF.o,HLN.o,(ab.o.keeps O.o).ge E.o hk bF,E.o.no gD,(ay.o.trans O.o).own hk bF⟩
  clear hk3;gi_wp2_with (fail);exact⟨pH (R_ B gn un fn ln seq),by simp [results,results66,go_sem,z2],bl.o _ bJ⟩
 | true=>
  rw [if_pos rfl] at hR;have bp:=lH hR;clear hR;gi_wp2_with (fail);refine⟨trivial,(callsIn_wide.2 (bt.o w3)).mono ?_⟩;rintro e w4 ⟨rfl,hw4⟩;gi_wp2_with (fail);have bg:w4.heap.size=w3.heap.size+1:=by rw [<- hw4];simp
  have hk4:Aa [] w3 w4:=by rw [<- hw4];exact(Aa.refl [] w3).alloc _
  have F:=O.o.trans hk4;have HM4:Hi (CH w4 B r):=lH (ab.o.keeps F);have a9:X9 w w4 w3 gn un fn ln now B r seq 0 B ln r w4:=⟨by rw [HSQ.o];exact aw.o.keeps F bA,HB1.o.keeps F bA,HB2.o.keeps F bA,by rw [<- hw4];exact Blk.new w3 _ _,HM4.o,rfl,HLN.o,by omega,fun _ _ h=>h,(Sy aa.o).2,Aa.refl _ _⟩;have bm:=lH a9;have HPB:Hi (w.heap.size+3<=w3.heap.size/\w3.heap.size<w4.heap.size):=lH ⟨by have h1:=O.o.size;have h2:=HB2.o.lt;omega,by omega⟩;have ai:=lH (NH aa.o);have az:=lH (ay.o.trans F);clear a9 hw4 hk4 F hk3 ra r3;refine Cc rfl bB (gf:=136) (lb:=#[pG (some (A_ w3 0))]) rfl trivial (enters_of func136 bC rfl) (FV 8 w3 B.la B.lc ln B.lv (by rw [AX.len ab.o.t,HLN.o]) (by have:=ai.o.1;have:=HLN.o;omega) seq) (fun _=>rfl)
   (fun X A=>∃D nk,X9 w w4 w3 gn un fn ln now B r seq X.length D nk ((r.l.take X.length).foldl (GS now) r) A) (fun _ _=>False)
   (fun X A A' h hk=>by obtain⟨D,nk,h⟩:=h;exact⟨D,nk,h.keeps HM4.o HPB.o hk bF⟩)
   (fun X A A' h hk=>h)
   (fun X A h=>by obtain⟨_,_,h⟩:=h;exact⟨h.pb.cell 3,h.pb.cell 4,(HM4.o.l.keepsS h.kw (fun g o e=>by have h1:=E.o.l g o e;have h2:=HSZ.o;simp only [Ac,Ab,or_false];omega))⟩) ⟨_,_,bm.o⟩
   (fun k W=>(fun u:TV=>(({ tmps:=#[pH (R_ v gn un fn ln seq),pE pK now,pG (some (A_ w 0)),pG (some (A1 w 0)),pG (some (A2 w 0)),UD,pG (some (A_ W 0)),UD,UD,pH (R_ v gn un fn ln seq),pH (R_ B gn un fn ln seq),pH (R_ B gn un fn ln seq),pI true,pI false,UD,pH (R_ B gn un fn ln seq),
      .func (.func 136) #[] #[pG (some (A_ w3 0))],pE pK (k:Int),pH (U_ u seq),UD,UD,UD,UD,UD,UD,UD,UD,UD,UD,UD,UD,UD,UD,UD,UD,UD,UD,UD,UD,UD,UD,UD,UD,UD,UD,UD,UD,UD,UD,UD,UD,UD,UD,UD,UD,UD,UD,UD,UD,UD,UD,UD,UD,UD,UD,UD,UD,UD,UD],defers:=[] } : Act),W.alloc (.cells (U_ u seq) 166))) (B.lv.getD k tv0))
   (fun k W=>(Aa.refl [] W).alloc _) ?assign ?body ?done ?stop
  case assign=>
   intro l k W K hK;simp only [Mg];dsimp only at hK;generalize B.lv.getD k tv0=u at hK ⊢;gi_wp2;exact hK
  case body=>
   rintro l X k W W2 ⟨D,nk,hI⟩ al M hk2;obtain⟨rfl,hkn⟩:=E8 al;obtain⟨u,hu⟩:∃u,B.lv[k]? = some u:=⟨_,Aq (by rw [AX.len HM4.o.t,HLN.o];exact hkn)⟩;have hgd:B.lv.getD k tv0=u:=by rw [AO,hu];rfl
   obtain⟨t,ht,bi⟩:=HM4.o.t.get? hu;dsimp only at hk2 ⊢;rw [hgd] at hk2 ⊢;rw [AP] at hI;have ac:=(hI.keeps HM4.o HPB.o ((Aa.refl [] W).alloc (.cells (U_ u seq) 166)) bA).keeps HM4.o HPB.o hk2 bF;have bh:W.heap.size+1<=W2.heap.size:=by have:=hk2.size;rw [Eo] at this;exact this
   have hb:=(Blk.new W 166 (U_ u seq)).keeps hk2 bI;obtain⟨rk,U⟩:=eX ((r.l.take k).foldl (GS now) r);rw [U] at ac;have a1:Hi ((r.l.take (AC k++[k]).length).foldl (GS now) r=GS now rk t):=lH (by rw [Al,AP,Bp,A0 ht,List.foldl_append,U];rfl);have HJ:=lH ac;have J:=lH bi;have ch:=lH hb;have a5:=lH (ai.o.2 t (CD ht));have T:Hi (w4.heap.size+2<=W.heap.size/\W.heap.size<W2.heap.size):=lH ⟨M,by omega⟩;have a7:=lH (CD hu);have rb:=hb.rl;have r0:=ac.b0.rl;have r1:=ac.b1.rl;clear hI ac bh hb U hgd hu ht bi hk2 M;by_cases hst:u.state≠3\/now<u.deadline\/1000000000000<=rk.seq
   ·have an:Hi (GS now rk t=rk):=lH (by unfold GS;rw [if_pos (by rw [<- J.o.state,<- J.o.deadline];exact hst)])
    have hc:(u.state != 3)=true\/((u.state != 3)=false/\decide (u.deadline>now)=true)\/((u.state != 3)=false/\decide (u.deadline>now)=false/\decide (rk.seq≥1000000000000)=true):=by
     by_cases h1:u.state=3
     ·have f1:(u.state != 3)=false:=by simpa using h1
      by_cases h2:now<u.deadline
      ·exact .inr (.inl ⟨f1,decide_eq_true h2⟩)
      ·exact .inr (.inr ⟨f1,decide_eq_false bB,decide_eq_true bB⟩)
     ·exact .inl bR
    clear hst;rcases hc with f1 | ⟨f1,f2⟩ | ⟨f1,f2,f3⟩
    all_goals
     gi_wp2_with (fail);refine⟨(fun _ h=>by cases h),?_⟩;gi_wp2_with (fail);refine FJ (S:=[]) ((Aa.refl [] W2).alloc _) (Aa.refl [] _) (by have:=T.o;omega) bA bA ⟨D,nk,?_⟩;rw [a1.o,an.o];exact(HJ.o.keeps HM4.o HPB.o ((Aa.refl [] W2).alloc _) bA).up bA
   ·have ar:u.state=3:=by omega
    have bg:¬now<u.deadline:=by omega
    have hs5:¬1000000000000<=rk.seq:=by omega
    have an:Hi (GS now rk t=⟨rk.slots,GI rk.l { t with state:=2,deadline:=0,version:=t.version+1 },rk.seq+1⟩):=lH (by unfold GS;rw [if_neg (by rw [<- J.o.state,<- J.o.deadline];exact hst)]);have f1:(u.state != 3)=false:=by simpa using ar
    have f2:decide (u.deadline>now)=false:=decide_eq_false bB;have f3:decide (rk.seq≥1000000000000)=false:=decide_eq_false bB;have HST:Hi (t.state=3):=lH (by rw [<- J.o.state];exact ar);have a3:Hi (rk.seq<1000000000000):=lH bB;clear hst ar bg hs5;obtain⟨W3,ao⟩:=eX (W2.alloc (.cells #[pE pK u.slot,pE pK u.gen,Dz u.name,pE pK u.state,pE pK u.version,pF u.ra u.rl u.rc,pF u.ca u.cl u.cc,pE pK u.deadline,pE pK seq,pE pK 0,Dz ⟨#[]⟩,pE pK 0,pE pK 0,pI false,pE pK 0,pE pK 0,pE pK 0,pE pK 0,Dz ⟨#[]⟩,pE pK 0,pE pK 0,pE pK now] 223));have hk3:Aa [] W2 W3:=by rw [<- ao];exact(Aa.refl [] W2).alloc _
    have ax:Hi (Blk W3 W2 223 (K7 u seq Yb now)):=lH (by rw [<- ao];exact Blk.new W2 _ _);have r3:=hk3.rl;have O:=lH hk3;have br:Hi (Cj W3 u t):=lH (J.o.ge (E.o.t u a7.o) (HJ.o.kw.trans (hk3.mono bA)) (by intro y hy;have:=HSZ.o;simp only [Ac,Ab,or_false] at hy;omega));have ag:=Mq W2 u t seq Yb now W3 ax.o br.o (FX.of J.o (by have:=T.o;omega));rw [if_pos (by rw [HST.o];decide)] at ag;have a4:=lH ag;clear ag;clear hk3;gi_wp2_with (fail);clear ao;refine⟨trivial,CallsIn.inRound l (callsIn_wide.2 (a4.o.mono ?_))⟩;rintro e w5 ⟨rfl,bf,hk5⟩;obtain⟨N,ap,au,hs5⟩:=bf rfl;have am:N.version=t.version:=au.version;have hw1:IntKind.i64.wrap (N.version+1)=N.version+1:=IntWalk.i64_in _ (by have:=a5.o;omega);obtain⟨wf,hwf⟩:=eX (w5.setCell (A_ W2 4) (pE pK (N.version+1)));have hkf:Aa [W2.heap.size] w5 wf:=by rw [<- hwf];exact Ae _ _ _ _
    have ak:Aa [W2.heap.size] W3 wf:=hk5.trans hkf;have ae:Aa [] W2 wf:=O.o.own ak bA;have HBF:Hi (Blk wf W2 223 (K7 { N with version:=N.version+1 } seq Yb now)):=lH (by rw [<- hwf];exact ap.set_ 4 _);have bs:Hi (Cj wf { N with version:=N.version+1 } { t with state:=2,deadline:=0,version:=t.version+1 }):=lH (by
     have h:=J.o.src au hs5 hkf (by intro y hy;have h1:=T.o;have h2:=ax.o.lt;simp only [Ac,Ab,or_false] at hy;omega);exact { h with version:=by dsimp only;rw [am] })
    have HSF:Hi (EY W3 u { N with version:=N.version+1 }):=lH hs5;have G:=lH (HJ.o.keeps HM4.o HPB.o ae bA);have ah:=lH ae;have x5:=ap.rl;simp only [K7] at x5;clear bf hk5 ap au hs5 am hkf ak ae rb r0 r1 r3;simp only [FY,if_true];gi_wp2_with (fail);clear hwf x5;have b4:D.lv.length=nk:=by rw [AX.len G.o.m.t,G.o.len]
    have be:nk<=ln+k/\ln<=64/\k<64:=by have h1:=G.o.sz;have h2:=(Sy aa.o).1;have h3:=HLN.o;omega
    have co:IntKind.i64.wrap (rk.seq+1)=rk.seq+1:=IntWalk.i64_in _ (by have h1:=a3.o;have h2:=G.o.sq;omega);have e1:¬W2.heap.size=w.heap.size:=by have h1:=T.o;have h2:=HPB.o;omega
    have z0:=G.o.b0.rl;have zc:=HBF.o.rl;simp only [K7] at zc;have a0:=lH be;clear be;refine BA (S:=(Aa [w.heap.size] wf)) bC bC (fun _ _ h=>h) fA (fun hHeld=>?_);refine rK 1 ?_;refine rK 2 ?_;refine rK 3 ?_;refine rK 4 ?_;refine rK 5 ?_;refine rC 0 fun K hK=>?_;go_simp
    (try clear rH);refine rP hK fA fun rH hHeld=>?_;clear hK K
    refine rC 6 fun K hK=>?_;go_simp
    (refine(Q6 D gn un fn nk b4 (by have:=a0.o;omega) rk.seq { N with version:=N.version+1 } _ (G.o.m.l.keeps ((Aa.refl [] wf).drew))).mono ?_;rintro e w6 ⟨a6,c6,rfl,bz,bw,hk6⟩;have hkw6:Aa [w.heap.size] wf w6:=hHeld.trans (hk6.mono bA);have af:Aa [] wf w6:=((Aa.refl [] wf).drew).trans hk6;clear z0;have z0:=(G.o.b0.keeps af bA).rl)
    (try clear rH);refine rP hK fA fun rH hHeld=>?_;clear hK K
    refine rC 7 fun K hK=>?_;go_simp
    (try clear rH);refine rP hK fA fun rH hHeld=>?_;clear hK K
    refine wpAnyH_done bC ?_ _
    (gi_wp2_with (fail);refine FJ (S:=[w.heap.size]) (ah.o.trans af) bJ (by have:=T.o;omega) lJ lJ ⟨⟨D.s,a6,c6,DC D.lv { N with version:=N.version+1 }⟩,(DC D.lv { N with version:=N.version+1 }).length,?_⟩;rw [a1.o,an.o];exact(G.o.next (E.o.mono bP) HPB.o a7.o bs.o HSF.o (by have h1:=T.o;have h2:=O.o.size;omega) (by have h1:=T.o;have h2:=ah.o.size;omega) af bz bw (by have:=a0.o;omega) (by have:=a5.o;dsimp only;omega)).up bA)
  case done=>
   rintro W ⟨D,nk,hI⟩ M hK;rw [AP,Ak lM] at hI;obtain⟨rk,U⟩:=eX (r.l.foldl (GS now) r);rw [U] at hI;have bq:Hi (rk=R):=lH (by rw [<- bp.o,U]);have z0:=hI.b0.rl;have z2:=hI.b2.rl;have HJ:=lH hI;have HK:=lH hK;have HWS:Hi (w4.heap.size+2<=W.heap.size):=lH M;clear hI U hK;gi_wp2_with (fail);have bb:=G6 W (w+1+1) (pF D.s.ga gn D.s.gc) (pF D.s.ua un D.s.uc) (pF D.s.fa fn D.s.fc) (pF D.la nk D.lc) (pE pK rk.seq);have bv:=(HJ.o.b2.put5 (pF D.s.ga gn D.s.gc) (pF D.s.ua un D.s.uc) (pF D.s.fa fn D.s.fc) (pF D.la nk D.lc) (pE pK rk.seq)).keeps (AG (S:=[w4.heap.size]) (l:=w4.heap.size) _ (.deferred none) bA) lJ;have zF:=bv.cell;refine⟨by simp,.inl ⟨_,_,rfl,run_takeDeferred ((bb.block _ aY lJ).trans HK.o),?_⟩⟩;refine⟨pH (R_ D gn un fn nk rk.seq),by simp [results,results66,go_sem,zF],?_⟩;rw [<- bq.o];have hkT:=(bb.mono (S':=[w.heap.size+1+1,w4.heap.size]) bA).trans (AG (S:=[w.heap.size+1+1,w4.heap.size]) (l:=w4.heap.size) _ (.deferred none) bA);have hS:∀y∈[w.heap.size+1+1,w4.heap.size],w.heap.size<=y/\y<w4.heap.size+2:=fun y hy=>by have:=HPB.o;simp only [Ac,Ab,or_false] at hy;omega
   have bx:CL (·∈[w.heap.size+1+1,w4.heap.size]) B r:=(HM4.o.later (Q:=(w4.heap.size<=·)) (fun _ h=>h)).and2 (E.o.no (Q:=(· < wz.heap.size)) (fun _ h=>h)) (fun y hy=>by have:=HSZ.o;simp only [Ac,Ab,or_false] at hy;omega);exact⟨D,gn,un,fn,nk,_,rfl,rfl,by rw [HJ.o.slots];exact HG.o,by rw [HJ.o.slots];exact HU.o,by rw [HJ.o.slots];exact HF.o,HJ.o.len,HJ.o.m.stay (HJ.o.go_ _ (fun y hy=>(hS y hy).2) bx) hkT (fun y hy=>hy),HJ.o.go_ _ (fun y hy=>by have:=HPB.o;omega) (E.o.no (fun y hy=>by have:=HSZ.o;omega)),(az.o.own HJ.o.kw bF).own hkT (fun y hy=>(hS y hy).1)⟩
  case stop=>
   rintro X W al hX M hK;exact hX.elim
theorem Wl(j:Bq)(b:Bool)(hb:Gn j=b)(w:World):Calls prog 35 #[pH #[pE pK j.conn,I_ j.phase,Dz j.line,Dz j.req.who,I_ j.req.id,I_ j.req.com.verb,Dz j.req.com.name,I_ j.req.com.want,I_ j.req.com.at_,pI j.req.com.rule.allow,I_ j.req.com.rule.addr,I_ j.req.com.rule.bits,I_ j.req.com.rule.from_,I_ j.req.com.rule.to_,Dz j.req.com.key,I_ j.req.com.n,I_ j.req.com.m,I_ j.req.count,I_ j.req.cursor,I_ j.req.from_,I_ j.role,Dz j.reply,I_ j.slot,I_ j.gen]] w fun e w'=>e = pJ (pI b)/\Aa [] w w':=by
 obtain⟨B,h1⟩:=eX (decide (j.conn≥0));obtain⟨a2,h2⟩:=eX (decide (j.conn<4));obtain⟨D,h3⟩:=eX (decide (j.phase≥1));obtain⟨E,h4⟩:=eX (decide (j.phase<=5));obtain⟨F,J⟩:=eX (decide (j.req.id≥0));obtain⟨G,M⟩:=eX (decide (j.req.id<=1000000));have HB:Hi ((B&&a2&&D&&E&&F&&G)=b):=lH (by rw [<- hb,<- h1,<- h2,<- h3,<- h4,<- J,<- M];rfl);have HK:Hi (∀o,Aa [] w (w.alloc o)):=lH fun o=>(Aa.refl [] w).alloc o;clear hb;have hb:=HB.o;go_enter func35,ntmps35;cases B<;>cases a2<;>cases D<;>cases E<;>cases F<;>(simp only [DJ,Ep,Bool.and_true,Bool.and_false] at hb;subst hb;go_wp2;go_ret;exact⟨rfl,HK.o _⟩)
theorem Ur(k:Int)(b:Bool)(hb:Lh k=b)(w:World):Calls prog 128 #[pE pK k] w fun e w'=>e = pJ (pI b)/\w=w':=by
 obtain⟨B,h1⟩:=eX ((k==2));obtain⟨a2,h2⟩:=eX ((k==5));obtain⟨D,h3⟩:=eX ((k==8));have hb:(B||a2||D)=b:=by rw [<- hb,<- h1,<- h2,<- h3];rfl
 go_enter func128,ntmps128;cases B<;>cases a2<;>(simp only [Bool.true_or,Bool.false_or] at hb;subst hb;go_wp2;go_ret;exact⟨rfl,rfl⟩)
def Kj(j:Bq)(x0 x1 x2 x3 x4 x5 x6 x7 x8 x9:Value)(now left:Int)(e:GJ):Array Value:=#[pE pK j.conn,pE pK j.phase,Dz j.line,Dz j.req.who,pE pK j.req.id,pE pK j.req.com.verb,Dz j.req.com.name,pE pK j.req.com.want,pE pK j.req.com.at_,pI j.req.com.rule.allow,pE pK j.req.com.rule.addr,pE pK j.req.com.rule.bits,pE pK j.req.com.rule.from_,pE pK j.req.com.rule.to_,Dz j.req.com.key,pE pK j.req.com.n,pE pK j.req.com.m,pE pK j.req.count,pE pK j.req.cursor,pE pK j.req.from_,pE pK j.role,Dz j.reply,pE pK j.slot,pE pK j.gen,x0,x1,x2,x3,x4,x5,x6,x7,x8,x9,pE pK now,pE pK left,pE pK e.kind,pE pK e.slot,pE pK e.gen,Dz e.text]
theorem GL(sb:Nat)(j:Bq)(B D E F G J M N O T:Value)(now left:Int)(e:GJ)(t:ByteArray)(w:World)(h:Blk w sb 101 (Kj j B D E F G J M N O T now left e)):
  Calls prog 125 #[pG (some (A_ sb 0)),Dz t] w fun r w'=>r = pJ (.tuple #[])/\Blk w' sb 101 (Kj (j.answers t) B D E F G J M N O T now left e)/\Aa [sb] w w':=by
 have q:=h.rl;simp only [Kj] at q;have HB:Hi (Blk ((w.setCell (A_ sb 21) (Dz t)).setCell (A_ sb 1) (I_ 5)) sb 101 (Kj (j.answers t) B D E F G J M N O T now left e)):=lH ((h.set_ 21 _).set_ 1 _);have HK:=lH ((Ae w sb 21 (Dz t)).trans (Ae _ sb 1 (I_ 5)));clear h;go_enter func125,ntmps125;go_wp2
 go_end0
 exact⟨rfl,HB.o,HK.o⟩
end
end Go.Proofs.YtjieiikpolahfaaGreatDoor
