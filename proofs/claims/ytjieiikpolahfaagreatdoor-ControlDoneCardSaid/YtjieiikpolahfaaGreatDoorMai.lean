/- Steps. -/
import Derived.Test.YtjieiikpolahfaaGreatDoorMae
import Derived.Test.YtjieiikpolahfaaGreatDoorMag
set_option maxRecDepth 100000
set_option maxHeartbeats 8000000
set_option linter.all false
namespace Go.Proofs.YtjieiikpolahfaaGreatDoor
open Tryz
open _root_.Go renaming undef→UD
open _root_.Array renaming getElem?_setIfInBounds→Bj,length_toList→BX,replicate_succ→Bt,replicate_zero→Bu
open Ending renaming returned→pJ
open IntKind renaming i64→pK
open _root_.List renaming append_toArray→BD,cons_append→AL,getElem?_cons_succ→Ao,getElem?_cons_zero→Aj,getElem?_toArray→An,length_cons→Av,length_nil→D4,map_cons→CR,mem_append→AQ,mem_cons→Ac,nil_append→BH,not_mem_nil→Ab,push_toArray→Cd,size_toArray→Cz
open _root_.Nat renaming le_trans→A8,lt_of_lt_of_le→BS,reduceAdd→pL,reduceSub→pM
open Oper renaming semAt_some→pN
open Value renaming agg→pH,bool→pI,int→pE,pointer→pG,slice→pF,string→Dz
open World renaming ownsRow_nil→BQ,size_alloc→Eo
section
open Go.RowKit Go.Shelf
attribute [local go_sem] pN
attribute [local go_sem ↓] wp_at_zero wp_at_succ
def JP:List (UInt8×Bool)->Cm->Except Int Cm
 | [],r=>.ok r
 | x::l,r=>(r.step x.1 x.2).bind (JP l)
theorem NN(a b:List (UInt8×Bool))(r:Cm):JP (a++b) r=(JP a r).bind (JP b):=by
 induction a generalizing r with
 | nil=>rfl
 | cons x l ih=>
  simp only [AL,JP];cases r.step x.1 x.2 with
  | error e=>rfl
  | ok y=>exact ih y
theorem WT{l:List (UInt8×Bool)}{x:UInt8×Bool}{r B:Cm}(h:JP l r = .ok B):JP (l++[x]) r=B.step x.1 x.2:=by
 rw [NN,h];show(B.step x.1 x.2).bind _=_;cases B.step x.1 x.2<;>rfl
theorem ZC{l m:List (UInt8×Bool)}{r:Cm}{k:Int}(h:JP l r = .error k)(hp:l <+: m):JP m r = .error k:=by
 obtain⟨t,rfl⟩:=hp;rw [NN,h];rfl
theorem NO:∀(l:List UInt8) (r:Cm),JP (l.map fun b=>(b,false)) r=Ek l r
 | [],_=>rfl
 | b::l,r=>by
  simp only [CR,JP,Ek];cases r.step b false with
  | error e=>rfl
  | ok y=>exact NO l y
theorem Xa{s:ByteArray}(h1:¬300<s.data.toList.length)(h2:s.data.toList.all Cw=true):Ce s.data.toList=(JP (PD s) .zero).bind fun r=>.ok r.done:=by
 unfold Ce PD;rw [if_neg h1,if_neg (by rw [h2];decide),NN,NO];cases Ek s.data.toList .zero with
 | error e=>rfl
 | ok r=>
  show(r.step 0 true).bind _=(JP [((0:UInt8),true)] r).bind _;unfold JP;cases r.step 0 true<;>rfl
theorem eM{R R':Cm}{b:UInt8}{e:Bool}(h:RF R)(he:R.step b e = .ok R'):RF R':=by
 have D:∀ {G:WS} {R':Cm},R.add G b = .ok R'->R.done.length<12->RF R':=fun {G R'} h1 B=>by
  unfold Cm.add at h1;split at h1
  ·cases h1
  ·cases h1
   exact⟨h.done,by simp;omega,fun _ _=>B⟩
 have F:∀G,G=WS.bet\/G=WS.shut->R.done.length<12->RF (R.shutW G):=fun G hst B=>⟨by simp [Cm.shutW];omega,by simp [Cm.shutW],fun h1 h2=>by
  rcases hst with rfl | rfl
  ·exact absurd rfl h1
  ·exact absurd rfl h2⟩
 have E:∀ {e:Bool} {R':Cm},R.bareS b e = .ok R'->R.done.length<12->RF R':=fun {e R'} h1 B=>by
  unfold Cm.bareS at h1;split at h1
  ·cases h1;exact F _ (.inl rfl) B
  ·split at h1
   ·cases h1
   ·split at h1
    ·cases h1
    ·exact D h1 B
 unfold Cm.step at he;cases hs:R.st with
 | bet=>
  rw [hs] at he;dsimp only at he;split at he
  ·cases he;exact h
  ·split at he
   ·cases he
   ·rename_i h12
    have B:R.done.length<12:=by have:=h.done;omega
    split at he
    ·cases he
     exact⟨h.done,h.word,fun _ _=>B⟩
    ·exact E he B
 | bare=>
  rw [hs] at he;exact E he (h.room bV bV)
 | quo=>
  rw [hs] at he;have B:=h.room bV bV;dsimp only at he;split at he
  ·cases he
  ·split at he
   ·cases he;exact F _ (.inr rfl) B
   ·split at he
    ·cases he
     exact⟨h.done,h.word,fun _ _=>B⟩
    ·exact D he B
 | shut=>
  rw [hs] at he;dsimp only at he;split at he
  ·cases he
  ·cases he
   exact⟨h.done,h.word,fun e=>absurd rfl e⟩
 | esc=>
  rw [hs] at he;have B:=h.room bV bV;dsimp only at he;split at he
  ·cases he
  ·exact D he B
theorem eB:RF .zero:=⟨by decide,by decide,fun h=>absurd rfl h⟩
theorem RE:∀(l:List (List UInt8)),(l.map fun s=>Dz (Dk s))=(l.map Dk).flatMap Fd
 | []=>rfl
 | x::l=>by rw [CR,CR,List.flatMap_cons,<- RE l];rfl
def Ly(s:ByteArray)(w:World)(x:Ending)(w':World):Prop:=match Ce s.data.toList with
 | .error k=>x = pJ (.tuple #[pF none 0 0,FZ (some k)])/\Aa [] w w'
 | .ok l=>∃a c,x = pJ (.tuple #[pF a l.length c,.nilIface])/\Kv w' a c (l.map Dk)/\Aa [] w w'
structure fN(w:World)(r base:Nat)(dv wv:Value)(R:Cm):Prop where
 blk:Blk w r 178 #[dv,wv]
 d:w.ownsRow base 9 1 dv R.done.length (R.done.map fun s=>Dz (Dk s))
 wd:w.ownsRow base 5 1 wv R.word.length (R.word.map fun b=>.int .u8 (b.toNat:Int))
 lt:r<base
 ne:∀g,dv.ownBlock=some g→wv.ownBlock≠some g
 hd:R.done.length≤12
 hw:R.word.length≤65
theorem EE.toB{w:World}{r base:Nat}{dv wv:Value}{R:Cm}(h:EE w r base dv wv R):fN w r base dv wv R:=⟨h.blk,h.d,h.wd,h.lt,h.ne,h.hd,h.hw⟩
theorem fN.toA{w:World}{r base:Nat}{dv wv:Value}{R:Cm}(h:fN w r base dv wv R)(hl:base<=w.heap.size):EE w r base dv wv R:=⟨h.blk,h.d,h.wd,h.lt,hl,h.ne,h.hd,h.hw⟩
theorem fN.keeps{w w':World}{S:List Nat}{r base:Nat}{dv wv:Value}{R:Cm}(h:fN w r base dv wv R)(hk:Aa S w w')(hr:r∉S)(hS:∀y∈S,y<base):fN w' r base dv wv R:=
 ⟨h.blk.keeps hk hr,Ah h.d hk (fun g hg hm=>by have:=(h.d.lt g hg).1;have:=hS g hm;omega),Ah h.wd hk (fun g hg hm=>by have:=(h.wd.lt g hg).1;have:=hS g hm;omega),h.lt,h.ne,h.hd,h.hw⟩
theorem EE.S_ge{w:World}{r base:Nat}{dv wv:Value}{R:Cm}(h:EE w r base dv wv R):∀y∈EE.S r dv wv,y=r\/base<=y:=fun y hy=>by
 simp only [EE.S,Ac,AQ,Option.mem_toList] at hy;rcases hy with rfl | hy | hy
 ·exact .inl rfl
 ·exact .inr (h.d.lt y hy).1
 ·exact .inr (h.wd.lt y hy).1
theorem iS.keeps{w w':World}{S:List Nat}{r sb base:Nat}{st:WS}(h:iS w r sb base st)(hk:Aa S w w')(hS:∀y∈S,y<base):iS w' r sb base st:=by
 cases st with
 | bet=>trivial
 | bare=>trivial
 | quo=>trivial
 | shut=>exact⟨h.1.keeps hk (fun hm=>by have:=hS _ hm;have:=h.2;omega),h.2⟩
 | esc=>exact⟨h.1.keeps hk (fun hm=>by have:=hS _ hm;have:=h.2;omega),h.2⟩
structure fQ(s:ByteArray)(w:World)(pb:Nat)(pre:List (UInt8×Bool))(A:World):Prop where
 run:∃R dv wv sb,JP pre .zero = .ok R∧RF R∧fN A (w.heap.size+1+1) (pb+3) dv wv R∧iS A (w.heap.size+1+1) sb (pb+3) R.st∧Blk A (w.heap.size+1+1+1) 180 #[eJ (w.heap.size+1+1) sb R.st]
 c2:Blk A w.heap.size 64 #[pF none 0 0]
 c3:Blk A (w.heap.size+1) 95 #[.nilIface]
 pb:Blk A pb 9 #[Dz s]
 kw:Aa [] w A
structure iR(s:ByteArray)(w:World)(A:World):Prop where
 run:∃k,Ce s.data.toList = .error k∧Blk A (w.heap.size+1) 95 #[FZ (some k)]
 c2:Blk A w.heap.size 64 #[pF none 0 0]
 kw:Aa [] w A
theorem fQ.keeps{s:ByteArray}{w:World}{pb:Nat}{B:List (UInt8×Bool)}{A D:World}(h:fQ s w pb B A)(hp:w.heap.size+4<=pb)(hk:Aa [pb+1,pb+1+1] A D):fQ s w pb B D:=by
 obtain⟨R,E,G,sb,h1,h2,h3,h4,F⟩:=h.run;have hS:∀y∈[pb+1,pb+1+1],y<pb+3:=fun y hy=>by simp only [Ac,Ab,or_false] at hy;omega
 have hn:∀y,y<pb+1->y∉[pb+1,pb+1+1]:=fun y hy hm=>by simp only [Ac,Ab,or_false] at hm;omega
 exact⟨⟨R,E,G,sb,h1,h2,h3.keeps hk (hn _ bB) hS,h4.keeps hk hS,F.keeps hk (hn _ bB)⟩,h.c2.keeps hk (hn _ bB),h.c3.keeps hk (hn _ bB),h.pb.keeps hk (hn _ bB),h.kw.own hk (fun g hg=>by simp only [Ac,Ab,or_false] at hg;omega)⟩
theorem iR.keeps{s:ByteArray}{w:World}{pb:Nat}{A B:World}(h:iR s w A)(hp:w.heap.size+4<=pb)(hk:Aa [pb+1,pb+1+1] A B):iR s w B:=by
 obtain⟨k,h1,h2⟩:=h.run;have hn:∀y,y<pb+1->y∉[pb+1,pb+1+1]:=fun y hy hm=>by simp only [Ac,Ab,or_false] at hm;omega
 exact⟨⟨k,h1,h2.keeps hk (hn _ bB)⟩,h.c2.keeps hk (hn _ bB),h.kw.own hk (fun g hg=>by simp only [Ac,Ab,or_false] at hg;omega)⟩
theorem WZ(s:ByteArray)(hs:s.size<=1000000)(w:World):Calls prog 39 #[Dz s] w (Ly s w):=by
 refine(callsIn_wide (n:=9)).1 ?_;obtain⟨b1,hb1⟩:=eX (decide ((300:Int)<(s.size:Int)));obtain⟨b2,hb2⟩:=eX (Hc s);have HB1:=lH hb1;have HB2:=lH hb2;clear hb2;obtain⟨RR,au⟩:=eX (CU [(b1,10),(!b2,11)]);have ab:=lH au;clear au;refine callsIn_of_wp_marks func39 rfl trivial ?_ rfl;simp only [ntmps39,Cz,Av,D4,pL,pM,Bt,Bu,Cd,BD,BH,AL];gi_wp2_with (fail);refine⟨trivial,(callsIn_wide.2 (Jl s b2 HB2.o _)).mono ?_⟩;rintro e w1 ⟨rfl,hk⟩;have HK1:=lH hk;clear hk;gi_wp2_with (fail);refine⟨trivial,(callsIn_wide.2 (CY (some (A_ w1 0)) 2 [(b1,10),(!b2,11)] 2 rfl bB RR ab.o _ (NM w1 b1 (!b2) 10 11))).mono ?_⟩;rintro e w2 ⟨rfl,hk⟩;have J:=HK1.o.trans (((Aa.refl [] w1).alloc _).trans hk);have c2:=(((Blk.new w 64 #[pF none 0 0]).alloc (.cells #[.nilIface] 95)).alloc (.cells #[pF none 0 0,pF none 0 0] 178)).alloc (.cells #[.func (.func 89) #[pG (some (A2 w 0))] #[]] 180) |>.keeps J bA
 have c3:=((Ar (w.alloc (.cells #[pF none 0 0] 64)) 95 #[.nilIface] (w+1) bA).alloc (.cells #[pF none 0 0,pF none 0 0] 178)).alloc (.cells #[.func (.func 89) #[pG (some (A2 w 0))] #[]] 180) |>.keeps J bA
 have cr:=(Ar ((w.alloc (.cells #[pF none 0 0] 64)).alloc (.cells #[.nilIface] 95)) 178 #[pF none 0 0,pF none 0 0] (w+1+1) bA).alloc (.cells #[.func (.func 89) #[pG (some (A2 w 0))] #[]] 180) |>.keeps J bA
 have cf:=(Ar (((w.alloc (.cells #[pF none 0 0] 64)).alloc (.cells #[.nilIface] 95)).alloc (.cells #[pF none 0 0,pF none 0 0] 178)) 180 #[.func (.func 89) #[pG (some (A2 w 0))] #[]] (w+1+1+1) bA).keeps J bA;have hkw:Aa [] w w2:=((((Aa.refl [] w).alloc _).alloc _).alloc _).alloc _ |>.trans J
 clear hk J;cases RR with
 | some k=>
  have T:Ce s.data.toList = .error k:=by
   have h1:=ab.o;have hl:s.data.toList.length=s.size:=by rw [BX];rfl
   unfold Ce;unfold CU at h1;split at h1
   ·rename_i hc
    injection h1 with h1
    rw [if_pos (by rw [hl];have:b1=true:=hc;rw [<- HB1.o] at this;have:=of_decide_eq_true this;omega),<- h1]
   ·rename_i hc
    rw [if_neg (by rw [hl];have:¬b1=true:=hc;rw [<- HB1.o,decide_eq_true_eq] at this;omega)];unfold CU at h1;split at h1
    ·rename_i hc2
     injection h1 with h1
     rw [if_pos (by have:(!b2)=true:=hc2;rw [<- HB2.o] at this;rw [Bool.not_eq_true'] at this;exact this),<- h1]
    ·cases h1
  have q0:=c2.cell 0;have q1:=c3.cell 0;have f0:=c2.frozen 0;have f1:=c3.frozen 0;have a6:=lH c2;have a7:=lH c3;have HKW:=lH hkw;have HSP:=lH T;clear c2 c3 cr cf hkw T;simp only [FZ];gi_wp2;have hk2:Aa [w.heap.size,w.heap.size+1] w2 ((w2.setCell (A_ w 0) (pF none 0 0)).setCell (A1 w 0) (.iface 190 (pH #[pE pK k]))):=((Aa.refl _ w2).setCell (p:=A_ w 0) (.inl bA) _).setCell (p:=A1 w 0) (.inl bA) _;have d2:=((a6.o.set_ 0 (pF none 0 0)).far (p:=A1 w 0) bA (.iface 190 (pH #[pE pK k]))).cell 0;have d3:=((a7.o.far (p:=A_ w 0) bA (pF none 0 0)).set_ 0 (.iface 190 (pH #[pE pK k]))).cell 0;simp at d2 d3;have G:Ly s w (pJ (.tuple #[pF none 0 0,.iface 190 (pH #[pE pK k])])) ((w2.setCell (A_ w 0) (pF none 0 0)).setCell (A1 w 0) (.iface 190 (pH #[pE pK k]))):=by
   unfold Ly;rw [HSP.o];exact⟨rfl,HKW.o.own hk2 (fun g hg=>by simp only [Ac,Ab,or_false] at hg;omega)⟩
  exact⟨.tuple #[pF none 0 0,.iface 190 (pH #[pE pK k])],by simp [results,results39,go_sem,d2,d3],G⟩
 | none=>
  have hb:b1=false/\b2=true:=by
   have h1:=ab.o;unfold CU at h1;split at h1
   ·cases h1
   ·rename_i hc
    unfold CU at h1;split at h1
    ·cases h1
    ·rename_i hc2
     exact⟨by simpa using hc,by simpa using hc2⟩
  obtain⟨rfl,rfl⟩:=hb;have hl:s.data.toList.length=s.size:=by rw [BX];rfl
  have aa:Ce s.data.toList=(JP (PD s) .zero).bind fun r=>.ok r.done:=Xa (by rw [hl];have:=of_decide_eq_false HB1.o;omega) HB2.o;have Y:=lH aa;have ae:w.heap.size+4<=w2.heap.size:=by have:=cf.lt;omega
  have ar:fQ s w w2 [] (w2.alloc (.cells #[Dz s] 9)):=by
   have ha:=(Aa.refl [] w2).alloc (.cells #[Dz s] 9);refine⟨⟨.zero,pF none 0 0,pF none 0 0,0,rfl,eB,⟨cr.keeps ha bA,BQ _ _ _ _,BQ _ _ _ _,by omega,(fun g hg=>by cases hg),by decide,by decide⟩,trivial,cf.keeps ha bA⟩,c2.keeps ha bA,c3.keeps ha bA,Blk.new w2 _ _,hkw.trans ha⟩
  have ba:=lH ar;clear c2 c3 cr cf hkw hl aa ar;simp only [FZ];gi_wp2_with (fail);refine⟨trivial,(callsIn_wide.2 (VG s _)).mono ?_⟩;rintro e w3 ⟨rfl,rfl⟩;gi_wp2_with (fail);have E:(w2.alloc (.cells #[Dz s] 9)).heap.size=w2.heap.size+1:=Eo _ _;refine Cc rfl bB (gf:=144) (lb:=#[pG (some (A_ w2 0))]) rfl trivial (enters_of func144 bC rfl) (VH 8 w2 s hs) (fun _=>rfl)
   (fun B A=>fQ s w w2 B A) (fun _ A=>iR s w A) (fun B A A' h hk=>h.keeps ae (by rw [E] at hk;exact hk)) (fun B A A' h hk=>h.keeps ae (by rw [E] at hk;exact hk)) (fun B A h=>by simpa using h.pb.cell 0) ba.o
   (fun x W=>({ tmps:=#[Dz s,UD,pG (some (A_ w 0)),pG (some (A1 w 0)),pG (some (A2 w 0)),pG (some (A3 w 0)),.nilIface,.int .u8 (x.1.toNat:Int),pI x.2,UD,
     UD,pH #[pF none 0 0,pF none 0 0],pG (some (A2 w 0)),pG (some (A2 w 0)),.func (.func 89) #[pG (some (A2 w 0))] #[],Dz s,pE pK s.size,pI false,pH #[pI false,pE pK 10],Dz s,pI true,pI false,pH #[pI false,pE pK 11],
     pF (some (A_ w1 0)) 2 2,.nilIface,.nilIface,pI false,UD,Dz s,.func (.func 144) #[] #[pG (some (A_ w2 0))],.int .u8 (x.1.toNat:Int),pI x.2,UD,UD,UD,UD,UD,UD,UD,UD,UD,UD,UD,UD,UD,UD,UD,UD],defers:=[] },W))
   (fun x W=>Aa.refl [] W) ?assign ?body ?done ?stop
  case assign=>
   intro l x W K hK;unfold RT;gi_wp2;exact hK
  case body=>
   rintro l B ⟨b,e⟩ W W2 hI M hsz hk2;rw [E] at hk2 hsz ⊢;have ad:=hI.keeps ae hk2;obtain⟨R,dv,wv,sb,ax,af,ay,az,ag⟩:=ad.run;have a0:w2.heap.size+3<=W2.heap.size:=by have:=hk2.size;dsimp only at this;omega
   have hA:=ay.toA a0;have hcall:=iN (w+1+1) (w2.heap.size+3) sb dv wv R b e af W2 hA az;have hsn:=WT (x:=(b,e)) ax;obtain⟨a1,N⟩:=eX (R.step b e);dsimp only at hsn;rw [N] at hcall hsn;have q5:=ag.ce 0;have aw:=hA.S_ge;have HCALL:=lH hcall;have an:=lH hsn;have bd:=lH af;have am:=lH N;have F:=lH ad;have HA:=lH hA;have bb:=lH ag;have al:=lH M;have ak:=lH aw;clear hI M hk2 ad ax af ay az ag hA hcall hsn N aw;have G:∀(x:Ending) (w':World),IG (w+1+1) (w2.heap.size+3) (EE.S (w+1+1) dv wv) W2 a1 x w'->
     (∃k v,x = pJ (.tuple #[v,.iface 190 (pH #[pE pK k])])/\Hi (w'.cell? (A_ w 0)=some (pF none 0 0)/\w'.cell? (A1 w 0)=some .nilIface/\w'.frozen? (A_ w 0)=false/\w'.frozen? (A1 w 0)=false)/\
      Hi (Jw (w2+1) (fun B A=>fQ s w w2 B A) (fun _ A=>iR s w A) (B++[(b,e)]) W2 .ret { tmps:=#[],defers:=[] } ((w'.setCell (A_ w 0) (pF none 0 0)).setCell (A1 w 0) (.iface 190 (pH #[pE pK k])))))\/
     (∃f bs ls,x = pJ (.tuple #[.func f bs ls,.nilIface])/\Hi ((∃u,w'.cell? (A3 w 0)=some u)/\w'.frozen? (A3 w 0)=false)/\
      Hi (Jw (w2+1) (fun B A=>fQ s w w2 B A) (fun _ A=>iR s w A) (B++[(b,e)]) W2 .normal { tmps:=#[],defers:=[] } (w'.setCell (A3 w 0) (.func f bs ls)))):=by
    intro x w' hx;have D:∀y,y<w2.heap.size+3->y≠w.heap.size+1+1->y∉EE.S (w+1+1) dv wv:=fun y h1 h2 hm=>by
     rcases ak.o y hm with h3 | h3
     ·exact h2 h3
     ·omega
    have hSw:∀y∈EE.S (w+1+1) dv wv,w.heap.size<=y:=fun y hm=>by rcases ak.o y hm with h3 | h3<;>omega
    cases a1 with
    | error k=>
     left;obtain⟨⟨v,rfl⟩,hk⟩:=hx;have g2:=F.o.c2.keeps hk (D _ bB bB);have g3:=F.o.c3.keeps hk (D _ bB bB);have hk3:Aa [w.heap.size,w.heap.size+1] w' ((w'.setCell (A_ w 0) (pF none 0 0)).setCell (A1 w 0) (.iface 190 (pH #[pE pK k]))):=((Aa.refl _ w').setCell (p:=A_ w 0) (.inl bA) _).setCell (p:=A1 w 0) (.inl bA) _;refine⟨k,v,rfl,⟨by simpa using g2.cell 0,by simpa using g3.cell 0,g2.frozen 0,g3.frozen 0⟩,?_⟩;refine⟨A8 hk.size hk3.size,fun y hy=>?_,⟨k,?_,?_⟩,?_,?_⟩
     ·simp only [Ac,Ab,or_false] at hy
      rw [hk3.block y (by have:=hk.size;omega) bI,hk.block y bB (D y bB bB)]
     ·rw [Y.o,ZC an.o al.o];rfl
     ·have:=(g3.far (p:=A_ w 0) bA (pF none 0 0)).set_ 0 (.iface 190 (pH #[pE pK k]));exact this
     ·have:=(g2.set_ 0 (pF none 0 0)).far (p:=A1 w 0) bA (.iface 190 (pH #[pE pK k]));exact this
     ·exact(F.o.kw.own hk hSw).own hk3 (fun g hg=>by simp only [Ac,Ab,or_false] at hg;omega)
    | ok R'=>
     right;obtain⟨bf,bo,X,rfl,h1,h2,hk⟩:=hx;have g2:=F.o.c2.keeps hk (D _ bB bB);have g3:=F.o.c3.keeps hk (D _ bB bB);have g4:=bb.o.keeps hk (D _ bB bB);have g5:=F.o.pb.keeps hk (D _ bB bB);have hk3:Aa [w.heap.size+1+1+1] w' (w'.setCell (A3 w 0) (eJ (w+1+1) X R'.st)):=(Aa.refl _ w').setCell (p:=A3 w 0) (.inl bA) _;have bh:=g4.set_ 0 (eJ (w+1+1) X R'.st);obtain⟨f,bs,ls,hv⟩:∃f bs ls,eJ (w+1+1) X R'.st = .func f bs ls:=by cases R'.st<;>exact⟨_,_,_,rfl⟩
     refine⟨f,bs,ls,by rw [hv],⟨⟨_,by simpa using g4.cell 0⟩,g4.frozen 0⟩,?_⟩;rw [<- hv];refine⟨A8 hk.size hk3.size,fun y hy=>?_,⟨R',bf,bo,X,an.o,eM bd.o am.o,?_,?_,?_⟩,?_,?_,?_,?_⟩
     ·simp only [Ac,Ab,or_false] at hy
      rw [hk3.block y (by have:=hk.size;omega) bI,hk.block y bB (D y bB bB)]
     ·exact h1.toB.keeps hk3 bA bF
     ·exact h2.keeps hk3 bF
     ·exact bh
     ·exact g2.far bH _
     ·exact g3.far bH _
     ·exact g5.far bH _
     ·exact(F.o.kw.own hk hSw).own hk3 (fun g hg=>by simp only [Ac,Ab,or_false] at hg;omega)
   have HFIN:=lH G;clear G;generalize hst:R.st=st at HCALL q5;clear hst;cases st;all_goals
    have hcall:=HCALL.o;simp only [oZ,oY] at hcall;simp only [eJ] at q5;replace HCALL:=lH hcall;clear hcall;gi_wp2_with (fail);refine⟨trivial,(callsIn_wide.2 HCALL.o).mono ?_⟩;intro x w' hx;rcases HFIN.o x w' hx with⟨k,v,rfl,hq,hF⟩ | ⟨f,bs,ls,rfl,hq,hF⟩
    ·obtain⟨d0,d1,d2,d3⟩:=hq.out
     have HF:=lH hF.out;clear hx hq hF;gi_wp2;exact HF.o
    ·obtain⟨⟨u,d0⟩,d1⟩:=hq.out
     have HF:=lH hF.out;clear hx hq hF;gi_wp2;exact HF.o
  case done=>
   rintro W hI hsz hK;rw [E] at hsz hK ⊢;obtain⟨R,dv,wv,sb,h1,h2,h3,h4,h5⟩:=hI.run;have T:Ce s.data.toList = .ok R.done:=by rw [Y.o,h1];rfl
   have q0:=h3.blk.cell 0;have q2:=hI.c2.cell 0;have q3:=hI.c3.cell 0;have f2:=hI.c2.frozen 0;have f3:=hI.c3.frozen 0;simp at q0 q2 q3;have hrow:=h3.d;rw [show(R.done.map fun s=>Dz (Dk s))=(R.done.map Dk).flatMap Fd from RE _] at hrow;obtain⟨da,dc,bl⟩:∃a c,dv = pF a R.done.length c:=by
    rcases h3.d.2 with⟨rfl,h0⟩ | ⟨g,c,cur,rfl,_⟩
    ·exact⟨none,0,by rw [h0]⟩
    ·exact⟨_,_,rfl⟩
   subst bl;have HROW:=lH hrow;have HSP:=lH T;have HI:=lH hI;clear hI h1 h2 h3 h4 h5 T hrow;gi_wp2;obtain⟨WF,U⟩:=eX ((W.setCell (A_ w 0) (pF da R.done.length dc)).setCell (A1 w 0) .nilIface);have hk3:Aa [w.heap.size,w.heap.size+1] W WF:=by rw [<- U];exact((Aa.refl _ W).setCell (p:=A_ w 0) (.inl bA) _).setCell (p:=A1 w 0) (.inl bA) _
   have d2:Blk WF w 64 #[pF da R.done.length dc]:=by rw [<- U];exact(HI.o.c2.set_ 0 _).far bA _
   have d3:Blk WF (w+1) 95 #[.nilIface]:=by rw [<- U];exact(HI.o.c3.far bA _).set_ 0 _
   rw [U];have hn:w2.heap.size+1∉[w.heap.size,w.heap.size+1]:=by simp only [Ac,Ab,or_false];omega
   have bi:WF.heap[w2.heap.size+1]? = some (.deferred (some [])):=(hk3.block _ bB hn).trans hK;refine⟨by simp,.inl ⟨_,_,rfl,run_takeDeferred bi,?_⟩⟩;have hk4:=AG (S:=[w2.heap.size+1]) WF (.deferred none) (l:=w2.heap.size+1) bA;have e2:=(d2.keeps hk4 bG).ce 0;have e3:=(d3.keeps hk4 bG).ce 0;refine⟨.tuple #[pF da R.done.length dc,.nilIface],by simp [results,results39,go_sem,e2,e3],?_⟩;unfold Ly;rw [HSP.o];have O:=Ah (Ah HROW.o hk3 (fun g hg hm=>by have:=(HROW.o.lt g hg).1;simp only [Ac,Ab,or_false] at hm;omega)) hk4 (fun g hg hm=>by have:=(HROW.o.lt g hg).1;simp only [Ac,Ab,or_false] at hm;omega);rw [show R.done.length=(R.done.map Dk).length by simp] at O ⊢;obtain⟨a',c',hv,bm,_⟩:=AR.of_row DY O;injection hv with v1 _ v2
   subst v1;subst v2;exact⟨da,dc,by simp,bm,(HI.o.kw.own hk3 (fun g hg=>by simp only [Ac,Ab,or_false] at hg;omega)).own hk4 (fun g hg=>by simp only [Ac,Ab,or_false] at hg;omega)⟩
  case stop=>
   rintro B W M hX hsz hK;rw [E] at hsz hK ⊢;obtain⟨k,h1,h2⟩:=hX.run;have HX:=lH hX;clear hX;gi_wp2;refine⟨by simp,.inl ⟨_,_,rfl,run_takeDeferred hK,?_⟩⟩;have hk4:=AG (S:=[w2.heap.size+1]) W (.deferred none) (l:=w2.heap.size+1) bA;have e2:=(HX.o.c2.keeps hk4 bG).cell 0;have e3:=(h2.keeps hk4 bG).cell 0;simp only [An,Aj,FZ] at e2 e3;refine⟨.tuple #[pF none 0 0,.iface 190 (pH #[pE pK k])],by simp [results,results39,go_sem,e2,e3],?_⟩;unfold Ly;rw [h1];exact⟨rfl,HX.o.kw.own hk4 (fun g hg=>by simp only [Ac,Ab,or_false] at hg;omega)⟩
def Ic(s:ByteArray)(w:World)(x:Ending)(w':World):Prop:=match Ce s.data.toList with
 | .error k=>x = pJ (.tuple #[pF none 0 0,pE pK k])/\Aa [] w w'
 | .ok l=>∃a c,x = pJ (.tuple #[pF a l.length c,pE pK 0])/\Kv w' a c (l.map Dk)/\Aa [] w w'
theorem Gr(s:ByteArray)(hs:s.size<=1000000)(w:World)(hE:Et w):Calls prog 15 #[Dz s] w (Ic s w):=by
 have HE:=lH hE;clear hE;go_enter func15,ntmps15;go_wp2_with fail;refine(WZ s hs w).mono ?_;intro x w1 hx;unfold Ly at hx;cases hsp:Ce s.data.toList with
 | error k=>
  rw [hsp] at hx;obtain⟨rfl,hk⟩:=hx;have HK:=lH hk;have HSP:=lH hsp;clear hk hsp;simp only [FZ];go_wp2_with fail;refine(ErO.told_why k _ (HE.o.keeps HK.o bA)).mono ?_;rintro e w2 ⟨rfl,hk⟩;have HK2:=lH (HK.o.trans hk);clear hk;go_wp2;go_ret2;unfold Ic;rw [HSP.o];exact⟨rfl,HK2.o⟩
 | ok l=>
  rw [hsp] at hx;obtain⟨a,c,rfl,hm,hk⟩:=hx;obtain⟨n,hn⟩:=eX l.length;rw [hn];have HN:=lH hn;have HM:=lH hm;have HK:=lH hk;have HSP:=lH hsp;clear hk hsp hm hn;go_wp2_with fail;refine(ErO.told_nil _).mono ?_;rintro e w2 ⟨rfl,hk⟩;have B:=lH (HM.o.keeps hk);have HK2:=lH (HK.o.trans hk);clear hk;go_wp2;go_ret2;unfold Ic;rw [HSP.o];exact⟨a,c,by rw [HN.o];rfl,B.o,HK2.o⟩
end
section
open Go.RowKit
theorem AR.keepsS{α:Type}{enc:α->List Value}{n:Nat}{w w':World}{a:Option Addr}{c:Nat}{xs:List α}{S:List Nat}(h:AR enc n w a c xs)(hk:Aa S w w')(hS:∀g off,a=some (A_ g off)->g∉S):AR enc n w' a c xs:=
 ⟨h.le,h.nil,fun h0=>by
  obtain⟨g,off,ha,hg,hc⟩:=h.at_ h0;exact⟨g,off,ha,BS hg hk.size,fun i hi j u hj=>(hk.cell (p:=A_ g (off+i*n+j)) hg (hS g off ha)).trans (hc i hi j u hj)⟩⟩
theorem Blk.put3{w:World}{g:Nat}{t:TypeId}{x0 x1 x2:Value}(h:Blk w g t #[x0,x1,x2])(a b c:Value):Blk (((w.setCell (A_ g 0) a).setCell (A_ g 1) b).setCell (A_ g 2) c) g t #[a,b,c]:=((h.set_ 0 a).set_ 1 b).set_ 2 c
theorem Ae(w:World)(g i:Nat)(a:Value):Aa [g] w (w.setCell (A_ g i) a):=(Aa.refl [g] w).setCell (p:=A_ g i) (.inl bA) _
theorem G5(w:World)(g:Nat)(a b c:Value):Aa [g] w (((w.setCell (A_ g 0) a).setCell (A_ g 1) b).setCell (A_ g 2) c):=((Ae w g 0 a).trans (Ae _ g 1 b)).trans (Ae _ g 2 c)
theorem DP{w:World}{B:Nat}{e:TypeId}{D:Nat}{v:Value}{n:Nat}{xs:List Value}(h:w.ownsRow B e D v n xs){x:Nat}(hx:v.ownBlock=some x):∃cs,Blk w x e cs:=by
 rcases h.2 with⟨rfl,_⟩ | ⟨g,cap,cur,rfl,_,hg,_⟩
 ·cases hx
 ·injection hx with hx
  exact⟨cur,by rw [<- hx];exact hg⟩
theorem CX{w:World}{B:Nat}{e t:TypeId}{sz:Nat}{v:Value}{n g:Nat}{xs:List Value}{cs:Array Value}(h:w.ownsRow B e sz v n xs)(hb:Blk w g t cs)(hne:e≠t):∀x,v.ownBlock=some x->x≠g:=fun x hx e1=>by
 obtain⟨c2,h2⟩:=DP h hx;subst e1;unfold Blk at hb h2;rw [h2] at hb;injection hb with hb;injection hb with _ hb _
 exact hne hb
theorem FP{w:World}{B B2:Nat}{e e2:TypeId}{sz sz2:Nat}{v v2:Value}{n n2:Nat}{xs xs2:List Value}(h:w.ownsRow B e sz v n xs)(h2:w.ownsRow B2 e2 sz2 v2 n2 xs2)(hne:e≠e2):∀x y,v.ownBlock=some x->v2.ownBlock=some y->x≠y:=fun x y hx hy=>by
 obtain⟨cs,hb⟩:=DP h2 hy;exact CX h hb hne x hx
theorem AR.of_blk{α:Type}{f:α->Value}{enc:α->List Value}(he:∀x,enc x = [f x]){w:World}{g:Nat}{t:TypeId}{L:List α}{n:Nat}(hn:L.length=n)(h:Blk w g t (L.map f).toArray):AR enc 1 w (some (A_ g 0)) n L:=
 ⟨by omega,(fun e=>by cases e),fun _=>⟨g,0,rfl,h.lt,fun i hi j u hj=>by
  rw [he] at hj;cases j with
  | succ j=>simp at hj
  | zero=>
   simp only [Aj,Option.some.injEq] at hj;rw [h.cell];simp [<- hj,hi]⟩⟩
def Ja(B:Nat)(v:DF):Prop:=(∀g o,v.ga=some ⟨g,o,none⟩->B<=g)/\(∀g o,v.ua=some ⟨g,o,none⟩->B<=g)/\(∀g o,v.fa=some ⟨g,o,none⟩->B<=g)
def Di(B:Nat)(w:World)(s:Fz)(x:Value):Prop:=∃v gn un fn,x = pH (S_ v gn un fn)/\s.gens.length=gn/\s.used.length=un/\s.free.length=fn/\Dy w v s/\Ja B v
theorem Dy.zero(w:World):Dy w ⟨none,0,none,0,none,0⟩ Ez:=⟨.none_,.none_,.none_,by decide,by decide,by decide⟩
theorem Di.zero(B:Nat)(w:World):Di B w Ez (.agg IY.k):=⟨⟨none,0,none,0,none,0⟩,0,0,0,rfl,rfl,rfl,rfl,Dy.zero w,(fun _ _ e=>by cases e),(fun _ _ e=>by cases e),(fun _ _ e=>by cases e)⟩
def Ht:Array Value->Nat->List Value->Array Value
 | cs,_,[]=>cs
 | cs,o,v::r=>Ht (cs.setIfInBounds o v) (o+1) r
theorem Blk.puts{b:Nat}{t:TypeId}: ∀(vs:List Value) (o:Nat) {W:World} {cs:Array Value},Blk W b t cs->Blk (W.setCells b o vs) b t (Ht cs o vs)
 | [],_,_,_,h=>h
 | v::r,o,_,_,h=>Blk.puts r (o+1) (h.set_ o v)
theorem NF:∀(vs:List Value) (o:Nat) (cs:Array Value),(Ht cs o vs).size=cs.size
 | [],_,_=>rfl
 | v::r,o,cs=>by rw [Ht,NF r];simp
theorem LL:∀(vs:List Value) (o:Nat) (cs:Array Value) (i:Nat),o+vs.length<=cs.size->(Ht cs o vs)[i]? = if o<=i/\i<o+vs.length then vs[i - o]? else cs[i]?
 | [],o,cs,i,_=>by rw [Ht,if_neg bA]
 | v::r,o,cs,i,h=>by
  rw [Av] at h;rw [Ht,LL r (o+1) _ i bG];by_cases h1:i=o
  ·subst h1
   rw [if_neg bB,if_pos bA];rw [Bj,if_pos rfl,if_pos bB];simp
  ·by_cases h2:o+1<=i/\i<o+1+r.length
   ·rw [if_pos h2,if_pos (by rw [Av];omega)]
    obtain⟨k,hk⟩:∃k,i - o=k+1:=⟨i - o - 1,by omega⟩;rw [hk,Ao,show i - (o+1)=k by omega]
   ·rw [if_neg h2,if_neg (by rw [Av];omega),Bj,if_neg (fun e=>h1 e.symm)]
theorem Blk.putAll{W:World}{b:Nat}{t:TypeId}{cs ds:Array Value}(h:Blk W b t cs)(hs:cs.size=ds.size):Blk (W.setCells b 0 ds.toList) b t ds:=by
 have:=Blk.puts ds.toList 0 h;have he:Ht cs 0 ds.toList=ds:=by
  apply Array.ext_getElem?;intro i;rw [LL _ _ _ _ bG];by_cases hi:i<ds.size
  ·rw [if_pos (by simp;exact hi)];simp
  ·rw [if_neg bG,Array.getElem?_eq_none bB,Array.getElem?_eq_none bB]
 rwa [he] at this
theorem Blk.there{w:World}{b:Nat}{t:TypeId}{cs:Array Value}(h:Blk w b t cs)(o n:Nat)(hn:o+n<=cs.size):w.there b o n:=fun j hj=>
 ⟨by rw [h.cell];simp;omega,h.frozen _⟩
theorem DT{P:Program}{op:Oper}{a:Act}{w:World}{K:Act->World->Prop}{Q:Exit->Act->World->Prop}(ty:TypeId)(x y:Operand)(ho:op.op = .store ty x y)
 (b:Nat)(cells:Array Value)(hx:a.eval x = p_ b 0)(hy:a.eval y = .agg cells)(t:TypeId)(old:Array Value)(hb:Blk w b t old)(hs:old.size=cells.size)
 (hi:(P.info? ty).map (·.size)=some cells.size)(h1:cells.all (·.oneCell')=true)(h:∀W',Blk W' b t cells->Aa [b] w W'->K (a.put op.dst UD) W'):op.wp P a w K Q:=
 wp_store_mid ty x y ho b 0 cells hx hy (Blk.there hb 0 cells.size bB) hi h1 (h _ (hb.putAll hs) (Bb b 0 _ w))
theorem As{P:Program}{ops:Array Oper}{rest:List Oper}{o:Oper}{a:Act}{w:World}{Q:Exit->Act->World->Prop}(hgd:o.guard=none)(ty:TypeId)(x y:Operand)(ho:o.op = .store ty x y)
 (b:Nat)(cells:Array Value)(hx:a.eval x = p_ b 0)(hy:a.eval y = .agg cells)(t:TypeId)(old:Array Value)(hb:Blk w b t old)(hs:old.size=cells.size)
 (hi:(P.info? ty).map (·.size)=some cells.size)(h1:cells.all (·.oneCell')=true)(h:∀W',Blk W' b t cells->Aa [b] w W'->wpList P ops Q rest (a.put o.dst UD) W'):wpList P ops Q (o::rest) a w:=
 wpList_store_mid hgd ty x y ho b 0 cells hx hy (Blk.there hb 0 cells.size bB) hi h1 (h _ (hb.putAll hs) (Bb b 0 _ w))
theorem FN(w:World)(b o:Nat)(x0 x1 x2 x3 x4:Value):Aa [b] w (((((w.setCell (A_ b o) x0).setCell (A_ b (o+1)) x1).setCell (A_ b (o+2)) x2).setCell (A_ b (o+3)) x3).setCell (A_ b (o+4)) x4):=
 ((((Ae w b o x0).trans (Ae _ b (o+1) x1)).trans (Ae _ b (o+2) x2)).trans (Ae _ b (o+3) x3)).trans (Ae _ b (o+4) x4)
structure AU(p:Prop):Prop where
 out:p
end
end Go.Proofs.YtjieiikpolahfaaGreatDoor
