/- Steps of the proof: RegM, RegS, RegU. -/
import Derived.Test.YtcjdkbgdahgjbaaGreatDoorK0
import Derived.Test.YtcjdkbgdahgjbaaGreatDoorKak
import Derived.Test.YtcjdkbgdahgjbaaGreatDoorKan
set_option maxRecDepth 100000
set_option maxHeartbeats 8000000
set_option linter.all false
namespace Go.Proofs.YtcjdkbgdahgjbaaGreatDoor
open Ending renaming returned→dM
open IntKind renaming i64→dN
open _root_.List renaming findIdx?_eq_some_iff_getElem→CF,getD_eq_getElem?_getD→AE,getElem?_eq_getElem→Au,getElem?_eq_some_iff→Ad,length_append→Ag,length_cons→Ao,length_drop→Bi,length_take→A7,mem_append→AF,mem_cons_of_mem→Ci,mem_cons→Ac,mem_of_getElem?→Ex,not_mem_nil→Ab
open _root_.Nat renaming add_zero→CG,le_refl→Ap,le_trans→As,lt_of_lt_of_le→AT
open Value renaming agg→dK,bool→dL,int→dH,pointer→dJ,slice→dI,string→CZ
open World renaming block_lt_of_cell?→A4
section
open Go.RowKit
theorem Mm(t:Ten)(c:FF)(now:Int):(AS t c now).1.version=t.version:=by
 unfold AS
 (repeat' split)<;>rfl
theorem O7(l:List EW)(a:Int)(r:EW):(Bp l a r).1.length≤l.length+1:=by
 unfold Bp
 repeat' split
 all_goals (try simp)
 omega
theorem Pk(l:List EW)(a:Int):(B8 l a).1.length≤l.length+1:=by
 unfold B8
 repeat' split
 all_goals (try simp [List.length_eraseIdx])
 split<;>omega
theorem Kc(l:List Ey)(k:ByteArray)(a b c:Int):(AN l k a b c).1.length≤l.length+1:=by
 have h:(BE l a b).length≤l.length:=List.length_filterMap_le ..;unfold AN
 repeat' split
 all_goals (try simp)
 omega
theorem P8(t:Ten)(c:FF)(now:Int):(AS t c now).1.rules.length≤t.rules.length+1∧(AS t c now).1.creds.length≤t.creds.length+1:=by
 have h1:=O7 t.rules c.at_ c.rule;have h2:=Pk t.rules (-(c.at_+1));have h3:=Kc t.creds c.key now c.n c.m;unfold AS
 (repeat' split)<;>dsimp only<;>omega
theorem Vh{l:List Ten}{t x:Ten}(h:x∈FD l t):x=t∨x∈l:=by
 unfold FD at h;dsimp only at h;rcases AF.1 h with h | h
 ·exact .inr (List.mem_of_mem_take h)
 ·rcases Ac.1 h with h | h
  ·exact .inl h
  ·right
   generalize hk:(l.takeWhile fun y=>decide (y.slot<t.slot)).length=k at h;split at h
   ·rename_i y m hd
    split at h
    ·exact List.mem_of_mem_drop (i:=k) (by rw [hd];exact Ci _ h)
    ·exact List.mem_of_mem_drop (i:=k) (by rw [hd];exact h)
   ·simp at h
theorem Vi{l:List TV}{t x:TV}(h:x∈CX l t):x=t∨x∈l:=by
 unfold CX at h;rcases AF.1 h with h | h
 ·rcases AF.1 h with h | h
  ·exact .inr (List.mem_of_mem_take h)
  ·exact .inl bK
 ·right
  generalize hk:(l.takeWhile fun y=>decide (y.slot<t.slot)).length=k at h;split at h
  ·rename_i y m hd
   split at h
   ·exact List.mem_of_mem_drop (i:=k) (by rw [hd];exact Ci _ h)
   ·exact List.mem_of_mem_drop (i:=k) (by rw [hd];exact h)
  ·simp at h
theorem Pf(l:List Ten)(t:Ten):(FD l t).length≤l.length+1:=by
 unfold FD;dsimp only;generalize (l.takeWhile fun y=>decide (y.slot<t.slot)).length=k;rw [Ag,Ao,A7];have hd:(l.drop k).length=l.length - k:=Bi;split
 ·rename_i y m h
  rw [h,Ao] at hd;split<;>(try rw [Ao])<;>omega
 ·simp;omega
theorem AC.eraseIdx{w:World}{V:List TV}{L:List Ten}(h:AC w V L)(k:Nat):AC w (V.eraseIdx k) (L.eraseIdx k):=by
 rw [List.eraseIdx_eq_take_drop_succ,List.eraseIdx_eq_take_drop_succ];exact(AC.take k h).app (AC.drop (k+1) h)
def EA(Q:Nat→Prop)(a:Option Addr)(n:Nat):Prop:=0<n→∀g o,a=some ⟨g,o,none⟩→¬Q g
def IH(Q:Nat→Prop)(u:TV):Prop:=EA Q u.ra u.rl∧EA Q u.ca u.cl
structure CK(Q:Nat→Prop)(v:Bm)(r:CE):Prop where
 g:EA Q v.s.ga r.slots.gens.length
 u:EA Q v.s.ua r.slots.used.length
 f:EA Q v.s.fa r.slots.free.length
 l:EA Q v.la v.lv.length
 t:∀u∈v.lv,IH Q u
theorem Cp.no{B n:Nat}{a:Option Addr}{Q:Nat→Prop}(h:Cp B a)(hQ:∀y,Q y→y<B):EA Q a n:=fun _ g o e hq=>by
 have:=h g o e;have:=hQ g hq;omega
theorem AJ.no{α:Type}{enc:α→List Value}{n m:Nat}{w:World}{a:Option Addr}{c:Nat}{xs:List α}{Q:Nat→Prop}(h:AJ enc n w a c xs)(hm:xs.length=m)(hQ:∀y,Q y→w.heap.size≤y):EA Q a m:=fun h0 g o e hq=>by
 obtain⟨g',o',e',hl,_⟩:=h.at_ bB;rw [e'] at e;injection e with e;injection e with e _ _
 have:=hQ g hq;omega
theorem BU.no{w:World}{u:TV}{t:Ten}{Q:Nat→Prop}(h:BU w u t)(hQ:∀y,Q y→w.heap.size≤y):IH Q u:=⟨h.rs.no h.rl hQ,h.cs.no h.cl hQ⟩
theorem EC.no{B:Nat}{u u':TV}{Q:Nat→Prop}(h:EC B u u')(hu:IH Q u)(hQ:∀y,Q y→y<B):IH Q u':=
 ⟨h.1.elim (fun e=>by rw [e.1,e.2];exact hu.1) (fun e=>e.no hQ),h.2.elim (fun e=>by rw [e.1,e.2];exact hu.2) (fun e=>e.no hQ)⟩
theorem AC.no{w:World}{Q:Nat→Prop}(hQ:∀y,Q y→w.heap.size≤y):∀ {V:List TV} {L:List Ten},AC w V L→∀u∈V,IH Q u
 | [],[],_,u,hu=>by simp at hu
 | _::_,_::_,h,u,hu=>by
  rcases Ac.1 hu with rfl | hu
  ·exact h.1.no hQ
  ·exact AC.no hQ h.2 u hu
 | [],_::_,h,_,_=>h.elim
 | _::_,[],h,_,_=>h.elim
theorem Co.later{w:World}{v:Bm}{r:CE}{Q:Nat→Prop}(h:Co w v r)(hQ:∀y,Q y→w.heap.size≤y):CK Q v r:=
 ⟨h.s.g.no rfl hQ,h.s.u.no rfl hQ,h.s.f.no rfl hQ,h.l.no rfl hQ,AC.no hQ h.t⟩
theorem GA.no{B:Nat}{v:Bm}{r:CE}{Q:Nat→Prop}(h:GA B v)(hQ:∀y,Q y→y<B):CK Q v r:=
 ⟨Cp.no h.s.1 hQ,Cp.no h.s.2.1 hQ,Cp.no h.s.2.2 hQ,h.l.no hQ,fun u hu=>⟨(h.t u hu).1.no hQ,(h.t u hu).2.no hQ⟩⟩
theorem BU.stay{w w':World}{u:TV}{t:Ten}{Q:Nat→Prop}{S:List Nat}(h:BU w u t)(hn:IH Q u)(hk:Aa S w w')(hS:∀y∈S,Q y):BU w' u t:=
 { h with rs:=h.rs.keepsN hk (fun h0 g o e hm=>hn.1 (by rw [← h.rl];exact h0) g o e (hS g hm)),cs:=h.cs.keepsN hk (fun h0 g o e hm=>hn.2 (by rw [← h.cl];exact h0) g o e (hS g hm)) }
theorem AC.stay{w w':World}{Q:Nat→Prop}{S:List Nat}(hk:Aa S w w')(hS:∀y∈S,Q y):∀ {V:List TV} {L:List Ten},AC w V L→(∀u∈V,IH Q u)→AC w' V L
 | [],[],_,_=>trivial
 | _::_,_::_,h,hn=>⟨h.1.stay (hn _ bA) hk hS,AC.stay hk hS h.2 (fun u hu=>hn u (by simp [hu]))⟩
 | [],_::_,h,_=>h.elim
 | _::_,[],h,_=>h.elim
theorem Co.stay{w w':World}{v:Bm}{r:CE}{Q:Nat→Prop}{S:List Nat}(h:Co w v r)(hn:CK Q v r)(hk:Aa S w w')(hS:∀y∈S,Q y):Co w' v r:=
 { h with s:=⟨h.s.g.keepsN hk (fun h0 g o e hm=>hn.g h0 g o e (hS g hm)),h.s.u.keepsN hk (fun h0 g o e hm=>hn.u h0 g o e (hS g hm)),h.s.f.keepsN hk (fun h0 g o e hm=>hn.f h0 g o e (hS g hm)),h.s.sg,h.s.su,h.s.sf⟩,l:=h.l.keepsN hk (fun h0 g o e hm=>hn.l h0 g o e (hS g hm)),t:=AC.stay hk hS h.t hn.t }
theorem CK.put{Q:Nat→Prop}{v:Bm}{r:CE}{U:TV}{T:Ten}{a:Option Addr}{c:Nat}{seq:Int}(h:CK Q v r)(ha:EA Q a (CX v.lv U).length)(hU:IH Q U):CK Q ⟨v.s,a,c,CX v.lv U⟩ ⟨r.slots,FD r.l T,seq⟩:=
 ⟨h.g,h.u,h.f,ha,fun u hu=>by
  rcases Vi hu with rfl | hu
  ·exact hU
  ·exact h.t u hu⟩
def Mp(w:World)(v:Bm)(r:CE)(v':Bm)(r':CE):Prop:=∀Q:Nat→Prop,(∀y,Q y→y<w.heap.size)→CK Q v r→CK Q v' r'
theorem Co.put{w W:World}{v:Bm}{r:CE}{U:TV}{T:Ten}{a:Option Addr}{c:Nat}(h:Co w v r)(hk:Aa [] w W)(hs:AJ BM 8 W a c (CX v.lv U))(hT:BU W U T)(hl:r.l.length≤900)(hsm:T.rules.length≤1000∧T.creds.length≤1000)(seq:Int):
  Co W ⟨v.s,a,c,CX v.lv U⟩ ⟨r.slots,FD r.l T,seq⟩∧(FD r.l T).length=(CX v.lv U).length:=by
 have ht:=Vj (AC.keeps h.t hk) hT;refine⟨⟨h.s.keeps hk,hs,ht,?_,?_⟩,(AC.len ht).symm⟩
 ·exact As (Pf r.l T) bB
 ·intro t ht
  rcases Vh ht with rfl | ht
  ·exact hsm
  ·exact h.small t ht
end
section
open Go.RowKit Go.Shelf
attribute [local go_sem] Oper.semAt_some
attribute [local go_sem ↓] Go.wp_at_zero Go.wp_at_succ
def Yp(w0:World)(v0:Bm)(r0:CE)(w:World)(r:CE)(x:Value):Prop:=∃(v:Bm) (gn un fn ln:Nat),x = dK (R_ v gn un fn ln r.seq)∧r.slots.gens.length=gn∧r.slots.used.length=un∧r.slots.free.length=fn∧r.l.length=ln∧Co w v r∧Mp w0 v0 r0 v r
def CN(v0:Bm)(r0:CE)(w:World)(R:CE×Ten×Int):Ending→World→Prop:=fun e w'=>∃(v:Bm) (gn un fn ln:Nat) (seq:Int) (u:TV),e = dM (.tuple #[dK (R_ v gn un fn ln seq),dK (T_ u),Fa R.2.2])∧
 (R.2.2=0→seq=R.1.seq∧R.1.slots.gens.length=gn∧R.1.slots.used.length=un∧R.1.slots.free.length=fn∧R.1.l.length=ln∧Co w' v R.1∧Mp w v0 r0 v R.1∧u.slot=R.2.1.slot∧u.gen=R.2.1.gen∧u.version=R.2.1.version∧u.state=R.2.1.state)∧Aa [] w w'
def Za:TV:=⟨0,0,⟨#[]⟩,0,0,none,0,0,none,0,0,0⟩
theorem Gu{v0:Bm}{r0:CE}{w w1 w':World}{R:CE×Ten×Int}{v:Bm}{gn un fn ln:Nat}{seq:Int}{er:Int}{S:List Nat}(h:R.2.2=er)(h0:er≠0)(hk:Aa [] w w1)(hk2:Aa S w1 w')(hS:∀y∈S,w.heap.size≤y):CN v0 r0 w R (dM (.tuple #[dK (R_ v gn un fn ln seq),.agg Mr.k,.iface 239 (dK #[dH dN er])])) w':=
 ⟨v,gn,un,fn,ln,seq,Za,by rw [h,Fa,if_neg h0];rfl,fun e=>absurd (h▸e) h0,hk.own hk2 hS⟩
theorem KH{v0:Bm}{r0:CE}{w w':World}{R:CE×Ten×Int}{r':CE}{t':Ten}{x:Value}{u:TV}(h:R=(r',t',0))(hx:Yp w v0 r0 w' r' x)(h1:u.slot=t'.slot)(h2:u.gen=t'.gen)(h3:u.version=t'.version)(h4:u.state=t'.state)(hk:Aa [] w w'):CN v0 r0 w R (dM (.tuple #[x,dK (T_ u),.nilIface])) w':=by
 subst h;obtain⟨v,gn,un,fn,ln,rfl,a1,a2,a3,a4,a5,a6⟩:=hx;exact⟨v,gn,un,fn,ln,_,u,rfl,fun _=>⟨rfl,a1,a2,a3,a4,a5,a6,h1,h2,h3,h4⟩,hk⟩
theorem EC.mono{B B':Nat}{u u':TV}(h:EC B u u')(hb:B'≤B):EC B' u u':=⟨h.1.imp id (fun e=>e.mono hb),h.2.imp id (fun e=>e.mono hb)⟩
theorem VN{k:Int}(h:k=8∨k=10)(h8:(k==8)=false):(k==10)=true:=by
 have h1:¬k=8:=by simpa using h8
 simpa using h.resolve_left h1
theorem Vt{w:World}{B n c sz:Nat}{e:TypeId}{a:Option Addr}{xs:List Value}(h:w.ownsRow B e sz (dI a n c) n xs)(h0:0<n):∃g,a=some ⟨g,0,none⟩∧B≤g∧g<w.heap.size:=by
 obtain⟨m,rfl⟩:∃m,n=m+1:=⟨n - 1,by omega⟩;obtain⟨g,c2,e2,hb,hl⟩:=NH h;injection e2 with e2 _ _
 exact⟨g,e2,hb,hl⟩
theorem VK{A:World}{a:Option Addr}{c i g1 o1:Nat}{xs:List TV}{u1:TV}(h:AJ BM 8 A a c xs)(hx:xs[i]? = some u1)(ha:a=some ⟨g1,o1,none⟩):A.cell? ⟨g1,o1+i*8,none⟩=some (dH dN u1.slot)∧A.cell? ⟨g1,o1+i*8+1,none⟩=some (dH dN u1.gen)∧A.cell? ⟨g1,o1+i*8+2,none⟩=some (CZ u1.name)∧A.cell? ⟨g1,o1+i*8+3,none⟩=some (dH dN u1.state)∧A.cell? ⟨g1,o1+i*8+4,none⟩=some (dH dN u1.version)∧A.cell? ⟨g1,o1+i*8+5,none⟩=some (dI u1.ra u1.rl u1.rc)∧A.cell? ⟨g1,o1+i*8+6,none⟩=some (dI u1.ca u1.cl u1.cc)∧A.cell? ⟨g1,o1+i*8+7,none⟩=some (dH dN u1.deadline):=by
 have hi:=(Ad.1 hx).1;obtain⟨g,o,u,e,_,hx2,hat⟩:=h.at_k hi;rw [hx] at hx2;injection hx2 with hx2
 subst hx2;rw [ha] at e;injection e with e;injection e with e1 e2 _
 subst e1;subst e2;exact⟨hat 0 _ rfl,hat 1 _ rfl,hat 2 _ rfl,hat 3 _ rfl,hat 4 _ rfl,hat 5 _ rfl,hat 6 _ rfl,hat 7 _ rfl⟩
theorem QF{l:List Ten}{name:ByteArray}{i:Nat}(h:BO l name=some i):∃t,l[i]? = some t∧l.getD i Hp=t:=by
 unfold BO at h;have:=(CF.1 h).1;exact⟨l[i],Au this,by rw [AE,Au this];rfl⟩
theorem AC.getV{w:World}{V:List TV}{L:List Ten}(h:AC w V L){k:Nat}{t:Ten}(ht:L[k]? = some t):∃u,V[k]? = some u∧BU w u t:=by
 obtain⟨hk,e⟩:=Ad.1 ht;have hk2:k<V.length:=by rw [h.len];exact hk
 exact⟨V[k],Au hk2,by rw [← e];exact h.get k hk2 hk⟩
theorem Nx(v:Bm)(r:CE)(gn un fn ln:Nat)(hg:r.slots.gens.length=gn)(hu:r.slots.used.length=un)(hf:r.slots.free.length=fn)(hln:r.l.length=ln)(seq:Int)(hsq:r.seq=seq)(c:FF)(now:Int)
 (hv:c.verb=2∨c.verb=3∨c.verb=4∨c.verb=5∨c.verb=6∨c.verb=7∨c.verb=8∨c.verb=10)(hnow:0≤now∧now≤1000000000000)(hat : -9223372036854775808≤c.at_∧c.at_≤9223372036854775807)
 (hsm:r.l.length≤900∧(∀t∈r.l,t.rules.length≤900∧t.creds.length≤900∧0≤t.version∧t.version≤1000000000000))(w:World)(E:Nat→Addr)(hE:Ez w E)(hEt:Et w)(h:Co w v r):
  Calls Tryz.prog 142 #[dK (R_ v gn un fn ln seq),dK (K_ c),dH dN now] w (CN v r w (DY r c now)):=by
 obtain⟨wz,hwz⟩:=eX ((((w.alloc (.cells (R_ v gn un fn ln seq) 29)).alloc (.cells (K_ c) 61)).alloc (.cells LU.k 29)).alloc (.cells Mr.k 124));have hz:Aa [] w wz:=by rw [← hwz];exact((((Aa.refl [] w).alloc _).alloc _).alloc _).alloc _
 have HB0:Hid (Blk wz w.heap.size 29 (R_ v gn un fn ln seq)):=lH ZQ;have HB1:Hid (Blk wz (w.heap.size+1) 61 (K_ c)):=lH ZP;have HB2:Hid (Blk wz (w.heap.size+1+1) 29 LU.k):=lH Y6;have HB3:Hid (Blk wz (w.heap.size+1+1+1) 124 Mr.k):=lH Xe;have HSZ:Hid (wz.heap.size=w.heap.size+4):=lH X4;have HPL:=lH (MK v r gn un fn ln Zy (by have:=h.sl;omega) seq hsq c.name wz (h.l.keeps hz) (h.t.keeps hz));have b0:=HB0.out.cell;have b1:=HB1.out.cell;have HM:=lH h;have HG:=lH hg;have HU:=lH hu;have HF:=lH hf;have HLN:=lH hln;have HSQ:=lH hsq;have HZ:=lH hz;have HSM:=lH hsm;have HEE:=lH hE;have HET:=lH hEt;obtain⟨R,hR⟩:=eX (DY r c now);rw [hR];have HR:=lH hR;clear hg hu hf hln hsq hz h hsm hE hEt hR;go_enter Tryz.func142,Tryz.ntmps142;go_wp2_with (fail);clear hwz;refine HPL.out.mono ?_;rintro e w1 ⟨rfl,hk1⟩;replace HB0:=lH (HB0.out.keeps hk1 bA);replace HB1:=lH (HB1.out.keeps hk1 bA);replace HB2:=lH (HB2.out.keeps hk1 bA);replace HB3:=lH (HB3.out.keeps hk1 bA);have hs1:=hk1.size;clear b0 b1;have b0:=HB0.out.cell;have b1:=HB1.out.cell;have HK1:=lH (HZ.out.trans hk1);cases hp:BO r.l c.name with
 | none=>
  have HR2:Hid (R.2.2=154):=lH (by rw [← HR.out];unfold DY;rw [hp]);clear hk1 hp;have y2:=HB2.out.frozen;have y3:=HB3.out.frozen;have z2:=HB2.out.cell;have z3:=HB3.out.cell;simp only [Option.isSome_none,Option.getD_none];go_wp2_with (fail);exact bodyPost_ret (v:=.tuple #[dK (R_ v gn un fn ln seq),.agg Mr.k,.iface 239 (dK #[dH dN 154])]) (by simp [results,Tryz.results142,go_sem,z2,z3]) rfl (Gu HR2.out bE HK1.out (S:=[w.heap.size+1+1,w.heap.size+1+1+1]) bJ bF)
 | some i=>
  obtain⟨t,ht,hti⟩:=QF hp;obtain⟨u,hu,htm⟩:=HM.out.t.getV ht;have hil:i<ln:=by rw [← HLN.out];exact(Ad.1 ht).1
  have hvl:v.lv.length=ln:=by rw [AC.len HM.out.t,HLN.out]
  obtain⟨g1,o1,u1,hla,hg1,hx1,hat1⟩:=(HM.out.l.keeps HK1.out).at_k (k:=i) (by rw [hvl];exact hil);obtain rfl:u1=u:=by rw [hx1] at hu;injection hu
  have q:=fun j x=>hat1 j x;have hR2:R=(if c.want≠0∧c.want≠t.version then(r,Hp,155) else
   if(AS t c now).2≠0 then(r,Hp,(AS t c now).2) else
    if c.verb=8∨c.verb=10 then(r,t,0)
    else if c.verb=5 then(⟨(Cf r.slots ((AS t c now).1.slot,(AS t c now).1.gen)).1,r.l.eraseIdx i,r.seq⟩,{ (AS t c now).1 with version:=(AS t c now).1.version+1 },0)
    else(⟨r.slots,FD r.l { (AS t c now).1 with version:=(AS t c now).1.version+1 },r.seq⟩,{ (AS t c now).1 with version:=(AS t c now).1.version+1 },0)):=by
   rw [← HR.out];unfold DY;rw [hp];simp only [hti]
  have HR2:=lH hR2;have HTM:=lH htm;have HI:=lH hti;have HSU:=lH (HSM.out.2 t (Ex ht));have HUI:=lH hx1;have q0:=hat1 0 _ rfl;have q1:=hat1 1 _ rfl;have q2:=hat1 2 _ rfl;have q3:=hat1 3 _ rfl;have q4:=hat1 4 _ rfl;have q5:=hat1 5 _ rfl;have q6:=hat1 6 _ rfl;have q7:=hat1 7 _ rfl;rw [hla] at b0;rw [CG] at q0;have i1:(0:Int)≤(i:Int):=by omega
  have i2:(i:Int)<(ln:Int):=by omega
  have HLA:=lH hla;clear hk1 hp ht hti hu htm hil hvl hx1 hat1 q hR2 hg1 hla;simp only [Option.isSome_some,Option.getD_some];go_upto_region 4 with(fail)
  go_cut [11] (fun x wc=>∃cb,x = dJ (some ⟨cb,0,none⟩)∧Hid (Blk wc cb 170 (IM u1 seq c now)∧Aa [] w1 wc∧w1.heap.size≤cb))
  case first=>
   go_region;go_wp2_with (fail);go_meet;exact⟨_,rfl,lH ⟨by first | exact Blk.new _ _ _ | exact(Blk.new _ _ _).drewN _,by first | exact((Aa.refl [] w1).drewN _).alloc _ | exact((Aa.refl [] w1).alloc _).drewN _ | exact(Aa.refl [] w1).alloc _,by first | exact Ap _ | simp⟩⟩
  case rest=>
   obtain⟨cb,rfl,HC⟩:=hcut
   rename World=>wc
   clear q0 q1 q2 q3 q4 q5 q6 q7;replace HB0:=lH (HB0.out.keeps HC.out.2.1 bA);replace HB1:=lH (HB1.out.keeps HC.out.2.1 bA);replace HB2:=lH (HB2.out.keeps HC.out.2.1 bA);replace HB3:=lH (HB3.out.keeps HC.out.2.1 bA);replace HK1:=lH (HK1.out.trans HC.out.2.1);clear b0 b1;have b1:=HB1.out.cell;have x0:=HC.out.1.cell;obtain⟨bw,hbw⟩:=eX (decide (c.want≠0∧c.want≠u1.version));have HBW:=lH hbw;clear hbw;go_upto_region 5 with(fail)
   go_cut [51] (fun x wd=>x = dL bw∧Hid (Aa [] wc wd))
   case first=>
    simp only [IM] at x0;by_cases h0:c.want=0
    ·have f1:(c.want != 0)=false:=by simpa using h0
     obtain rfl:bw=false:=by rw [← HBW.out];exact decide_eq_false (fun h=>h.1 h0)
     clear h0;go_region;go_wp2_with (fail);go_meet;exact⟨rfl,lH (by first | exact(Aa.refl [] wc) | exact(Aa.refl [] wc).drewN _)⟩
    ·have f1:(c.want != 0)=true:=by simpa using h0
     have f2:(c.want != u1.version)=bw:=by rw [← HBW.out];by_cases h:c.want=u1.version<;>simp [h0,h,bne]
     clear h0;go_region;go_wp2_with (fail);go_meet;exact⟨rfl,lH (by first | exact(Aa.refl [] wc) | exact(Aa.refl [] wc).drewN _)⟩
   case rest=>
    obtain⟨rfl,HD⟩:=hcut
    rename World=>wd
    replace HB0:=lH (HB0.out.keeps HD.out bA);replace HB1:=lH (HB1.out.keeps HD.out bA);replace HB2:=lH (HB2.out.keeps HD.out bA);replace HB3:=lH (HB3.out.keeps HD.out bA);replace HK1:=lH (HK1.out.trans HD.out);have HCB:=lH (HC.out.1.keeps HD.out bA);clear b1 x0;have hwv:(c.want≠0∧c.want≠t.version)=(c.want≠0∧c.want≠u1.version):=by rw [HTM.out.version]
    have hdw:=HBW.out;cases bw with
    | true=>
     have HRE:Hid (R.2.2=155):=lH (by rw [HR2.out,if_pos (by rw [hwv];exact of_decide_eq_true hdw)]);have b0:=HB0.out.cell;have y2:=HB2.out.frozen;have y3:=HB3.out.frozen;have z2:=HB2.out.cell;have z3:=HB3.out.cell;clear hwv hdw;go_wp2_with (fail);exact bodyPost_ret (v:=.tuple #[dK (R_ v gn un fn ln seq),.agg Mr.k,.iface 239 (dK #[dH dN 155])]) (by simp [results,Tryz.results142,go_sem,z2,z3]) rfl (Gu HRE.out bE HK1.out (S:=[w.heap.size+1+1,w.heap.size+1+1+1]) bJ bF)
    | false=>
     have hR3:=HR2.out;rw [if_neg (by rw [hwv];exact of_decide_eq_false hdw)] at hR3;replace HR2:=lH hR3;clear hwv hdw hR3;obtain⟨f,hlook,hent,hcall⟩:=Tt cb u1 t seq c now hv hnow hat ⟨by have:=HSU.out;omega,by have:=HSU.out;omega⟩;have HLOOK:=lH hlook;have HENT:=lH hent;have HCALL:=lH hcall;clear hlook hent hcall;have b1:=HB1.out.ce 0;have HCL:Hid (w.heap.size+4≤cb∧cb<wd.heap.size):=lH ⟨by have h1:=HC.out.2.2;have h2:=HSZ.out;have h3:=hs1;omega,HCB.out.lt⟩;have HS:Hid (∀A,Aa [cb] wd A→Aa [cb] wd A∧A.cell? ⟨w.heap.size+1,0,none⟩=some (dH dN c.verb)):=lH fun A hk=>⟨hk,(HB1.out.keeps hk (by have:=HCL.out;simp only [Ac,Ab,or_false];omega)).cell 0⟩;clear b1;go_upto_region 7 with(fail)
     go_cut [12] (fun x we=>x=Fa (AS t c now).2∧Hid (((AS t c now).2=0→∃u',Blk we cb 170 (IM u' seq c now)∧BU we u' (AS t c now).1∧EC wd.heap.size u1 u')∧Aa [cb] wd we))
     case first=>
      refine wp_region_held_drew (S:=(fun A:World=>Aa [cb] wd A∧A.cell? ⟨w.heap.size+1,0,none⟩=some (dH dN c.verb))) bC Zl (fun hHeld=>?_);refine rQ 1 ?_;refine rQ 2 ?_;refine rQ 4 ?_;refine rC 0 fun K hK=>?_;go_simp
      (refine(Tu _).mono ?_;rintro e w2 ⟨rfl,hw2⟩;have hl:=HLOOK.out w2 wd.heap.size (by rw [← hw2];exact heap_alloc_new wd.drew _);have hk2:Aa [] wd w2:=(by rw [← hw2];exact((Aa.refl [] wd).drew).alloc _);clear hw2)
      refine rO hK Zl fun hHeld=>?_;clear hK K;refine rC 3 fun K hK=>?_;go_simp;refine rO hK Zl fun hHeld=>?_;clear hK K;refine rC 5 fun K hK=>?_;go_simp
      (rw [HENT.out,Oper.upon_enter];refine(HCALL.out _ E (HET.out.keeps (HK1.out.trans hk2) bA) (HEE.out.keep (HK1.out.trans hk2)) (HCB.out.keeps hk2 bA) (HTM.out.keeps (HK1.out.trans hk2)) (EX.of HTM.out (by have:=HCL.out;omega))).mono ?_;rintro e w9 ⟨rfl,hok,hk9⟩)
      refine rO hK Zl fun hHeld=>?_;clear hK K;refine rQ 6 ?_;refine wpAnyH_done bC ?_ _
      (go_wp2_with (fail);go_meet;exact⟨rfl,lH ⟨fun h0=>(by obtain⟨u',a1,a2,a3⟩:=hok h0;exact⟨u',a1,a2,a3.mono hk2.size⟩),(hk2.mono bA).trans hk9⟩⟩)
     case rest=>
      obtain⟨rfl,HV⟩:=hcut
      rename World=>we
      have hcb:=HCL.out;have hn:∀y,y<w.heap.size+4→y∉[cb]:=fun y hy=>by simp only [Ac,Ab,or_false];omega
      replace HB0:=lH (HB0.out.keeps HV.out.2 (hn _ bB));replace HB1:=lH (HB1.out.keeps HV.out.2 (hn _ bB));replace HB2:=lH (HB2.out.keeps HV.out.2 (hn _ bB));replace HB3:=lH (HB3.out.keeps HV.out.2 (hn _ bB));replace HK1:=lH (HK1.out.own HV.out.2 bF);obtain⟨⟨tx,er⟩,hvf⟩:∃r,AS t c now=r:=⟨_,rfl⟩;have HVF:=lH hvf;have HR3:Hid (R=if er≠0 then(r,Hp,er) else
        if c.verb=8∨c.verb=10 then(r,t,0)
        else if c.verb=5 then(⟨(Cf r.slots (tx.slot,tx.gen)).1,r.l.eraseIdx i,r.seq⟩,{ tx with version:=tx.version+1 },0)
        else(⟨r.slots,FD r.l { tx with version:=tx.version+1 },r.seq⟩,{ tx with version:=tx.version+1 },0)):=lH (by have h:=HR2.out;rw [hvf] at h;exact h)
      have HV2:Hid (er=0→∃u',Blk we cb 170 (IM u' seq c now)∧BU we u' tx∧EC wd.heap.size u1 u'):=lH (by have h:=HV.out.1;rw [hvf] at h;exact h);rw [hvf];dsimp only;have b0:=HB0.out.cell;have y2:=HB2.out.frozen;have y3:=HB3.out.frozen;have z2:=HB2.out.cell;have z3:=HB3.out.cell;clear hvf hn;by_cases he:er=0
      ·subst he
       simp only [Fa,if_true];obtain⟨u2,hb2,ht2,hs2⟩:=HV2.out rfl;have HB:=lH hb2;have HT2:=lH ht2;have HS2:=lH hs2;have hR4:=HR3.out;rw [if_neg bA] at hR4;have HR4:=lH hR4;have b1:=HB1.out.cell;clear hb2 ht2 hs2 hR4 HV2 HR3;by_cases h8:c.verb=8∨c.verb=10
       ·have HR5:Hid (R=(r,t,0)):=lH (by rw [HR4.out,if_pos h8])
        obtain⟨q8,hq8⟩:=eX ((c.verb==8));have HSA:Hid (∀A,Aa [w.heap.size+1+1,w.heap.size+1+1+1] we A→Aa [w.heap.size+1+1,w.heap.size+1+1+1] we A∧(∀k,A.cell? ⟨w,k,none⟩=((R_ v gn un fn ln seq):Array Value)[k]?)∧A.cell? ⟨g1,o1+i*8,none⟩=some (dH dN u1.slot)∧A.cell? ⟨g1,o1+i*8+1,none⟩=some (dH dN u1.gen)∧A.cell? ⟨g1,o1+i*8+2,none⟩=some (CZ u1.name)∧A.cell? ⟨g1,o1+i*8+3,none⟩=some (dH dN u1.state)∧A.cell? ⟨g1,o1+i*8+4,none⟩=some (dH dN u1.version)∧A.cell? ⟨g1,o1+i*8+5,none⟩=some (dI u1.ra u1.rl u1.rc)∧A.cell? ⟨g1,o1+i*8+6,none⟩=some (dI u1.ca u1.cl u1.cc)∧A.cell? ⟨g1,o1+i*8+7,none⟩=some (dH dN u1.deadline)):=lH fun A hk=>⟨hk,(HB0.out.keeps hk bI).cell,VK (HM.out.l.keeps (HK1.out.own hk bF)) HUI.out HLA.out⟩;rw [HLA.out] at b0 HSA;have hq10:q8=false→(c.verb==10)=true:=fun e=>VN h8 (hq8.trans e);cases q8;all_goals
         try have f10:=hq10 rfl
         go_wp2_with (fail);refine wp_region_held_drew (S:=(fun A:World=>Aa [w.heap.size+1+1,w.heap.size+1+1+1] we A∧(∀k,A.cell? ⟨w,k,none⟩=(#[dI v.s.ga gn v.s.gc,dI v.s.ua un v.s.uc,dI v.s.fa fn v.s.fc,dI (some ⟨g1,o1,none⟩) ln v.lc,dH dN seq]:Array Value)[k]?)∧A.cell? ⟨g1,o1+i*8,none⟩=some (dH dN u1.slot)∧A.cell? ⟨g1,o1+i*8+1,none⟩=some (dH dN u1.gen)∧A.cell? ⟨g1,o1+i*8+2,none⟩=some (CZ u1.name)∧A.cell? ⟨g1,o1+i*8+3,none⟩=some (dH dN u1.state)∧A.cell? ⟨g1,o1+i*8+4,none⟩=some (dH dN u1.version)∧A.cell? ⟨g1,o1+i*8+5,none⟩=some (dI u1.ra u1.rl u1.rc)∧A.cell? ⟨g1,o1+i*8+6,none⟩=some (dI u1.ca u1.cl u1.cc)∧A.cell? ⟨g1,o1+i*8+7,none⟩=some (dH dN u1.deadline))) bC ZC (fun hHeld=>?_);refine rQ 0 ?_;refine rQ 1 ?_;refine rQ 2 ?_;refine rQ 3 ?_;refine rQ 4 ?_;refine rQ 5 ?_;refine rC 6 fun K hK=>?_;go_simp;refine rO hK ZC fun hHeld=>?_;clear hK K;refine rC 7 fun K hK=>?_;go_simp;refine rO hK ZC fun hHeld=>?_;clear hK K;refine rQ 8 ?_;refine wpAnyH_done bC ?_ _
         (go_wp2_with (fail);exact bodyPost_ret (v:=.tuple #[dK #[dI v.s.ga gn v.s.gc,dI v.s.ua un v.s.uc,dI v.s.fa fn v.s.fc,dI (some ⟨g1,o1,none⟩) ln v.lc,dH dN seq],dK (T_ u1),.nilIface]) (by simp [results,Tryz.results142,go_sem,z2,z3]) rfl (KH HR5.out ⟨v,gn,un,fn,ln,by rw [HLA.out,HSQ.out],HG.out,HU.out,HF.out,HLN.out,HM.out.keeps (HK1.out.own hHeld.1 bF),fun _ _ h=>h⟩ HTM.out.slot HTM.out.gen HTM.out.version HTM.out.state (HK1.out.own hHeld.1 bF)))
       ·have f8:(c.verb==8)=false:=by simpa using fun h=>h8 (.inl h)
        have f10:(c.verb==10)=false:=by simpa using fun h=>h8 (.inr h)
        have hR5:=HR4.out;rw [if_neg h8] at hR5;have hver:u2.version=tx.version∧tx.version=t.version:=⟨HT2.out.version,by have:=Mm t c now;rw [HVF.out] at this;exact this⟩;have hw1:IntKind.i64.wrap (u2.version+1)=u2.version+1:=IntWalk.i64_in _ (by have:=HSU.out;omega);have HVER:=lH hver;have x0:=HB.out.cell;have y0:=HB.out.frozen;simp only [IM] at x0;obtain⟨wf,hwf⟩:=eX (we.setCell ⟨cb,4,none⟩ (dH dN (u2.version+1)));have hkf:Aa [cb] we wf:=by rw [← hwf];exact Ae _ _ _ _
        have HBF:Hid (Blk wf cb 170 (IM { u2 with version:=u2.version+1 } seq c now)):=lH (by rw [← hwf];exact HB.out.set_ 4 _);have HTF:Hid (BU wf { u2 with version:=u2.version+1 } { tx with version:=tx.version+1 }):=lH (by
         have h:=HTM.out.src HT2.out HS2.out hkf ZM;exact { h with version:=by dsimp only;rw [hver.1] })
        have HSF:Hid (EC wd.heap.size u1 { u2 with version:=u2.version+1 }):=lH HS2.out;have hn:∀y,y<w.heap.size+4→y∉[cb]:=fun y hy=>by simp only [Ac,Ab,or_false];omega
        replace HB0:=lH (HB0.out.keeps hkf (hn _ bB));replace HB1:=lH (HB1.out.keeps hkf (hn _ bB));replace HB2:=lH (HB2.out.keeps hkf (hn _ bB));replace HB3:=lH (HB3.out.keeps hkf (hn _ bB));replace HK1:=lH (HK1.out.own hkf bF);clear h8 hver hkf hn b0 y2 y3 z2 z3;by_cases h5:c.verb=5
        ·have f5:(c.verb==5)=true:=by simpa using h5
         have HR6:Hid (R=(⟨(Cf r.slots (tx.slot,tx.gen)).1,r.l.eraseIdx i,r.seq⟩,{ tx with version:=tx.version+1 },0)):=lH (by rw [hR5,if_pos h5]);clear hR5 h5;have HSG:Hid (∀A,Aa [w.heap.size] wf A→Aa [w.heap.size] wf A∧(∀k,A.cell? ⟨cb,k,none⟩=((G_ u2 seq c now):Array Value)[k]?)):=lH fun A hk=>⟨hk,(HBF.out.keeps hk bI).cell⟩;go_upto_region 16 with(fail)
         clear hwf x0 y0;have b0:=HB0.out.cell;go_cut [91] (fun _ wg=>∃(gv:D3) (n1 n2 n3:Nat),Hid (Blk wg w.heap.size 29 #[dI gv.ga n1 gv.gc,dI gv.ua n2 gv.uc,dI gv.fa n3 gv.fc,dI v.la ln v.lc,dH dN seq]∧Dp wg gv (Cf r.slots (u2.slot,u2.gen)).1∧GV wf.heap.size gv∧(Cf r.slots (u2.slot,u2.gen)).1.gens.length=n1∧(Cf r.slots (u2.slot,u2.gen)).1.used.length=n2∧(Cf r.slots (u2.slot,u2.gen)).1.free.length=n3∧Aa [w.heap.size] wf wg))
         case first=>
          refine wp_region_held_drew (S:=(fun A:World=>Aa [w.heap.size] wf A∧(∀k,A.cell? ⟨cb,k,none⟩=((G_ u2 seq c now):Array Value)[k]?))) bC Zh (fun hHeld=>?_);refine rQ 0 ?_;refine rQ 2 ?_;refine rQ 3 ?_;refine rQ 4 ?_;refine rQ 5 ?_;refine rQ 6 ?_;refine rQ 7 ?_;refine rC 1 fun K hK=>?_;go_simp;refine rO hK Zh fun hHeld=>?_;clear hK K;refine rC 8 fun K hK=>?_;go_simp
          (refine(T5 v.s r.slots gn un fn HG.out HU.out HF.out u2.slot u2.gen _ (HM.out.s.keeps (HK1.out.own hHeld.1 bF))).mono ?_;rintro e w6 ⟨rv,rfl,⟨gv,n1,n2,n3,rfl,l1,l2,l3,hsm,hsg⟩,hk6⟩;have hkw6:Aa [w.heap.size] wf w6:=hHeld.1.trans (hk6.mono bA);have hk6':Aa [] wf w6:=((Aa.refl [] wf).drew).trans hk6;clear b0;have b0:=(HB0.out.keeps hk6' bA).cell;have y0:=(HB0.out.keeps hk6' bA).frozen)
          refine rO hK Zh fun hHeld=>?_;clear hK K;refine rQ 9 ?_;refine rQ 10 ?_;refine rQ 11 ?_;refine rQ 12 ?_;refine rC 13 fun K hK=>?_;go_simp;refine rO hK Zh fun hHeld=>?_;clear hK K;refine wpAnyH_done bC ?_ _
          (go_wp2_with (fail);go_meet;exact⟨gv,n1,n2,n3,lH ⟨((((HB0.out.keeps hk6' bA).set_ 0 _).set_ 1 _).set_ 2 _),hsm.ge hsg (F1 _ _ _ _ _) (fun y hy=>by have:=HB0.out.lt;simp only [Ac,Ab,or_false] at hy;subst hy;exact this),hsg,l1,l2,l3,hkw6.trans (F1 _ _ _ _ _)⟩⟩)
         case rest=>
          obtain⟨gv,n1,n2,n3,HGV⟩:=hcut
          rename World=>wg
          clear b0;have hvl:v.lv.length=ln:=by rw [AC.len HM.out.t,HLN.out]
          have hil:i<ln:=by rw [← hvl];exact(Ad.1 HUI.out).1
          have hl9:ln≤900:=by have:=HSM.out.1;have:=HLN.out;omega
          have HKG:Hid (Aa [] w wg):=lH (HK1.out.own HGV.out.2.2.2.2.2.2 bF);have hiw:IntKind.i64.wrap ((i:Int)+1)=(i:Int)+1:=IntWalk.i64_in _ bB;have HCG:Hid (Blk wg cb 170 (G_ u2 seq c now)):=lH (HBF.out.keeps HGV.out.2.2.2.2.2.2 bI);replace HB2:=lH (HB2.out.keeps HGV.out.2.2.2.2.2.2 bI);replace HB3:=lH (HB3.out.keeps HGV.out.2.2.2.2.2.2 bI);have b0:=HGV.out.1.cell;go_wp2_with (fail);refine(PX v.la v.lc v.lv ln hvl bB wg (HM.out.l.keeps HKG.out)).mono ?_;rintro e w7 ⟨a7,c7,rfl,hs7,ho7,hk7⟩;obtain⟨g7,rfl,hg7,hg7l⟩:=Vt ho7 bB;go_wp2_with (fail);refine(Qb v.lv ln i g7 c7 wg.heap.size hvl hil bB w7 ho7).mono ?_;rintro e w8 ⟨rfl,hs8,hk8⟩;have hk78:Aa [] wg w8:=hk7.own hk8 bF;have hbg:=HGV.out.1.lt;have hb8:=HGV.out.1.keeps hk78 bA;clear b0;have b0:=hb8.cell;have y0:=hb8.frozen;obtain⟨wh,hwh⟩:=eX (w8.setCell ⟨w,3,none⟩ (dI (some ⟨g7,0,none⟩) (ln - 1) c7));have hkh:Aa [w.heap.size] w8 wh:=by rw [← hwh];exact Ae _ _ _ _
          have HBH:Hid (Blk wh w.heap.size 29 #[dI gv.ga n1 gv.gc,dI gv.ua n2 gv.uc,dI gv.fa n3 gv.fc,dI (some ⟨g7,0,none⟩) (ln - 1) c7,dH dN seq]):=lH (by rw [← hwh];exact hb8.set_ 3 _);have HCH:Hid (Blk wh cb 170 (G_ u2 seq c now)):=lH ((HCG.out.keeps hk78 bA).keeps hkh bI);replace HB2:=lH ((HB2.out.keeps hk78 bA).keeps hkh bI);replace HB3:=lH ((HB3.out.keeps hk78 bA).keeps hkh bI);have HFN:Hid (∀WF,Aa [w.heap.size+1+1,w.heap.size+1+1+1] wh WF→CN v r w R (dM (.tuple #[dK #[dI gv.ga n1 gv.gc,dI gv.ua n2 gv.uc,dI gv.fa n3 gv.fc,dI (some ⟨g7,0,none⟩) (ln - 1) c7,dH dN seq],dK #[dH dN u2.slot,dH dN u2.gen,CZ u2.name,dH dN u2.state,dH dN (u2.version+1),dI u2.ra u2.rl u2.rc,dI u2.ca u2.cl u2.cc,dH dN u2.deadline],.nilIface])) WF):=lH fun WF h4=>by
           have hlt:=HBF.out.lt;have hgs:=HGV.out.2.2.2.2.2.2.size;have hkF:Aa [w.heap.size,w.heap.size+1+1,w.heap.size+1+1+1] w8 WF:=(hkh.mono bA).trans (h4.mono bA);have hS:∀y∈[w.heap.size,w.heap.size+1+1,w.heap.size+1+1+1],w.heap.size≤y∧y<wd.heap.size∧y<wf.heap.size∧y<wg.heap.size:=fun y hy=>by simp only [Ac,Ab,or_false] at hy;omega
           have hkW:Aa [] w WF:=(HKG.out.trans hk78).own hkF (fun y hy=>(hS y hy).1);have h1:=HT2.out.slot;have h2:=HT2.out.gen;have hR:=HR6.out;rw [← h1,← h2] at hR;have hB2:=HK1.out.size;have hel:∀ {α:Type} (xs:List α),xs.length=ln→(xs.eraseIdx i).length=ln - 1:=fun xs hx=>by rw [List.length_eraseIdx,if_pos bB,hx]
           refine KH (u:={ u2 with version:=u2.version+1 }) hR ⟨⟨gv,some ⟨g7,0,none⟩,c7,v.lv.eraseIdx i⟩,n1,n2,n3,ln - 1,by rw [HSQ.out],HGV.out.2.2.2.1,HGV.out.2.2.2.2.1,HGV.out.2.2.2.2.2.1,hel _ HLN.out,⟨(HGV.out.2.1.keeps hk78).ge HGV.out.2.2.1 hkF (fun y hy=>(hS y hy).2.2.1),hs8.keepsS hkF (fun g o e hm=>by injection e with e;injection e with e _ _;subst e;have:=hS _ hm;omega),(AC.keeps HM.out.t hkW).eraseIdx i,by rw [hel _ HLN.out];omega,fun t' ht'=>HM.out.small t' (List.mem_of_mem_eraseIdx ht')⟩,fun Q hQ h=>⟨Cp.no HGV.out.2.2.1.1 bN,Cp.no HGV.out.2.2.1.2.1 bN,Cp.no HGV.out.2.2.1.2.2 bN,fun _ g o e hq=>by injection e with e;injection e with e _ _;subst e;have:=hQ _ hq;omega,fun u' hu'=>h.t u' (List.mem_of_mem_eraseIdx hu')⟩⟩ rfl rfl HTF.out.version HTF.out.state hkW
          clear hs8 hk8 hs7 ho7 hk7 hk78 hb8 hkh hbg hg7 hg7l;go_wp2_with (fail);clear hwh b0 y0;have y2:=HB2.out.frozen;have y3:=HB3.out.frozen;have z2:=HB2.out.cell;have z3:=HB3.out.cell;have HSH:Hid (∀A,Aa [w.heap.size+1+1,w.heap.size+1+1+1] wh A→Aa [w.heap.size+1+1,w.heap.size+1+1+1] wh A∧(∀k,A.cell? ⟨w,k,none⟩=(#[dI gv.ga n1 gv.gc,dI gv.ua n2 gv.uc,dI gv.fa n3 gv.fc,dI (some ⟨g7,0,none⟩) (ln - 1) c7,dH dN seq]:Array Value)[k]?)∧(∀k,A.cell? ⟨cb,k,none⟩=((G_ u2 seq c now):Array Value)[k]?)):=lH fun A hk=>⟨hk,(HBH.out.keeps hk bI).cell,(HCH.out.keeps hk bI).cell⟩;refine wp_region_held_drew (S:=(fun A:World=>Aa [w.heap.size+1+1,w.heap.size+1+1+1] wh A∧(∀k,A.cell? ⟨w,k,none⟩=(#[dI gv.ga n1 gv.gc,dI gv.ua n2 gv.uc,dI gv.fa n3 gv.fc,dI (some ⟨g7,0,none⟩) (ln - 1) c7,dH dN seq]:Array Value)[k]?)∧(∀k,A.cell? ⟨cb,k,none⟩=((G_ u2 seq c now):Array Value)[k]?))) bC ZD (fun hHeld=>?_);refine rQ 0 ?_;refine rQ 1 ?_;refine rQ 2 ?_;refine rQ 3 ?_;refine rQ 4 ?_;refine rQ 5 ?_;refine rC 6 fun K hK=>?_;go_simp;refine rO hK ZD fun hHeld=>?_;clear hK K;refine rC 7 fun K hK=>?_;go_simp;refine rO hK ZD fun hHeld=>?_;clear hK K;refine rQ 8 ?_;refine wpAnyH_done bC ?_ _
          (go_wp2_with (fail);exact bodyPost_ret (v:=.tuple #[dK #[dI gv.ga n1 gv.gc,dI gv.ua n2 gv.uc,dI gv.fa n3 gv.fc,dI (some ⟨g7,0,none⟩) (ln - 1) c7,dH dN seq],dK #[dH dN u2.slot,dH dN u2.gen,CZ u2.name,dH dN u2.state,dH dN (u2.version+1),dI u2.ra u2.rl u2.rc,dI u2.ca u2.cl u2.cc,dH dN u2.deadline],.nilIface]) (by simp [results,Tryz.results142,go_sem,z2,z3]) rfl (HFN.out _ hHeld.1))
        ·have f5:(c.verb==5)=false:=by simpa using h5
         have HR6:Hid (R=(⟨r.slots,FD r.l { tx with version:=tx.version+1 },r.seq⟩,{ tx with version:=tx.version+1 },0)):=lH (by rw [hR5,if_neg h5]);clear hR5 h5;go_wp2_with (fail);clear hwf x0 y0;have hvl:v.lv.length=ln:=by rw [AC.len HM.out.t,HLN.out]
         have HSP:Hid (∀A,Aa [w.heap.size+1+1,w.heap.size+1+1+1] wf A→Aa [w.heap.size+1+1,w.heap.size+1+1+1] wf A∧(∀k,A.cell? ⟨w,k,none⟩=((R_ v gn un fn ln seq):Array Value)[k]?)∧(∀k,A.cell? ⟨cb,k,none⟩=((G_ u2 seq c now):Array Value)[k]?)):=lH fun A hk=>⟨hk,(HB0.out.keeps hk bI).cell,(HBF.out.keeps hk bI).cell⟩;have HFN:Hid (∀(w6 WF:World) (a6:Option Addr) (c6:Nat),Aa [] wf w6→AJ BM 8 w6 a6 c6 (CX v.lv { u2 with version:=u2.version+1 })→Cp wf.heap.size a6→Aa [w.heap.size+1+1,w.heap.size+1+1+1] w6 WF→
           CN v r w R (dM (.tuple #[dK #[dI v.s.ga gn v.s.gc,dI v.s.ua un v.s.uc,dI v.s.fa fn v.s.fc,dI a6 (CX v.lv { u2 with version:=u2.version+1 }).length c6,dH dN seq],dK #[dH dN u2.slot,dH dN u2.gen,CZ u2.name,dH dN u2.state,dH dN (u2.version+1),dI u2.ra u2.rl u2.rc,dI u2.ca u2.cl u2.cc,dH dN u2.deadline],.nilIface])) WF):=lH fun w6 WF a6 c6 h1 h2 h3 h4=>by
          have hlt:=HBF.out.lt;have hS:∀y∈[w.heap.size+1+1,w.heap.size+1+1+1],w.heap.size≤y∧y<wd.heap.size∧y<wf.heap.size:=fun y hy=>by simp only [Ac,Ab,or_false] at hy;omega
          have hkF:Aa [w.heap.size+1+1,w.heap.size+1+1+1] wf WF:=(h1.mono bA).trans h4;have hsz:=P8 t c now;rw [HVF.out] at hsz;dsimp only at hsz;have hsu:=HSU.out;obtain⟨q1,q3⟩:=HM.out.put (T:={ tx with version:=tx.version+1 }) (U:={ u2 with version:=u2.version+1 }) (HK1.out.own hkF (fun y hy=>(hS y hy).1)) (h2.keepsS h4 (h3.out (fun y hy=>(hS y hy).2.2))) (HTM.out.src HTF.out HSF.out hkF (fun y hy=>⟨(hS y hy).1,(hS y hy).2.1⟩)) HSM.out.1 ⟨by dsimp only;omega,by dsimp only;omega⟩ r.seq;have hB1:=HK1.out.size;have hHC:=HCL.out;exact KH HR6.out ⟨_,gn,un,fn,_,by rw [HSQ.out],HG.out,HU.out,HF.out,q3,q1,fun Q hQ h=>h.put (h3.no bN) (HSF.out.no (h.t _ (Ex HUI.out)) bN)⟩ HTF.out.slot HTF.out.gen HTF.out.version HTF.out.state (HK1.out.own hkF (fun y hy=>(hS y hy).1))
         refine wp_region_held_drew (S:=(fun A:World=>Aa [w.heap.size+1+1,w.heap.size+1+1+1] wf A∧(∀k,A.cell? ⟨w,k,none⟩=((R_ v gn un fn ln seq):Array Value)[k]?)∧(∀k,A.cell? ⟨cb,k,none⟩=((G_ u2 seq c now):Array Value)[k]?))) bC Zi (fun hHeld=>?_);refine rQ 0 ?_;refine rQ 1 ?_;refine rQ 2 ?_;refine rQ 3 ?_;refine rQ 4 ?_;refine rQ 5 ?_;refine rQ 7 ?_;refine rQ 8 ?_;refine rQ 9 ?_;refine rQ 10 ?_;refine rQ 11 ?_;refine rC 6 fun K hK=>?_;go_simp
         (refine(NB v gn un fn ln hvl (by have:=HSM.out.1;have:=HLN.out;omega) seq { u2 with version:=u2.version+1 } _ (HM.out.l.keeps (HK1.out.own hHeld.1 bF))).mono ?_;rintro e w6 ⟨a6,c6,rfl,hs6,hg6,hk6⟩;have hkw6:Aa [w.heap.size+1+1,w.heap.size+1+1+1] wf w6:=hHeld.1.trans (hk6.mono bA);have hk6':Aa [] wf w6:=((Aa.refl [] wf).drew).trans hk6;have z2:=(HB2.out.keeps hk6' bA).cell;have z3:=(HB3.out.keeps hk6' bA).cell;have y2:=(HB2.out.keeps hk6' bA).frozen;have y3:=(HB3.out.keeps hk6' bA).frozen)
         refine rO hK Zi fun hHeld=>?_;clear hK K;refine rC 12 fun K hK=>?_;go_simp;refine rO hK Zi fun hHeld=>?_;clear hK K;refine rC 13 fun K hK=>?_;go_simp;refine rO hK Zi fun hHeld=>?_;clear hK K;refine rQ 14 ?_;refine wpAnyH_done bC ?_ _
         (go_wp2_with (fail);exact bodyPost_ret (v:=.tuple #[dK #[dI v.s.ga gn v.s.gc,dI v.s.ua un v.s.uc,dI v.s.fa fn v.s.fc,dI a6 (CX v.lv { u2 with version:=u2.version+1 }).length c6,dH dN seq],dK #[dH dN u2.slot,dH dN u2.gen,CZ u2.name,dH dN u2.state,dH dN (u2.version+1),dI u2.ra u2.rl u2.rc,dI u2.ca u2.cl u2.cc,dH dN u2.deadline],.nilIface]) (by simp [results,Tryz.results142,go_sem,z2,z3]) rfl (HFN.out w6 _ a6 c6 hk6' hs6 hg6 bJ))
      ·simp only [Fa,if_neg he]
       have HRE:Hid (R.2.2=er):=lH (by rw [HR3.out,if_pos he]);clear hcb;go_wp2_with (fail);exact bodyPost_ret (v:=.tuple #[dK (R_ v gn un fn ln seq),.agg Mr.k,.iface 239 (dK #[dH dN er])]) (by simp [results,Tryz.results142,go_sem,z2,z3]) rfl (Gu HRE.out he HK1.out (S:=[w.heap.size+1+1,w.heap.size+1+1+1]) bJ bF)
end
section
open Go.RowKit Go.Shelf
attribute [local go_sem] Oper.semAt_some N5 N6 N3 N4
attribute [local go_sem ↓] Go.wp_at_zero Go.wp_at_succ
theorem O4(v:Bm)(r:CE)(gn un fn ln:Nat)(hg:r.slots.gens.length=gn)(hu:r.slots.used.length=un)(hf:r.slots.free.length=fn)(hln:r.l.length=ln)(seq:Int)(hsq:r.seq=seq)(c:FF)(now:Int)
 (hsm:r.l.length≤900)(w:World)(hEt:Et w)(h:Co w v r):
  Calls Tryz.prog 141 #[dK (R_ v gn un fn ln seq),dK (K_ c),dH dN now] w (CN v r w (Fn r c now)):=by
 obtain⟨wz,hwz⟩:=eX ((((w.alloc (.cells (R_ v gn un fn ln seq) 29)).alloc (.cells (K_ c) 61)).alloc (.cells LU.k 29)).alloc (.cells Mr.k 124));have hz:Aa [] w wz:=by rw [← hwz];exact((((Aa.refl [] w).alloc _).alloc _).alloc _).alloc _
 have HB0:Hid (Blk wz w.heap.size 29 (R_ v gn un fn ln seq)):=lH ZQ;have HB1:Hid (Blk wz (w.heap.size+1) 61 (K_ c)):=lH ZP;have HB2:Hid (Blk wz (w.heap.size+1+1) 29 LU.k):=lH Y6;have HB3:Hid (Blk wz (w.heap.size+1+1+1) 124 Mr.k):=lH Xe;have HSZ:Hid (wz.heap.size=w.heap.size+4):=lH X4;have rb0:=HB0.out.rl;have rb1:=HB1.out.rl;have rb2:=HB2.out.rl;have rb3:=HB3.out.rl;have HPL:=lH (fun W (hk:Aa [] wz W)=>MK v r gn un fn ln Zy (by have:=h.sl;omega) seq hsq c.name W (h.l.keeps (hz.trans hk)) (h.t.keeps (hz.trans hk)));have HM:=lH h;have HG:=lH hg;have HU:=lH hu;have HF:=lH hf;have HLN:=lH hln;have HSQ:=lH hsq;have HZ:=lH hz;have HSM:=lH hsm;have HET:=lH hEt;obtain⟨R,hR⟩:=eX (Fn r c now);rw [hR];have HR:=lH hR;clear hg hu hf hln hsq hz h hsm hEt hR;obtain⟨bn,hbn⟩:=eX (GG c.name);have HBN:=lH hbn;go_enter Tryz.func141,Tryz.ntmps141;go_wp2_with (fail);clear hwz;refine(Lb c.name bn HBN.out wz).mono ?_;rintro e w1 ⟨rfl,hk1⟩;have r1:=hk1.rl;have HK1:=lH (HZ.out.trans hk1);have hR:=HR.out;unfold Fn at hR;rw [hbn] at hR;clear hbn;cases bn with
 | false=>
  have HR2:Hid (R.2.2=152):=lH (by rw [← hR];rfl);clear hR;go_wp2_with (fail);exact bodyPost_ret (v:=.tuple #[dK (R_ v gn un fn ln seq),.agg Mr.k,.iface 239 (dK #[dH dN 152])]) (by simp [results,Tryz.results141,go_sem,rb2,rb3,r1]) rfl (Gu HR2.out bE HK1.out (S:=[w.heap.size+1+1,w.heap.size+1+1+1]) bJ bF)
 | true=>
  rw [if_pos rfl] at hR;go_wp2_with (fail);refine(HPL.out w1 hk1).mono ?_;rintro e w2 ⟨rfl,hk2⟩;have hkz2:=hk1.trans hk2;clear r1;have r2:=hkz2.rl;have HK2:=lH (HK1.out.trans hk2);cases hp:BO r.l c.name with
  | some i=>
   rw [hp] at hR;have HR2:Hid (R.2.2=153):=lH (by rw [← hR]);clear hR hp;simp only [Option.isSome_some,Option.getD_some];go_wp2_with (fail);exact bodyPost_ret (v:=.tuple #[dK (R_ v gn un fn ln seq),.agg Mr.k,.iface 239 (dK #[dH dN 153])]) (by simp [results,Tryz.results141,go_sem,rb2,rb3,r2]) rfl (Gu HR2.out bE HK2.out (S:=[w.heap.size+1+1,w.heap.size+1+1+1]) bJ bF)
  | none=>
   rw [hp] at hR;dsimp only at hR;have HR3:=lH hR;clear hR hp;simp only [Option.isSome_none,Option.getD_none];go_wp2_with (fail);refine(TA v.s r.slots gn un fn HG.out HU.out HF.out w2 (HM.out.s.keeps HK2.out)).mono ?_;rintro e w3 ⟨x3,rfl,⟨tv,n1,n2,n3,rfl,l1,l2,l3,hsm3,hsg3⟩,hk3⟩;have hkz3:=hkz2.trans hk3;clear r2;have r3:=hkz3.rl;have HK3:=lH (HK2.out.trans hk3);obtain⟨⟨s',hd,er⟩,htk⟩:∃t,AO r.slots=t:=⟨_,rfl⟩;rw [htk] at l1 l2 l3 hsm3 ⊢;have hR:=HR3.out;rw [htk] at hR;dsimp only at hR l1 l2 l3 hsm3 ⊢;obtain⟨wa,hwa⟩:=eX ((w3.alloc (.cells (S_ tv n1 n2 n3) 26)).alloc (.cells #[dH dN hd.1,dH dN hd.2] 72));have hka:Aa [] w3 wa:=by rw [← hwa];exact((Aa.refl [] w3).alloc _).alloc _
   have hkza:=hkz3.trans hka;clear r3;have ra:=hkza.rl;have rs0:=Blk.rl (show Blk wa w3.heap.size 26 (S_ tv n1 n2 n3) by rw [← hwa];exact(Blk.new w3 _ _).alloc _);have rs1:=Blk.rl (show Blk wa (w3.heap.size+1) 72 #[dH dN hd.1,dH dN hd.2] by rw [← hwa];exact Aq _ _ _ _ bA);have HKA:=lH (HK3.out.trans hka);by_cases he:er=0
   ·subst he
    rw [if_neg bA] at hR;have HR4:=lH hR;have HS:=lH (hsm3.keeps hka);have HSG:=lH hsg3;clear hR hsm3 hsg3 HR3 htk;go_wp2_with (fail);clear hwa;refine(K1 none 0 [] 0 rfl bB c.key now 0 c.n wa (HET.out.keeps HKA.out bA) (AT (A4 w _ HET.out) HKA.out.size) AJ.none_).mono ?_;rintro e w5 ⟨x5,rfl,⟨a5,c5,rfl,hcs5,hge5⟩,hk5⟩;obtain⟨⟨l,id,er⟩,hro⟩:∃t,AN [] c.key now 0 c.n=t:=⟨_,rfl⟩;have hR:=HR4.out;rw [hro] at hR hcs5 ⊢;dsimp only at hR hcs5 ⊢;by_cases he:er=0
    ·subst he
     rw [if_neg bA] at hR;have HR5:=lH hR;have hkz5:=hkza.trans hk5;have HK5:=lH (HKA.out.trans hk5);obtain⟨wb,hwb⟩:=eX ((((w5.setCell ⟨w,0,none⟩ (dI tv.ga n1 tv.gc)).setCell ⟨w,1,none⟩ (dI tv.ua n2 tv.uc)).setCell ⟨w,2,none⟩ (dI tv.fa n3 tv.fc)).alloc (.cells #[dH dN hd.1,dH dN hd.2,CZ c.name,dH dN 1,dH dN 1,dI none 0 0,dI a5 l.length c5,dH dN 0] 124));have hkb:Aa [w.heap.size] w5 wb:=by rw [← hwb];exact(F1 _ _ _ _ _).alloc _
     have hb0:Blk wb w.heap.size 29 #[dI tv.ga n1 tv.gc,dI tv.ua n2 tv.uc,dI tv.fa n3 tv.fc,dI v.la ln v.lc,dH dN seq]:=by rw [← hwb];exact((((HB0.out.keeps hkz5 bA).set_ 0 _).set_ 1 _).set_ 2 _).alloc _
     have hlt:=(HB0.out.keeps hkz5 bA).lt;have hb1:Blk wb w5.heap.size 124 #[dH dN hd.1,dH dN hd.2,CZ c.name,dH dN 1,dH dN 1,dI none 0 0,dI a5 l.length c5,dH dN 0]:=by rw [← hwb];simpa [World.setCell] using Blk.new (((w5.setCell ⟨w,0,none⟩ (dI tv.ga n1 tv.gc)).setCell ⟨w,1,none⟩ (dI tv.ua n2 tv.uc)).setCell ⟨w,2,none⟩ (dI tv.fa n3 tv.fc)) 124 #[dH dN hd.1,dH dN hd.2,CZ c.name,dH dN 1,dH dN 1,dI none 0 0,dI a5 l.length c5,dH dN 0]
     have HB2:=lH ((HB2.out.keeps hkz5 bA).keeps hkb bI);have HB3:=lH ((HB3.out.keeps hkz5 bA).keeps hkb bI);have hs3:=hk3.size;have HSW:Hid (Dp wb tv s'):=lH ((HS.out.keeps hk5).ge HSG.out hkb (by intro y hy;have h1:=hkz2.size;have h2:=HSZ.out;simp only [Ac,Ab,or_false] at hy;omega));have HCW:Hid (ID wb a5 c5 l):=lH (hcs5.keepsS hkb (fun g o e hm=>by have h1:=hge5 g o e;have h2:=hkza.size;have h3:=HSZ.out;simp only [Ac,Ab,or_false] at hm;omega));have HKB:=lH (HK5.out.own hkb bF);have HGS:Hid (GV (w.heap.size+4) tv∧Cp (w.heap.size+4) a5):=lH ⟨HSG.out.mono (by have:=hkz2.size;have:=HSZ.out;omega),fun g o e=>As (by have:=hkza.size;have:=HSZ.out;omega) (hge5 g o e)⟩;have HBL:Hid (w.heap.size+4≤w5.heap.size∧w5.heap.size<wb.heap.size):=lH ⟨by have h2:=hkz5.size;have h3:=HSZ.out;omega,hb1.lt⟩;have hvl:v.lv.length=ln:=by rw [AC.len HM.out.t,HLN.out]
     have HCL:Hid (l.length≤1):=lH (by have:=Kc [] c.key now 0 c.n;rw [hro] at this;exact this);have r5:=(hkza.trans hk5).rl;have r5':=hk5.rl;clear hR hro ra HR4 hk5 HS HSG hcs5 hge5 hs3 hkz5 hka hkz3 hkz2 hk3 hk2 hk1 hkza;go_wp2_with (fail);clear hwb r5 r5' rb0 rb1 rb2 rb3 rs0 rs1;have e1:¬w5.heap.size=w.heap.size+1+1:=by have:=HBL.out;omega
     have e2:¬w5.heap.size=w.heap.size+1+1+1:=by have:=HBL.out;omega
     have q0:=hb0.rl;have q1:=hb1.rl;have HPUT:Hid (∀W,Aa [] w W→Calls Tryz.prog 81 #[dK #[dI tv.ga n1 tv.gc,dI tv.ua n2 tv.uc,dI tv.fa n3 tv.fc,dI v.la ln v.lc,dH dN seq],dK #[dH dN hd.1,dH dN hd.2,CZ c.name,dH dN 1,dH dN 1,dI none 0 0,dI a5 l.length c5,dH dN 0]] W fun e w'=>∃a k,e = dM (dK #[dI tv.ga n1 tv.gc,dI tv.ua n2 tv.uc,dI tv.fa n3 tv.fc,dI a (CX v.lv ⟨hd.1,hd.2,c.name,1,1,none,0,0,a5,l.length,c5,0⟩).length k,dH dN seq])∧AJ BM 8 w' a k (CX v.lv ⟨hd.1,hd.2,c.name,1,1,none,0,0,a5,l.length,c5,0⟩)∧Cp W.heap.size a∧Aa [] W w'):=lH fun W hk=>
      NB { v with s:=tv } n1 n2 n3 ln hvl (by have:=HSM.out;have:=HLN.out;omega) seq ⟨hd.1,hd.2,c.name,1,1,none,0,0,a5,l.length,c5,0⟩ W (HM.out.l.keeps hk)
     have HFN:Hid (∀(w6 WF:World) (a6:Option Addr) (c6:Nat),Aa [] wb w6→AJ BM 8 w6 a6 c6 (CX v.lv ⟨hd.1,hd.2,c.name,1,1,none,0,0,a5,l.length,c5,0⟩)→Cp wb.heap.size a6→Aa [w.heap.size+1+1,w.heap.size+1+1+1] w6 WF→
       CN v r w R (dM (.tuple #[dK #[dI tv.ga n1 tv.gc,dI tv.ua n2 tv.uc,dI tv.fa n3 tv.fc,dI a6 (CX v.lv ⟨hd.1,hd.2,c.name,1,1,none,0,0,a5,l.length,c5,0⟩).length c6,dH dN seq],dK #[dH dN hd.1,dH dN hd.2,CZ c.name,dH dN 1,dH dN 1,dI none 0 0,dI a5 l.length c5,dH dN 0],.nilIface])) WF):=lH fun w6 WF a6 c6 h1 h2 h3 h4=>by
      have hbl:=HBL.out;have hS:∀y∈[w.heap.size+1+1,w.heap.size+1+1+1],w.heap.size≤y∧y<w.heap.size+4∧y<wb.heap.size:=fun y hy=>by simp only [Ac,Ab,or_false] at hy;omega
      have hkF:Aa [w.heap.size+1+1,w.heap.size+1+1+1] wb WF:=(h1.mono bA).trans h4;have hkW:Aa [] w WF:=HKB.out.own hkF (fun y hy=>(hS y hy).1);have hM:Co WF { v with s:=tv } ⟨s',r.l,r.seq⟩:={ HM.out.keeps hkW with s:=HSW.out.ge HGS.out.1 hkF (fun y hy=>(hS y hy).2.1) };have hT:BU WF ⟨hd.1,hd.2,c.name,1,1,none,0,0,a5,l.length,c5,0⟩ ⟨hd.1,hd.2,c.name,1,1,[],l,0⟩:=⟨rfl,rfl,rfl,rfl,rfl,rfl,rfl,rfl,AJ.none_,HCW.out.keepsS hkF (HGS.out.2.out (fun y hy=>(hS y hy).2.1))⟩;obtain⟨q1,q3⟩:=hM.put (T:=⟨hd.1,hd.2,c.name,1,1,[],l,0⟩) (U:=⟨hd.1,hd.2,c.name,1,1,none,0,0,a5,l.length,c5,0⟩) (Aa.refl [] WF) (h2.keepsS h4 (h3.out (fun y hy=>(hS y hy).2.2))) hT HSM.out ⟨by simp,by have:=HCL.out;dsimp only;omega⟩ r.seq;have hWB:=HKB.out.size;exact KH (u:=⟨hd.1,hd.2,c.name,1,1,none,0,0,a5,l.length,c5,0⟩) HR5.out.symm ⟨_,n1,n2,n3,_,by rw [HSQ.out],l1,l2,l3,q3,q1,fun Q hQ h=>CK.put (v:={ v with s:=tv }) (r:=⟨s',r.l,r.seq⟩) ⟨Cp.no HGS.out.1.1 bN,Cp.no HGS.out.1.2.1 bN,Cp.no HGS.out.1.2.2 bN,h.l,h.t⟩ (h3.no bN) ⟨(Cp.none_ (w.heap.size+4)).no bN,HGS.out.2.no bN⟩⟩ rfl rfl rfl rfl hkW
     refine wp_region_held_drew (S:=(Aa [w.heap.size+1+1,w.heap.size+1+1+1] wb)) bC Xc (fun hHeld=>?_);refine rK 0 ?_;refine rK 1 ?_;refine rK 3 ?_;refine rC 2 fun K hK=>?_;go_simp
     (refine(HPUT.out _ (HKB.out.own hHeld bF)).mono ?_;rintro e w6 ⟨a6,c6,rfl,hs6,hg6,hk6⟩;have hkw6:Aa [w.heap.size+1+1,w.heap.size+1+1+1] wb w6:=hHeld.trans (hk6.mono bA);have hk6':Aa [] wb w6:=((Aa.refl [] wb).drew).trans hk6;have z2:=(HB2.out.keeps hk6' bA).rl;have z3:=(HB3.out.keeps hk6' bA).rl)
     (try clear rH);refine rP hK Xc fun rH hHeld=>?_;clear hK K
     refine rC 4 fun K hK=>?_;go_simp
     (try clear rH);refine rP hK Xc fun rH hHeld=>?_;clear hK K
     refine rC 5 fun K hK=>?_;go_simp
     (try clear rH);refine rP hK Xc fun rH hHeld=>?_;clear hK K
     refine rK 6 ?_;refine wpAnyH_done bC ?_ _
     (go_wp2_with (fail);exact bodyPost_ret (v:=.tuple #[dK #[dI tv.ga n1 tv.gc,dI tv.ua n2 tv.uc,dI tv.fa n3 tv.fc,dI a6 (CX v.lv ⟨hd.1,hd.2,c.name,1,1,none,0,0,a5,l.length,c5,0⟩).length c6,dH dN seq],dK #[dH dN hd.1,dH dN hd.2,CZ c.name,dH dN 1,dH dN 1,dI none 0 0,dI a5 l.length c5,dH dN 0],.nilIface]) (by simp [results,Tryz.results141,go_sem,z2,z3]) rfl (HFN.out w6 _ a6 c6 hk6' hs6 hg6 bJ))
    ·have HR2:Hid (R.2.2=er):=lH (by rw [← hR,if_pos he])
     have f1:(er != 0)=true:=by simpa using he
     have r5:=(hkza.trans hk5).rl;have r5':=hk5.rl;clear hR hcs5 hge5 HR4 hro ra;go_wp2_with (fail);exact bodyPost_ret (v:=.tuple #[dK (R_ v gn un fn ln seq),.agg Mr.k,.iface 239 (dK #[dH dN er])]) (by simp [results,Tryz.results141,go_sem,rb2,rb3,r5]) rfl (Gu HR2.out he (HKA.out.trans hk5) (S:=[w.heap.size+1+1,w.heap.size+1+1+1]) bJ bF)
   ·have HR2:Hid (R.2.2=er):=lH (by rw [← hR,if_pos he])
    have f1:(er != 0)=true:=by simpa using he
    clear hR hsm3 hsg3 HR3 htk;go_wp2_with (fail);exact bodyPost_ret (v:=.tuple #[dK (R_ v gn un fn ln seq),.agg Mr.k,.iface 239 (dK #[dH dN er])]) (by simp [results,Tryz.results141,go_sem,rb2,rb3,ra]) rfl (Gu HR2.out he HKA.out (S:=[w.heap.size+1+1,w.heap.size+1+1+1]) bJ bF)
end
end Go.Proofs.YtcjdkbgdahgjbaaGreatDoor
