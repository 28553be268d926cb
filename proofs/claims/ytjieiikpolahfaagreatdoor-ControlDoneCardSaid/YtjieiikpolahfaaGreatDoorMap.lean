/- Steps. -/
import Derived.Test.YtjieiikpolahfaaGreatDoorMal
import Derived.Test.YtjieiikpolahfaaGreatDoorMao
set_option maxRecDepth 100000
set_option maxHeartbeats 8000000
set_option linter.all false
namespace Go.Proofs.YtjieiikpolahfaaGreatDoor
open Tryz
open _root_.Go renaming undef→UD
open _root_.And renaming intro→Bl
open _root_.Array renaming getElem?_eq_some_iff→Ai,getElem?_setIfInBounds→Bj,getElem?_toList→qD,length_toList→BX,replicate_succ→Bt,replicate_zero→Bu
open _root_.Bool renaming and_assoc→EJ,and_eq_true→Af,eq_iff_iff→DI,false_and→Ep
open Builtin renaming append_→BI
open Ending renaming returned→pJ
open Exit renaming noGoto_normal→AY
open Fence renaming wide→Bx
open Instr renaming findNow→B0,lookup→Ed,slice→AV,typeAssert→Dr
open IntKind renaming i64→pK
open Lib renaming toList_data→C9
open _root_.List renaming append_assoc→CC,append_toArray→BD,cons_append→AL,findIdx?_eq_some_iff_getElem→Dx,forall_mem_cons→AF,getD_eq_getElem?_getD→AO,getElem?_cons_succ→Ao,getElem?_cons_zero→Aj,getElem?_eq_getElem→Aq,getElem?_eq_some_iff→Ad,getElem?_take→Dh,getElem?_toArray→An,length_append→Al,length_cons→Av,length_drop→B1,length_map→Bd,length_nil→D4,length_range→AP,length_singleton→Bp,length_take→Ax,map_append→pO,map_cons→CR,mem_append→AQ,mem_cons_of_mem→Ca,mem_cons→Ac,mem_map→BO,mem_singleton→Ag,nil_append→BH,not_mem_nil→Ab,push_toArray→Cd,range_succ→B3,range→AC,setIfInBounds_toArray→Ap,set_cons_succ→AB,set_cons_zero→AA,size_toArray→Cz,take_append_drop→Dn,take_of_length_le→Ak,take_succ_eq_append_getElem→BJ
open _root_.Nat renaming add_zero→AT,le_refl→Aw,le_trans→A8,lt_of_lt_of_le→BS,lt_or_ge→pP,mul_one→pR,reduceAdd→pL,reduceSub→pM,zero_add→AW,zero_le→Ba
open Oper renaming semAt_some→pN
open Result renaming andThen→Bg
open Value renaming agg→pH,bool→pI,int→pE,ownBlock→EZ,pointer→pG,slice→pF,string→Dz
open World renaming block_lt_of_cell?→Be,ownsRow_nil→BQ,setRow_alloc_new→pQ,size_alloc→Eo
section
open Go.RowKit Go.Shelf
attribute [local go_sem] pN Lr Ls Lp Lq
attribute [local go_sem ↓] wp_at_zero wp_at_succ
def Vo(w:World):Prop:=(∃ev,w.cell? ⟨4,0,none⟩=some ev/\(ev = .nilIface\/∃te pe,ev = .iface te pe))/\(∃ev,w.cell? ⟨5,0,none⟩=some ev/\(ev = .nilIface\/∃te pe,ev = .iface te pe))
theorem Vo.keeps{w w':World}(h:Vo w)(hk:Aa [] w w'):Vo w':=by
 obtain⟨⟨e,h1,h2⟩,⟨f,h3,h4⟩⟩:=h;exact⟨⟨e,(hk.cell (p:=A_ 4 0) (Be w _ h1) bA).trans h1,h2⟩,⟨f,(hk.cell (p:=A_ 5 0) (Be w _ h3) bA).trans h3,h4⟩⟩
structure Vn(E:Nat→Addr)(w:World):Prop where
 a:Vm E w
 es:Vo w
theorem Vn.keeps{E:Nat->Addr}{w w':World}(h:Vn E w)(hk:Aa [] w w'):Vn E w':=⟨h.a.keeps hk,h.es.keeps hk⟩
theorem XL(s:ByteArray)(hs:s.size<=1000)(w:World)(D:Vo w):Calls prog 93 #[Dz s] w fun e w'=>∃n ev,e = pJ (.tuple #[pE pK n,ev])/\((Lib.atoiAll s.data.toList = .ok n/\ev = .nilIface)\/((∀m,Lib.atoiAll s.data.toList≠.ok m)/\∃t p,ev = .iface t p))/\Aa [] w w':=by
 obtain⟨⟨ev,h1,h2⟩,⟨B,h3,h4⟩⟩:=D;cases hR:Lib.atoiAll s.data.toList with
 | ok v=>
  refine(strconv_Atoi_ok s bB v hR w).mono ?_;rintro e w' ⟨rfl,h⟩;refine⟨v,.nilIface,rfl,.inl ⟨rfl,rfl⟩,?_⟩;rcases h with rfl | ⟨t,rfl⟩
  ·exact Aa.refl [] _
  ·exact Aa.of_below (Joins.below_bytesWorld w w 5 t (Aw _)) []
 | range=>
  refine(strconv_Atoi_range s bB hR B w h3 h4).mono ?_;rintro e w' ⟨N,rfl,_,_,hb⟩;exact⟨_,_,rfl,.inr ⟨(fun m h=>by cases h),_,_,rfl⟩,Aa.of_below hb []⟩
 | _=>
  refine(strconv_Atoi_syntax s bB hR ev w h1 h2).mono ?_;rintro e w' ⟨N,rfl,_,_,hb⟩;exact⟨_,_,rfl,.inr ⟨(fun m h=>by cases h),_,_,rfl⟩,Aa.of_below hb []⟩
def Mz(q:QK)(l e:Value):Array Value:=#[Dz q.who,pE pK q.id,pE pK q.com.verb,Dz q.com.name,pE pK q.com.want,pE pK q.com.at_,pI q.com.rule.allow,pE pK q.com.rule.addr,pE pK q.com.rule.bits,pE pK q.com.rule.from_,pE pK q.com.rule.to_,Dz q.com.key,pE pK q.com.n,pE pK q.com.m,pE pK q.count,pE pK q.cursor,pE pK q.from_,l,e]
def Ii(b:Bool):Value:=if b then .iface 97 (pH #[pE pK 193]) else .nilIface
def CB(w:World)(rb:Nat)(p:Pr):Prop:=∃a c,Blk w rb 119 (Mz p.q (pF a p.l.length c) (Ii p.bad))/\Kv w a c p.l/\(0<p.l.length->∀g o,a=some ⟨g,o,none⟩->g≠rb)/\(∀s∈p.l,s.size<=64/\IZ s.data.toList)
theorem M5:Lu prog 64 9 1 (Dz ⟨#[]⟩):=⟨by kernel_rfl,by kernel_rfl,by kernel_rfl,fun W=>by kernel_rfl,fun W=>by kernel_rfl,by kernel_rfl,by intro u hu;simp [Value.cells] at hu;subst hu;rfl⟩
theorem FD(rb:Nat)(p:Pr)(w:World)(h:CB w rb p):Calls prog 41 #[pG (some (A_ rb 0))] w fun e w'=>e = pJ (Dz p.next.1)/\CB w' rb p.next.2/\Aa [rb] w w':=by
 obtain⟨a,c,hb,hl,hne,hg⟩:=h;have q:=hb.rl;simp only [Mz] at q;cases hp:p.l with
 | nil=>
  have HN:Hi (p.next=(⟨#[]⟩,{ p with bad:=true })):=lH (by unfold Pr.next;rw [hp]);rw [hp] at q;have N:Hi (CB (w.setCell (A_ rb 18) (Ii true)) rb { p with bad:=true }):=lH ⟨a,c,hb.set_ 18 _,hl.keepsN (Ae w rb 18 _) (fun h0 g o e=>by simpa using hne h0 g o e),hne,hg⟩;have HK:=lH (Ae w rb 18 (Ii true));simp only [Ii,if_true] at N HK;clear hb hl hne hg;go_enter func41,ntmps41;go_wp2_with fail;go_ret;exact⟨by rw [HN.o];rfl,by rw [HN.o];exact N.o,HK.o⟩
 | cons s l=>
  have HN:Hi (p.next=(s,{ p with l:=l })):=lH (by unfold Pr.next;rw [hp]);rw [hp] at hl hg q hb;obtain⟨g,off,rfl,hlt,U⟩:=hl.at_ bA;have X:=U 0 bA 0 (Dz s) rfl;simp only [Nat.zero_mul,AT] at X;obtain⟨M,O,D,G⟩:=AR.drop_run M5 (fun W=>by kernel_rfl) hl 1 bA;obtain⟨n,hn⟩:=eX l.length;rw [show(s::l).length=n+1 by rw [Av,hn]] at D q hb;rw [show n+1 - 1=n by omega] at D;have F:∀W,(AV 64 (pF (some (A_ g off)) (n+1) c) (some (I_ 1)) none none).run prog W = .ok (pF M n O) W:=D;have E:∀T o,M=some (A_ T o)->T≠rb:=by
   intro T o e;have B:=run_slice_l (P:=prog) w 64 (some (A_ g off)) (n+1) c M5.ht' .i64 1 bB bB;rw [F w,M5.el,M5.sz] at B;simp only [sliced,Bg] at B;injection B with B
   injection B with B
   rw [e] at B;have J:=hne (by rw [hp];simp) g off rfl;split at B
   ·injection B with B;injection B with B;rw [B];exact J
   ·simp only [Option.map_some,BR] at B
    injection B with B;injection B with B;rw [B];exact J
  have N:Hi (CB (w.setCell (A_ rb 17) (pF M n O)) rb { p with l:=l }):=lH ⟨M,O,by rw [hn];exact hb.set_ 17 _,G.keepsN (Ae w rb 17 _) (fun _ g o e=>by simpa using E g o e),fun _=>E,fun x hx=>hg x (Ca _ hx)⟩;have HK:=lH (Ae w rb 17 (pF M n O));have i1:(((n+1:Nat):Int)==0)=false:=by simp;omega
  have i2:(0:Int)<((n+1:Nat):Int):=bB;clear hb hl hne hg U G E D hlt hn;go_enter func41,ntmps41;go_wp2_with fail;go_ret;exact⟨by rw [HN.o];rfl,by rw [HN.o];exact N.o,HK.o⟩
theorem aU{l:List UInt8}{n:Int}(h:Lib.atoiAll l = .ok n): -9223372036854775808<=n/\n<=9223372036854775807:=by
 unfold Lib.atoiAll at h;split at h
 ·cases h
 ·simp only [] at h
  split at h
  ·cases h
  ·cases h
  ·rename_i u hu
   split at h
   ·cases h
   ·split at h
    ·cases h
    ·injection h with h
     subst h;split<;>omega
structure Bs(E:Nat→Addr)(v w:World)(rb:Nat):Prop where
 kw:Aa [] v w
 ge:v.heap.size≤rb
 env:Vn E v
theorem Bs.go{E:Nat->Addr}{v w w':World}{rb:Nat}(h:Bs E v w rb)(hk:Aa [rb] w w'):Bs E v w' rb:=⟨h.kw.own hk (fun y hy=>by simp only [Ac,Ab,or_false] at hy;have:=h.ge;omega),h.ge,h.env⟩
theorem Bs.en{E:Nat->Addr}{v w:World}{rb:Nat}(h:Bs E v w rb):Vn E w:=h.env.keeps h.kw
theorem CB.keep{w w':World}{B:Nat}{p:Pr}(h:CB w B p)(hk:Aa [] w w'):CB w' B p:=by
 obtain⟨a,c,h1,h2,h3,h4⟩:=h;exact⟨a,c,h1.keeps hk bA,h2.keeps hk,h3,h4⟩
theorem Ph{w:World}{B:Nat}{p:Pr}(h:CB w B p):p.next.1.size<=64/\IZ p.next.1.data.toList:=by
 obtain⟨a,c,_,_,_,h4⟩:=h;unfold Pr.next;cases hp:p.l with
 | nil=>exact⟨by show(0:Nat)<=64;omega,by show IZ [];exact⟨by simp,rfl⟩⟩
 | cons s l=>exact h4 s (by rw [hp];simp)
theorem CB.bad{w:World}{B:Nat}{p:Pr}(h:CB w B p):CB (w.setCell (A_ B 18) (Ii true)) B { p with bad:=true }:=by
 obtain⟨a,c,hb,hl,hne,hg⟩:=h;exact⟨a,c,hb.set_ 18 _,hl.keepsN (Ae w B 18 _) (fun h0 g o e=>by simpa using hne h0 g o e),hne,hg⟩
theorem CB.rl{w:World}{B:Nat}{p:Pr}(h:CB w B p):∃a c,(∀i,w.cell? (A_ B i)=(Mz p.q (pF a p.l.length c) (Ii p.bad))[i]?)/\(∀i,w.frozen? (A_ B i)=false)/\B<w.heap.size:=by
 obtain⟨a,c,hb,_⟩:=h;exact⟨a,c,hb.rl⟩
theorem GP(E:Nat->Addr)(v:World)(M:Nat)(p:Pr)(least B:Int)(w:World)(hB:Bs E v w M)(h:CB w M p):Calls prog 42 #[pG (some (A_ M 0)),I_ least,I_ B] w fun e w'=>e = pJ (I_ (p.number least B).1)/\CB w' M (p.number least B).2/\Aa [M] w w':=by
 have N:=FD M p w h;have hgd:=Ph h;obtain⟨s,p2,hp⟩:∃s p2,p.next=(s,p2):=⟨_,_,rfl⟩;obtain⟨V,hV⟩:=eX (p.number least B);rw [hV];unfold Pr.number at hV;rw [hp] at N hgd hV;simp only [] at N hgd hV;have HB:=lH hB;obtain⟨R,hR⟩:=eX (Ny s least B);rw [hR] at hV;have HV:=lH hV;have HR:=lH hR;clear hp h hB hV hR;go_enter func42,ntmps42;go_wp2_with fail
 with_reducible refine N.mono ?_
 rintro e w1 ⟨rfl,ab,hk1⟩;have HB1:=lH (HB.o.go hk1);have ac:=XL s bB w1 HB1.o.en.es;have HK1:=lH hk1;have ad:=lH ab;clear hk1 ab;go_wp2_with fail
 with_reducible refine ac.mono ?_
 rintro e w2 ⟨n,ev,rfl,hn,hk2⟩;have HB2:=lH (HB1.o.go (hk2.mono bA));have HK2:=lH (HK1.o.trans (hk2.mono bA));have O:=lH (ad.o.keep hk2);clear hk2;obtain⟨a,c,q⟩:=O.o.rl;simp only [Mz] at q;have F:=O.o.bad;have J:=HK2.o.trans (Ae w2 M 18 (Ii true));simp only [Ii,if_true] at F J;have F:=lH F;have J:=lH J;rcases hn with⟨T,rfl⟩ | ⟨hno,t,q2,rfl⟩
 ·have aa:=aU T
  have U:=G4 n aa.1 aa.2 w2 HB2.o.en.a.tab;obtain⟨x,hx⟩:=eX (pX n);rw [hx] at U;obtain⟨d,hd⟩:=eX ((x.toList==s.toList));have HD:Hi (decide (str (itoaL n)=s)=d):=lH (by
   rw [<- hd,<- hx,C9,C9,DI,decide_eq_true_iff,beq_iff_eq];constructor
   ·intro h;rw [<- h];rfl
   ·intro h;apply ByteArray.ext;show(itoaL n).toArray=s.data;rw [<- E7 (itoaL n)];rw [show(str (itoaL n)).data.toList=s.data.toList from h])
  have Y:=lH T;clear T hx;go_wp2_with fail
  with_reducible refine U.mono ?_
  rintro e w3 ⟨rfl,hk3⟩;have X:=lH (HK2.o.trans (hk3.mono bA));have HR3:=lH (O.o.keep hk3);obtain⟨a3,c3,q3⟩:=HR3.o.rl;simp only [Mz] at q3;have D:=HR3.o.bad;have G:=X.o.trans (Ae w3 M 18 (Ii true));simp only [Ii,if_true] at D G;have D:=lH D;have G:=lH G;clear hk3 q F J;by_cases hgood:d=true/\least<=n/\n<=B
  ·obtain⟨rfl,h1,h2⟩:=hgood
   have HN:Hi (V=(n,p2)):=lH (by
    have:R=some n:=by
     rw [<- HR.o];unfold Ny;rw [Y.o];simp only [];rw [if_pos ⟨of_decide_eq_true HD.o,h1,h2⟩]
    rw [<- HV.o,this])
   have f1:¬n<least:=bB;have f2:¬B<n:=bB;clear h1 h2;go_wp2_with fail;go_ret;exact⟨by rw [HN.o];rfl,by rw [HN.o];exact HR3.o,X.o⟩
  ·have HN:Hi (V=(0,{ p2 with bad:=true })):=lH (by
    have:R=none:=by
     rw [<- HR.o];unfold Ny;rw [Y.o];simp only [];rw [if_neg];rintro⟨h1,h2,h3⟩;exact hgood ⟨by rw [<- HD.o];exact decide_eq_true h1,h2,h3⟩
    rw [<- HV.o,this])
   have af:d=false\/(d=true/\n<least)\/(d=true/\¬n<least/\B<n):=by
    cases d
    ·exact .inl rfl
    ·right
     by_cases h:n<least
     ·exact .inl ⟨rfl,h⟩
     ·refine .inr ⟨rfl,h,?_⟩
      by_cases h2:B<n
      ·exact h2
      ·exact absurd ⟨rfl,by omega,by omega⟩ hgood
   clear hgood;rcases af with rfl | ⟨rfl,f1⟩ | ⟨rfl,f1,f2⟩
   all_goals
    go_wp2_with fail;go_ret;exact⟨by rw [HN.o];rfl,by rw [HN.o];exact D.o,G.o⟩
 ·have HN:Hi (V=(0,{ p2 with bad:=true })):=lH (by
   have:R=none:=by
    rw [<- HR.o];unfold Ny;split
    ·rename_i m hm;exact absurd hm (hno m)
    ·rfl
   rw [<- HV.o,this])
  clear hno;go_wp2_with fail;go_ret;exact⟨by rw [HN.o];rfl,by rw [HN.o];exact F.o,J.o⟩
theorem Ju(E:Nat->Addr)(v:World)(B:Nat)(p:Pr)(w:World)(D:Bs E v w B)(h:CB w B p):Calls prog 149 #[pG (some (A_ B 0))] w fun e w'=>e = pJ (I_ p.any.1)/\CB w' B p.any.2/\Aa [B] w w':=by
 have HN:=GP E v B p 0 1000000000000 w D h;clear h D;go_enter func149,ntmps149;go_wp2_with fail
 with_reducible refine HN.mono ?_
 rintro e w1 ⟨rfl,h1,h2⟩;have H:=lH (Bl h1 h2);clear h1 h2;go_wp2_with fail;go_ret;exact⟨rfl,H.o.1,H.o.2⟩
theorem CB.set{w:World}{B:Nat}{p:Pr}(h:CB w B p)(i:Nat)(u:Value)(q:QK)(hq:∀l e,(Mz p.q l e).setIfInBounds i u=Mz q l e):CB (w.setCell (A_ B i) u) B { p with q:=q }:=by
 obtain⟨a,c,hb,hl,hne,hg⟩:=h;refine⟨a,c,?_,hl.keepsN (Ae w B i u) (fun h0 g o e=>by simpa using hne h0 g o e),hne,hg⟩;have:=hb.set_ i u
 rwa [hq] at this
theorem WO(E:Nat->Addr)(v:World)(B:Nat)(p:Pr)(w:World)(G:Bs E v w B)(h:CB w B p):Calls prog 97 #[pG (some (A_ B 0))] w fun e w'=>e = pJ (.tuple #[])/\CB w' B p.name/\Aa [B] w w':=by
 have HN:=FD B p w h;obtain⟨s,p2,hp⟩:∃s p2,p.next=(s,p2):=⟨_,_,rfl⟩;have F:Hi (p.name = { p2 with q:={ p2.q with com:={ p2.q.com with name:=s } } }):=lH (by unfold Pr.name;rw [hp];rfl);rw [hp] at HN;simp only [] at HN;clear h G hp;go_enter func97,ntmps97;go_wp2_with fail
 with_reducible refine HN.mono ?_
 rintro e w1 ⟨rfl,h1,h2⟩;obtain⟨a,c,q⟩:=h1.rl;simp only [Mz] at q;have D:=lH (h1.set 3 (Dz s) { p2.q with com:={ p2.q.com with name:=s } } (fun _ _=>rfl));have HK:=lH (h2.trans (Ae w1 B 3 (Dz s)));clear h1 h2;go_wp2_with fail
 go_end0
 exact⟨rfl,by rw [F.o];exact D.o,HK.o⟩
theorem WU(E:Nat->Addr)(v:World)(B:Nat)(p:Pr)(w:World)(D:Bs E v w B)(h:CB w B p):Calls prog 98 #[pG (some (A_ B 0))] w fun e w'=>e = pJ (.tuple #[])/\CB w' B p.want/\Aa [B] w w':=by
 have HN:=Ju E v B p w D h;obtain⟨s,p2,hp⟩:∃s p2,p.any=(s,p2):=⟨_,_,rfl⟩;have G:Hi (p.want = { p2 with q:={ p2.q with com:={ p2.q.com with want:=s } } }):=lH (by unfold Pr.want;rw [hp];rfl);rw [hp] at HN;simp only [] at HN;clear h D hp;go_enter func98,ntmps98;go_wp2_with fail
 with_reducible refine HN.mono ?_
 rintro e w1 ⟨rfl,h1,h2⟩;obtain⟨a,c,q⟩:=h1.rl;simp only [Mz] at q;have F:=lH (h1.set 4 (I_ s) { p2.q with com:={ p2.q.com with want:=s } } (fun _ _=>rfl));have HK:=lH (h2.trans (Ae w1 B 4 (I_ s)));clear h1 h2;go_wp2_with fail
 go_end0
 exact⟨rfl,by rw [G.o];exact F.o,HK.o⟩
theorem Z7(E:Nat->Addr)(v:World)(B:Nat)(p:Pr)(w:World)(G:Bs E v w B)(h:CB w B p):Calls prog 99 #[pG (some (A_ B 0))] w fun e w'=>e = pJ (.tuple #[])/\CB w' B p.key/\Aa [B] w w':=by
 have HN:=FD B p w h;obtain⟨s,p2,hp⟩:∃s p2,p.next=(s,p2):=⟨_,_,rfl⟩;have F:Hi (p.key = { p2 with q:={ p2.q with com:={ p2.q.com with key:=s } } }):=lH (by unfold Pr.key;rw [hp];rfl);rw [hp] at HN;simp only [] at HN;clear h G hp;go_enter func99,ntmps99;go_wp2_with fail
 with_reducible refine HN.mono ?_
 rintro e w1 ⟨rfl,h1,h2⟩;obtain⟨a,c,q⟩:=h1.rl;simp only [Mz] at q;have D:=lH (h1.set 11 (Dz s) { p2.q with com:={ p2.q.com with key:=s } } (fun _ _=>rfl));have HK:=lH (h2.trans (Ae w1 B 11 (Dz s)));clear h1 h2;go_wp2_with fail
 go_end0
 exact⟨rfl,by rw [F.o];exact D.o,HK.o⟩
theorem iH(E:Nat->Addr)(v:World)(B:Nat)(p:Pr)(w:World)(D:Bs E v w B)(h:CB w B p):Calls prog 100 #[pG (some (A_ B 0))] w fun e w'=>e = pJ (.tuple #[])/\CB w' B p.n/\Aa [B] w w':=by
 have HN:=Ju E v B p w D h;obtain⟨s,p2,hp⟩:∃s p2,p.any=(s,p2):=⟨_,_,rfl⟩;have G:Hi (p.n = { p2 with q:={ p2.q with com:={ p2.q.com with n:=s } } }):=lH (by unfold Pr.n;rw [hp];rfl);rw [hp] at HN;simp only [] at HN;clear h D hp;go_enter func100,ntmps100;go_wp2_with fail
 with_reducible refine HN.mono ?_
 rintro e w1 ⟨rfl,h1,h2⟩;obtain⟨a,c,q⟩:=h1.rl;simp only [Mz] at q;have F:=lH (h1.set 12 (I_ s) { p2.q with com:={ p2.q.com with n:=s } } (fun _ _=>rfl));have HK:=lH (h2.trans (Ae w1 B 12 (I_ s)));clear h1 h2;go_wp2_with fail
 go_end0
 exact⟨rfl,by rw [G.o];exact F.o,HK.o⟩
theorem iG(E:Nat->Addr)(v:World)(B:Nat)(p:Pr)(w:World)(D:Bs E v w B)(h:CB w B p):Calls prog 101 #[pG (some (A_ B 0))] w fun e w'=>e = pJ (.tuple #[])/\CB w' B p.m/\Aa [B] w w':=by
 have HN:=Ju E v B p w D h;obtain⟨s,p2,hp⟩:∃s p2,p.any=(s,p2):=⟨_,_,rfl⟩;have G:Hi (p.m = { p2 with q:={ p2.q with com:={ p2.q.com with m:=s } } }):=lH (by unfold Pr.m;rw [hp];rfl);rw [hp] at HN;simp only [] at HN;clear h D hp;go_enter func101,ntmps101;go_wp2_with fail
 with_reducible refine HN.mono ?_
 rintro e w1 ⟨rfl,h1,h2⟩;obtain⟨a,c,q⟩:=h1.rl;simp only [Mz] at q;have F:=lH (h1.set 13 (I_ s) { p2.q with com:={ p2.q.com with m:=s } } (fun _ _=>rfl));have HK:=lH (h2.trans (Ae w1 B 13 (I_ s)));clear h1 h2;go_wp2_with fail
 go_end0
 exact⟨rfl,by rw [G.o];exact F.o,HK.o⟩
theorem CB.rule{w:World}{B:Nat}{p:Pr}(h:CB w B p)(r:EX):CB (((((w.setCell (A_ B 6) (pI r.allow)).setCell (A_ B 7) (I_ r.addr)).setCell (A_ B 8) (I_ r.bits)).setCell (A_ B 9) (I_ r.from_)).setCell (A_ B 10) (I_ r.to_)) B { p with q:={ p.q with com:={ p.q.com with rule:=r } } }:=by
 obtain⟨a,c,hb,hl,hne,hg⟩:=h;have hk:Aa [B] w (((((w.setCell (A_ B 6) (pI r.allow)).setCell (A_ B 7) (I_ r.addr)).setCell (A_ B 8) (I_ r.bits)).setCell (A_ B 9) (I_ r.from_)).setCell (A_ B 10) (I_ r.to_)):=(((((Aa.refl [B] w).setCell (.inl bA) _).setCell (.inl bA) _).setCell (.inl bA) _).setCell (.inl bA) _).setCell (.inl bA) _;exact⟨a,c,((((hb.set_ 6 _).set_ 7 _).set_ 8 _).set_ 9 _).set_ 10 _,hl.keepsN hk (fun h0 g o e=>by simpa using hne h0 g o e),hne,hg⟩
theorem Nr(w:World)(rb:Nat)(v0 v1 v2 v3 v4:Value):Aa [rb] w (((((w.setCell (A_ rb 6) v0).setCell (A_ rb 7) v1).setCell (A_ rb 8) v2).setCell (A_ rb 9) v3).setCell (A_ rb 10) v4):=(((((Aa.refl [rb] w).setCell (.inl bA) _).setCell (.inl bA) _).setCell (.inl bA) _).setCell (.inl bA) _).setCell (.inl bA) _
theorem fU(p:Pr):0<=p.any.1/\p.any.1<=1000000000000:=by
 unfold Pr.any Pr.number Ny;split
 ·rename_i n hn
  split at hn
  ·split at hn
   ·rename_i h
    injection hn with hn
    subst hn;exact h.2
   ·cases hn
  ·cases hn
 ·exact⟨Int.le_refl 0,by show(0:Int)<=1000000000000;omega⟩
theorem Vi(s:ByteArray)(l:List UInt8):(s.toList==l)=decide (s=str l):=by
 rw [C9,DI,beq_iff_eq,decide_eq_true_iff];constructor
 ·intro h;apply ByteArray.ext;show s.data=l.toArray;rw [<- h]
 ·intro h;rw [h];rfl
theorem Um(E:Nat->Addr)(v:World)(B:Nat)(p:Pr)(w:World)(hB:Bs E v w B)(h:CB w B p):Calls prog 102 #[pG (some (A_ B 0))] w fun e w'=>e = pJ (.tuple #[])/\CB w' B p.rules/\Aa [B] w w':=by
 have HN:=FD B p w h;obtain⟨s,p2,hp⟩:∃s p2,p.next=(s,p2):=⟨_,_,rfl⟩;obtain⟨n,p3,O⟩:∃s p3,p2.any=(s,p3):=⟨_,_,rfl⟩;have hn:=fU p2;rw [O] at hn;obtain⟨pa,aa⟩:=eX p.at_;have T:pa = { p3 with q:={ p3.q with com:={ p3.q.com with at_:=n } } }:=by rw [<- aa];unfold Pr.at_;rw [hp,O];rfl
 obtain⟨V,hV⟩:=eX p.rules;rw [hV];unfold Pr.rules at hV;rw [aa,hp] at hV;rw [hp] at HN;simp only [] at HN hV hn;obtain⟨b1,hb1⟩:=eX ((s.toList==[105,110,115,101,114,116]));obtain⟨b2,hb2⟩:=eX ((s.toList==[114,101,109,111,118,101]));have h1:decide (s=M7)=b1:=by rw [<- hb1,Vi];rfl
 have h2:decide (s=M8)=b2:=by rw [<- hb2,Vi];rfl
 have HV:=lH hV;have HB:=lH hB;have an:=lH O;have X:=lH T;have H1:=lH h1;have H2:=lH h2;clear h hB hp O aa T hV h1 h2;go_enter func102,ntmps102;go_wp2_with fail
 with_reducible refine HN.mono ?_
 rintro e w1 ⟨rfl,aj,hk1⟩;have HB1:=lH (HB.o.go hk1);have ag:=Ju E v B p2 w1 HB1.o aj;rw [an.o] at ag;have HK1:=lH hk1;clear aj hk1;go_wp2_with fail
 with_reducible refine ag.mono ?_
 rintro e w2 ⟨rfl,ac,hk2⟩;obtain⟨wz,hwz⟩:=eX (w2.setCell (A_ B 5) (I_ n));have J:Hi (CB wz B pa):=lH (by rw [<- hwz,X.o];exact ac.set 5 (I_ n) { p3.q with com:={ p3.q.com with at_:=n } } (fun _ _=>rfl));have N:Hi (Aa [B] w wz):=lH (by rw [<- hwz];exact(HK1.o.trans hk2).trans (Ae w2 B 5 _));have aw:=lH (HB.o.go N.o);obtain⟨a2,c2,q2⟩:=ac.rl;simp only [Mz] at q2;obtain⟨az,cz,qz⟩:=J.o.rl;rw [X.o] at qz;simp only [Mz] at qz;clear ac hk2;cases b1 with
 | true=>
  have hs:s=M7:=of_decide_eq_true H1.o;have U:=FD B pa wz J.o;have hgd:=Ph J.o;obtain⟨x,px,ab⟩:∃s p2,pa.next=(s,p2):=⟨_,_,rfl⟩;rw [ab] at U hgd;simp only [] at U hgd;obtain⟨r,e9,ad⟩:∃r e,NL x.data.toList=(r,e):=⟨_,_,rfl⟩;have ao:=lH ad;have HW:Hi (V = { (if e9=0 then px else { px with bad:=true }) with q:={ (if e9=0 then px else { px with bad:=true } : Pr).q with com:={ (if e9=0 then px else { px with bad:=true } : Pr).q.com with rule:=r } } }):=lH (by
   rw [<- HV.o,if_pos hs,ab];simp only [];rw [ad];rfl)
  clear hs ab ad;go_wp2_with fail;clear hwz
  with_reducible refine U.mono ?_
  rintro e w3 ⟨rfl,ak,hk3⟩;have af:=lH (N.o.trans hk3);have am:=lH (HB.o.go af.o);have HR3:=lH ak;have D:=SW x bB w3 E am.o.en.a;unfold Gh at D;rw [ao.o] at D;simp only [] at D;clear ak hk3 qz q2;go_wp2_with fail
  with_reducible refine D.mono ?_
  rintro e w4 ⟨rfl,hk4⟩;obtain⟨w5,hw5⟩:=eX (w4.alloc (.cells (L_ r) 55));have Y:Hi (CB w5 B px):=lH (by rw [<- hw5];exact HR3.o.keep (hk4.alloc _));have HK5:Hi (Aa [B] w w5):=lH (by rw [<- hw5];exact af.o.trans ((hk4.mono bA).alloc _));have ah:Hi (Blk w5 w4 55 (L_ r)):=lH (by rw [<- hw5];exact Blk.new _ _ _);have x5:=ah.o.rl;have hne:Hi (w4.heap.size≠B):=lH (by have:=HR3.o;obtain⟨_,_,hb,_⟩:=this;have:=hb.lt;have:=hk4.size;omega);obtain⟨a5,c5,q5⟩:=Y.o.rl;simp only [Mz] at q5;clear hk4;by_cases he:e9=0
  ·subst he
   have G:=Y.o.rule r;have HKF:=HK5.o.trans (Nr w5 B (pI r.allow) (I_ r.addr) (I_ r.bits) (I_ r.from_) (I_ r.to_));have G:=lH G;have HKF:=lH HKF;go_wp2_with fail;first | go_end0 | (refine bodyPost_ret (results_none rfl _ _ _) rfl ?_)
   exact⟨rfl,by rw [HW.o];simpa using G.o,HKF.o⟩
  ·have f1:(e9 != 0)=true:=by simpa using he
   have F:=Y.o.bad;have hk6:=Ae w5 B 18 (Ii true);obtain⟨w6,al⟩:=eX (w5.setCell (A_ B 18) (Ii true));rw [al] at F hk6;have x6:=(ah.o.keeps hk6 (by simpa using hne.out)).rl;obtain⟨a6,c6,q6⟩:=F.rl;simp only [Mz] at q6;have G:=lH (F.rule r);have HKF:=lH ((HK5.o.trans hk6).trans (Nr w6 B (pI r.allow) (I_ r.addr) (I_ r.bits) (I_ r.from_) (I_ r.to_)));simp only [Ii,if_true] at al;have HE:=lH he;clear F hk6 he;go_wp2_with fail;first | go_end0 | (refine bodyPost_ret (results_none rfl _ _ _) rfl ?_)
   exact⟨rfl,by rw [HW.o,if_neg HE.o];exact G.o,HKF.o⟩
 | false=>
  have hs:¬s=M7:=of_decide_eq_false H1.o;cases b2 with
  | true=>
   have M:s=M8:=of_decide_eq_true H2.o;have HW:Hi (V = { pa with q:={ pa.q with com:={ pa.q.com with at_:=-n - 1 } } }):=lH (by
    rw [<- HV.o,if_neg hs,if_pos M,X.o];rfl)
   have G:=lH (J.o.set 5 (I_ (-n - 1)) { pa.q with com:={ pa.q.com with at_:=-n - 1 } } (fun _ _=>rfl));have HKF:=lH (N.o.trans (Ae wz B 5 (I_ (-n - 1))));have e1:IntKind.i64.wrap (-n - 1) = -n - 1:=IntWalk.i64_in _ bB;have e2:IntKind.i64.wrap (-n) = -n:=IntWalk.i64_in _ bB;clear hs M;go_wp2_with fail;first | go_end0 | (refine bodyPost_ret (results_none rfl _ _ _) rfl ?_)
   exact⟨rfl,by rw [HW.o];exact G.o,HKF.o⟩
  | false=>
   have M:¬s=M8:=of_decide_eq_false H2.o;have HW:Hi (V = { pa with bad:=true }):=lH (by rw [<- HV.o,if_neg hs,if_neg M]);have G:=J.o.bad;have HKF:=N.o.trans (Ae wz B 18 (Ii true));simp only [Ii,if_true] at G HKF;have G:=lH G;have HKF:=lH HKF;clear hs M;go_wp2_with fail;first | go_end0 | (refine bodyPost_ret (results_none rfl _ _ _) rfl ?_)
   exact⟨rfl,by rw [HW.o];exact G.o,HKF.o⟩
theorem WR(E:Nat->Addr)(v:World)(B:Nat)(p:Pr)(w:World)(hB:Bs E v w B)(h:CB w B p):Calls prog 103 #[pG (some (A_ B 0))] w fun e w'=>e = pJ (.tuple #[])/\CB w' B p.page/\Aa [B] w w':=by
 have HN:=GP E v B p 1 3 w hB h;obtain⟨n,p2,hp⟩:∃s p2,p.number 1 3=(s,p2):=⟨_,_,rfl⟩;obtain⟨V,hV⟩:=eX p.page;rw [hV];unfold Pr.page at hV;rw [hp] at HN hV;simp only [] at HN hV;obtain⟨p1,M⟩:∃p1:Pr,({ p2 with q:={ p2.q with count:=n } } : Pr)=p1:=⟨_,rfl⟩;rw [M] at hV;have HV:=lH hV;have HP1:=lH M;have HB:=lH hB;clear h hB hp hV M;go_enter func103,ntmps103;go_wp2_with fail
 with_reducible refine HN.mono ?_
 rintro e w1 ⟨rfl,T,hk1⟩;obtain⟨wz,hwz⟩:=eX (w1.setCell (A_ B 14) (I_ n));have J:Hi (CB wz B p1):=lH (by rw [<- hwz,<- HP1.o];exact T.set 14 (I_ n) { p2.q with count:=n } (fun _ _=>rfl));have D:Hi (Aa [B] w wz):=lH (by rw [<- hwz];exact hk1.trans (Ae w1 B 14 _));have aa:=lH (HB.o.go D.o);obtain⟨a2,c2,q2⟩:=T.rl;simp only [Mz] at q2;obtain⟨az,cz,qz⟩:=J.o.rl;simp only [Mz] at qz;obtain⟨m,hm⟩:=eX p1.l.length;rw [hm] at qz;clear T hk1;by_cases h0:m=0
 ·have HW:Hi (V=p1):=lH (by rw [<- HV.o,if_pos (by rw [show p2.l=p1.l by rw [<- HP1.o],hm];exact h0)])
  subst h0;go_wp2_with fail
  go_end0
  exact⟨rfl,by rw [HW.o];exact J.o,D.o⟩
 ·have f1:(0:Int)<(m:Int):=bB;have F:=GP E v B p1 1 1000000000000 wz aa.o J.o;obtain⟨b,p3,N⟩:∃s p2,p1.number 1 1000000000000=(s,p2):=⟨_,_,rfl⟩;obtain⟨c,p4,O⟩:∃s p2,p3.any=(s,p2):=⟨_,_,rfl⟩;rw [N] at F;simp only [] at F;have HW:Hi (V = { p4 with q:={ p4.q with cursor:=b,from_:=c } }):=lH (by
   rw [<- HV.o,if_neg (by rw [show p2.l=p1.l by rw [<- HP1.o],hm];exact h0)];simp only [];rw [N];simp only [];rw [O])
  have ab:=lH O;clear h0 N O hm;go_wp2_with fail;clear hwz
  with_reducible refine F.mono ?_
  rintro e w3 ⟨rfl,Y,hk3⟩;have X:=lH (D.o.trans hk3);have G:=Ju E v B p3 w3 (HB.o.go X.o) Y;rw [ab.o] at G;simp only [] at G;clear Y hk3 qz q2;go_wp2_with fail
  with_reducible refine G.mono ?_
  rintro e w4 ⟨rfl,U,hk4⟩;obtain⟨a4,c4,q4⟩:=U.rl;simp only [Mz] at q4;have HF:=lH ((U.set 15 (I_ b) { p4.q with cursor:=b } (fun _ _=>rfl)).set 16 (I_ c) { p4.q with cursor:=b,from_:=c } (fun _ _=>rfl));have HKF:=lH (((X.o.trans hk4).trans (Ae w4 B 15 (I_ b))).trans (Ae _ B 16 (I_ c)));clear U hk4;go_wp2_with fail
  go_end0
  exact⟨rfl,by rw [HW.o];exact HF.o,HKF.o⟩
def kP(l:List Nat):Array Value:=(l.map fun f=>Value.func (.func f) #[] #[]).toArray
def KM(verb:Int):List (Nat×(Pr->Pr)):=
 if verb=1 then [(97,Pr.name),(99,Pr.key),(100,Pr.n)] else if verb=4 then [(97,Pr.name),(98,Pr.want),(100,Pr.n)]
 else if verb=6 then [(97,Pr.name),(98,Pr.want),(99,Pr.key),(100,Pr.n),(101,Pr.m)]
 else if verb=7 then [(97,Pr.name),(98,Pr.want),(102,Pr.rules)] else if verb=9 then [(103,Pr.page)] else [(97,Pr.name),(98,Pr.want)]
theorem T5(B:Int):(KM B).map (·.2)=partsR B:=by
 unfold KM partsR
 repeat' split
 all_goals rfl
def Ug(k:Int)(g n b:Nat):MapEntry:={ key:=pE pK k,val:=pF (some ⟨g,0,none⟩) n n,born:=b }
theorem Hs(W:World)(m:Nat)(D:Array MapEntry)(c:Nat)(k:Int)(B:Array Value)(n:Nat)(hm:W.heap[m]? = some (.map D c))(hf:B0 (.int .i64) (I_ k) D.toList 0=some none):
  ∃W',(Instr.mapUpdate 202 (.map (some m)) (I_ k) (pF (some (A_ W 0)) n n)).run prog (W.alloc (.cells B 201)) = .ok () W'/\W'.heap[m]? = some (.map (D.push (Ug k W n c)) (c+1))/\Blk W' W 201 B/\Aa [m] W W':=by
 have hlt:m<W.heap.size:=(Ai.1 hm).1;have F:(W.alloc (.cells B 201)).heap[m]? = some (.map D c):=(Below.heap_alloc W _ m hlt).trans hm;have E:m<(W.alloc (.cells B 201)).heap.size:=(Ai.1 F).1;have hr:=DA (P:=prog) (t:=202) (val:=pF (some (A_ W 0)) n n) underlying202 underlying3 F (key:=I_ k) bS hf;have hk:Aa [m] (W.alloc (.cells B 201)) { (W.alloc (.cells B 201)) with heap:=(W.alloc (.cells B 201)).heap.setIfInBounds m (.map (D.push { key:=I_ k,val:=pF (some (A_ W 0)) n n,born:=c }) (c+1)) }:=
  ⟨rfl,rfl,rfl,by simp,fun i _ hn=>by
   show((W.alloc (.cells B 201)).heap.setIfInBounds m _)[i]? = _;rw [Bj,if_neg (fun e=>hn (by simp [e]))]⟩
 refine⟨_,hr,?_,(Blk.new W _ B).keeps hk bG,((Aa.refl [m] W).alloc _).trans hk⟩;show((W.alloc (.cells B 201)).heap.setIfInBounds m _)[m]? = _;rw [Bj,if_pos rfl,if_pos E];rfl
theorem WE(B:Int)(w:World):Calls prog 45 #[pE pK B] w fun e w'=>∃g n,e = pJ (pF (some (A_ g 0)) n n)/\(KM B).length=n/\Blk w' g 201 (kP ((KM B).map (·.1)))/\Aa [] w w':=by
 obtain⟨W0,ae⟩:=eX (w.alloc (.map #[] 0));have O:W0.heap[w.heap.size]? = some (.map #[] 0):=by rw [<- ae];exact heap_alloc_new w _
 have hk0:Aa [] w W0:=by rw [<- ae];exact(Aa.refl [] w).alloc _
 have aa:W0.heap.size=w.heap.size+1:=by rw [<- ae];simp
 have aj:=fun W=>run_makeMap (P:=prog) 202 W;obtain⟨W1,ak,T,hb1,hk1⟩:=Hs W0 w #[] 0 1 #[.func (.func 97) #[] #[],.func (.func 99) #[] #[],.func (.func 100) #[] #[]] 3 O bD;obtain⟨W2,al,U,hb2,hk2⟩:=Hs W1 w _ 1 4 #[.func (.func 97) #[] #[],.func (.func 98) #[] #[],.func (.func 100) #[] #[]] 3 T bD;obtain⟨W3,am,X,M,hk3⟩:=Hs W2 w _ 2 6 #[.func (.func 97) #[] #[],.func (.func 98) #[] #[],.func (.func 99) #[] #[],.func (.func 100) #[] #[],.func (.func 101) #[] #[]] 5 U bD;obtain⟨W4,an,Y,hb4,hk4⟩:=Hs W3 w _ 3 7 #[.func (.func 97) #[] #[],.func (.func 98) #[] #[],.func (.func 102) #[] #[]] 3 X bD;obtain⟨W5,ao,J,N,hk5⟩:=Hs W4 w _ 4 9 #[.func (.func 103) #[] #[]] 1 Y bD;have hs1:=hk1.size;have ab:=hk2.size;have ac:=hk3.size;have ad:=hk4.size;have D:=(((hb1.keeps hk2 bG).keeps hk3 bG).keeps hk4 bG).keeps hk5 bG;have E:=((hb2.keeps hk3 bG).keeps hk4 bG).keeps hk5 bG;have F:=(M.keeps hk4 bG).keeps hk5 bG;have G:=hb4.keeps hk5 bG;have hK:Aa [] w W5:=hk0.own ((((hk1.trans hk2).trans hk3).trans hk4).trans hk5) bF;have HK:=lH hK;have hl:∀(k:Int) (g n i:Nat),B0 (.int .i64) (I_ k) (((((#[].push (Ug 1 W0 3 0)).push (Ug 4 W1 3 1)).push (Ug 6 W2 5 2)).push (Ug 7 W3 3 3)).push (Ug 9 W4 1 4)).toList 0=some (some (i,pF (some (A_ g 0)) n n))->(Ed 202 (.map (some w)) (I_ k) true).run prog W5 = .ok (.tuple #[pF (some (A_ g 0)) n n,pI true]) W5:=
  fun k g n i hf=>(DD underlying202 underlying3 J bS hf).1
 have HH:Hi (∀g n,(∃W',W'=W5/\(KM B).length=n/\Blk W' g 201 (kP ((KM B).map (·.1))))->∃g n',pJ (pF (some (A_ g 0)) n n)=pJ (pF (some (A_ g 0)) n' n')/\True):=lH (fun g n _=>⟨g,n,rfl,trivial⟩);clear HH;by_cases h1:B=1
 ·subst h1
  have hlk:=hl 1 W0 3 0 bD;have HB:=lH D;clear O T U X Y J hb1 hb2 M hb4 N D E F G hk0 hk1 hk2 hk3 hk4 hk5 hl hK aa hs1 ab ac ad;go_enter func45,ntmps45;go_wp2_with fail;go_ret;exact⟨_,_,rfl,rfl,HB.o,HK.o⟩
 by_cases h4:B=4
 ·subst h4
  have hlk:=hl 4 W1 3 1 bD;have HB:=lH E;clear O T U X Y J hb1 hb2 M hb4 N D E F G hk0 hk1 hk2 hk3 hk4 hk5 hl hK aa hs1 ab ac ad;go_enter func45,ntmps45;go_wp2_with fail;go_ret;exact⟨_,_,rfl,rfl,HB.o,HK.o⟩
 by_cases h6:B=6
 ·subst h6
  have hlk:=hl 6 W2 5 2 bD;have HB:=lH F;clear O T U X Y J hb1 hb2 M hb4 N D E F G hk0 hk1 hk2 hk3 hk4 hk5 hl hK aa hs1 ab ac ad;go_enter func45,ntmps45;go_wp2_with fail;go_ret;exact⟨_,_,rfl,rfl,HB.o,HK.o⟩
 by_cases h7:B=7
 ·subst h7
  have hlk:=hl 7 W3 3 3 bD;have HB:=lH G;clear O T U X Y J hb1 hb2 M hb4 N D E F G hk0 hk1 hk2 hk3 hk4 hk5 hl hK aa hs1 ab ac ad;go_enter func45,ntmps45;go_wp2_with fail;go_ret;exact⟨_,_,rfl,rfl,HB.o,HK.o⟩
 by_cases h9:B=9
 ·subst h9
  have hlk:=hl 9 W4 1 4 bD;have HB:=lH N;clear O T U X Y J hb1 hb2 M hb4 N D E F G hk0 hk1 hk2 hk3 hk4 hk5 hl hK aa hs1 ab ac ad;go_enter func45,ntmps45;go_wp2_with fail;go_ret;exact⟨_,_,rfl,rfl,HB.o,HK.o⟩
 have hz:(zeroValue 124).run prog W5 = .ok (pF none 0 0) W5:=bC;have hlk:=(EW underlying202 underlying3 J (key:=I_ B) bS (by simp [Ug,B0,Instr.sameNow,beq_eq_false_iff_ne.2 h1,beq_eq_false_iff_ne.2 h4,beq_eq_false_iff_ne.2 h6,beq_eq_false_iff_ne.2 h7,beq_eq_false_iff_ne.2 h9]) hz).1;have HF:Hi (KM B = [(97,Pr.name),(98,Pr.want)]):=lH (by unfold KM;rw [if_neg h1,if_neg h4,if_neg h6,if_neg h7,if_neg h9]);clear O T U X Y J hb1 hb2 M hb4 N D E F G hk0 hk1 hk2 hk3 hk4 hk5 hl hK aa hs1 ab ac ad h1 h4 h6 h7 h9 hz;go_enter func45,ntmps45;go_wp2_with fail;go_ret;exact⟨_,_,rfl,by rw [HF.o];rfl,by rw [HF.o];exact Blk.new _ _ _,HK.o.alloc _⟩
def Ia(E:Nat->Addr)(x:Nat×(Pr->Pr)):Prop:=(∀(W:World) args,(callFunc x.1 args).run prog W = .ok (.enter x.1 args) W)/\∀(v:World) (rb:Nat) (p:Pr) (w:World),Bs E v w rb->CB w rb p->Calls prog x.1 #[pG (some ⟨rb,0,none⟩)] w fun e w'=>e = pJ (.tuple #[])/\CB w' rb (x.2 p)/\Aa [rb] w w'
theorem gP(E:Nat->Addr)(F:Int):∀x∈KM F,Ia E x:=by
 have D:Ia E (97,Pr.name):=⟨fun W B=>enters_of func97 bC rfl B W,fun v M p w J h=>WO E v M p w J h⟩;have G:Ia E (98,Pr.want):=⟨fun W B=>enters_of func98 bC rfl B W,fun v M p w J h=>WU E v M p w J h⟩;have O:Ia E (99,Pr.key):=⟨fun W B=>enters_of func99 bC rfl B W,fun v M p w J h=>Z7 E v M p w J h⟩;have hn:Ia E (100,Pr.n):=⟨fun W B=>enters_of func100 bC rfl B W,fun v M p w J h=>iH E v M p w J h⟩;have hm:Ia E (101,Pr.m):=⟨fun W B=>enters_of func101 bC rfl B W,fun v M p w J h=>iG E v M p w J h⟩;have N:Ia E (102,Pr.rules):=⟨fun W B=>enters_of func102 bC rfl B W,fun v M p w J h=>Um E v M p w J h⟩;have T:Ia E (103,Pr.page):=⟨fun W B=>enters_of func103 bC rfl B W,fun v M p w J h=>WR E v M p w J h⟩;unfold KM;by_cases h1:F=1
 ·rw [if_pos h1];exact AF.2 ⟨D,AF.2 ⟨O,AF.2 ⟨hn,fun _ h=>by cases h⟩⟩⟩
 rw [if_neg h1];by_cases h4:F=4
 ·rw [if_pos h4];exact AF.2 ⟨D,AF.2 ⟨G,AF.2 ⟨hn,fun _ h=>by cases h⟩⟩⟩
 rw [if_neg h4];by_cases h6:F=6
 ·rw [if_pos h6];exact AF.2 ⟨D,AF.2 ⟨G,AF.2 ⟨O,AF.2 ⟨hn,AF.2 ⟨hm,fun _ h=>by cases h⟩⟩⟩⟩⟩
 rw [if_neg h6];by_cases h7:F=7
 ·rw [if_pos h7];exact AF.2 ⟨D,AF.2 ⟨G,AF.2 ⟨N,fun _ h=>by cases h⟩⟩⟩
 rw [if_neg h7];by_cases h9:F=9
 ·rw [if_pos h9];exact AF.2 ⟨T,fun _ h=>by cases h⟩
 rw [if_neg h9];exact AF.2 ⟨D,AF.2 ⟨G,fun _ h=>by cases h⟩⟩
theorem Z3(E:Nat->Addr)(v:World)(B T:Nat)(p:Pr)(L:List (Nat×(Pr->Pr)))(n:Nat)(hn:L.length=n)(h10:n<=10)(J:∀x∈L,Ia E x)(w:World)(U:Bs E v w B)(h:CB w B p)(hf:Blk w T 201 (kP (L.map (·.1))))(hne:T≠B):
  Calls prog 44 #[pG (some (A_ B 0)),pF (some (A_ T 0)) n n] w fun e w'=>e = pJ (.tuple #[])/\CB w' B (L.foldl (fun p x=>x.2 p) p)/\Aa [B] w w':=by
 have HB:=lH U;have X:=lH hf;have HN:=lH hn;have O:=lH J;have G:Hi (CB w B ((L.take 0).foldl (fun p x=>x.2 p) p)):=lH h;clear U hf hn J h;go_enter func44,ntmps44;go_wp2_with fail;go_loopw [8] (fun i wr=>∃k:Nat,i = I_ k/\k<=n/\Hi (CB wr B ((L.take k).foldl (fun p x=>x.2 p) p))/\Hi (Aa [B] w wr)) (fun i _=>n - (intOf i).toNat)
 case atStart=>exact⟨0,rfl,Ba _,G,lH (Aa.refl _ _)⟩
 case round=>
  clear G;obtain⟨k,rfl,hk,HR,HK⟩:=hrel;by_cases hlt:k<n
  ·have D:k<L.length:=by rw [HN.o];exact hlt
   obtain⟨x,hx⟩:=eX (L[k]);have F:=O.o x kG;have q:=(X.o.keeps HK.o aV).rl;have hq:(kP (L.map (·.1)))[k]? = some (.func (.func x.1) #[] #[]):=by
    unfold kP;simp only [An,List.getElem?_map,Aq D,Option.map_some,hx]
   have i1:(0:Int)<=(k:Int):=bB;have i2:(k:Int)<(n:Int):=bB;have HC:=F.2 v B _ wr (HB.o.go HK.o) HR.o;have HS:Hi ((L.take (k+1)).foldl (fun p x=>x.2 p) p=x.2 ((L.take k).foldl (fun p x=>x.2 p) p)):=lH (by rw [BJ D,List.foldl_append,hx];rfl);have HE:=lH F.1;clear F D hx;go_wp2_with fail;rw [HE.o,Oper.upon_enter];refine HC.mono ?_;rintro e w3 ⟨rfl,M,hk3⟩;have HR3:=lH M;have N:=lH (HK.o.trans hk3);clear M hk3 HC q hq;go_wp2_with fail;go_roundw;case rel=>exact⟨k+1,by go_num,by omega,by rw [HS.o];exact HR3,N⟩
   case measure=>simp [intOf];omega
  ·obtain rfl:k=n:=bB;rw [Ak bL] at HR;go_wp2_with fail
   go_end0
   exact⟨rfl,HR.o,HK.o⟩
def reqA(q:QK):Array Value:=(Q_ q)
theorem Dg(q:QK):(reqA q).all (·.oneCell')=true:=by simp [reqA,Value.oneCell']
theorem Cr(q:QK):(prog.info? 59).map (·.size)=some (reqA q).size:=by
 have:(prog.info? 59).map (·.size)=some 17:=bC;exact this
structure MC(E:Nat→Addr)(w:World):Prop where
 r:Vn E w
 v:Er w
theorem MC.keeps{E:Nat->Addr}{w w':World}(h:MC E w)(hk:Aa [] w w'):MC E w':=⟨h.r.keeps hk,h.v.keeps hk bA⟩
theorem Ti(E:Nat->Addr)(s:ByteArray)(hs:s.size<=1000000)(w:World)(hE:MC E w)(k:Int)(B:Ce s.data.toList = .error k):
  Calls prog 17 #[Dz s] w fun e w'=>e = pJ (.tuple #[pH (reqA (parseR s).1),I_ (parseR s).2])/\Aa [] w w':=by
 obtain⟨w0,hw0⟩:=eX (w.alloc (.cells aQ.k 59));have HK0:Hi (Aa [] w w0):=lH aX;have HB0:Hi (Blk w0 w 59 (reqA req0)):=lH jX;have HE:Hi (∀W,Aa [] w W->MC E W):=lH fun W hW=>hE.keeps hW;have HSP:=Gr s hs w0 (HE.o w0 HK0.o).r.a.et;obtain⟨V,hV⟩:=eX (parseR s);rw [hV];unfold parseR at hV;unfold Ic at HSP;clear hE;rw [B] at HSP hV;have HN:Hi (V=(req0,k)):=lH hV.symm;have hk0:(k != 0)=true:=by simpa using JG B
 clear hV B;simp only [] at HSP;go_enter func17,ntmps17;go_wp2_with fail;refine HSP.mono ?_;rintro x w1 ⟨rfl,hk1⟩;have HK1:=lH (HK0.o.trans hk1);have HB1:=lH (HB0.o.keeps hk1 bA);clear hk1 hw0;go_wp2_with (refine wpList_store_row bD 59 _ _ bD w (reqA req0) bD bD 59 (reqA req0) HB1.o (Cr _) rfl (Dg _) ?_);refine bodyPost_ret (v:=.tuple #[pH (reqA req0),I_ k]) ?_ rfl ⟨by rw [HN.o],?_⟩
 ·exact AS rfl _ _ w 59 (reqA req0) _ (I_ k) rfl rfl (HB1.o.row _) underlying59 rfl (Cr _)
 ·exact HK1.o.own (Br _ _ _) bF
def jobA(j:Bq):Array Value:=#[pE pK j.conn,pE pK j.phase,Dz j.line,Dz j.req.who,pE pK j.req.id,pE pK j.req.com.verb,Dz j.req.com.name,pE pK j.req.com.want,pE pK j.req.com.at_,pI j.req.com.rule.allow,pE pK j.req.com.rule.addr,pE pK j.req.com.rule.bits,pE pK j.req.com.rule.from_,pE pK j.req.com.rule.to_,Dz j.req.com.key,pE pK j.req.com.n,pE pK j.req.com.m,pE pK j.req.count,pE pK j.req.cursor,pE pK j.req.from_,pE pK j.role,Dz j.reply,pE pK j.slot,pE pK j.gen]
theorem D2(q:Bq):(prog.info? 61).map (·.size)=some (jobA q).size:=by
 have:(prog.info? 61).map (·.size)=some 24:=bC;exact this
theorem Gp(q:Bq):(jobA q).all (·.oneCell')=true:=by simp [jobA,Value.oneCell']
def RS(lv:List Bq)(k:Nat):Array Value:=#[pE pK (k:Int),pH (jobA (lv.getD k job0))]
theorem RU(B D E F G J M N O:Value)(ja:Option Addr)(ln jc:Nat)(w:World):Calls prog 34 #[pH #[B,D,E,F,G,J,M,N,pF ja ln jc,O]] w fun e w'=>e = pJ (.func (.func 73) #[] #[pG (some (A_ w 0))])/\w.alloc (.cells #[B,D,E,F,G,J,M,N,pF ja ln jc,O] 36)=w':=by
 go_enter func34,ntmps34;go_wp2;go_ret;exact⟨rfl,rfl⟩
def jC(pb:Nat)(la:Option Addr)(lc ln:Nat)(lv:List Bq)(A:World):Prop:=A.cell? ⟨pb,8,none⟩=some (pF la ln lc)/\AR encJob 24 A la lc lv
theorem JC{A:World}{g o:Nat}{v:Bq}(h:∀j u,(encJob v)[j]? = some u->A.cell? (A_ g (o+j))=some u):A.rangeAt g o (jobA v).toList:=h
theorem YB(n l pb:Nat)(la:Option Addr)(lc ln:Nat)(lv:List Bq)(hln:lv.length=ln)(N:ln<=1000)(J X:List Nat->World->Prop)(W:World)(Y:PG [] J)(hV:∀z A,J z A->jC pb la lc ln lv A)
 (hY:∀pre x W1,J pre W1->pre++[x] <+: AC ln->YieldAt Bx (n - 1) prog l (RS lv x) W1 fun e W'=>
   (e = pJ (pI true)/\J (pre++[x]) W')\/(e = pJ (pI false)/\X (pre++[x]) W'))
 (h0:J [] W):
  CallsIn Bx n prog 73 #[.func (.yield l) #[] #[],p_ pb 0] W fun e W'=>(∃v,e = pJ v)/\
   (J (AC ln) W'\/(∃pre,pre <+: AC ln/\X pre W')):=by
 have HV:=lH hV;have HY:=lH hY;have HST:=lH Y;have HLN:=lH hln;have F:Hi (J (AC 0) W):=lH (by simpa using h0);obtain⟨M,_⟩:=hV _ _ h0;clear hV hY h0 Y hln;have U:Fence.wide.depth.isSome=true->1<=n:=by intro h;cases h
 refine callsIn_of_wp func73 rfl trivial ?_ rfl;simp only [ntmps73,Cz,Av,D4,pL,pM,Bt,Bu,Cd,BD,BH,AL];gi_wp2;refine BW (wpIn_seq (wpIn_label ?_));gi_wp2
 gi_loopw [8] (fun i wr=>∃k:Nat,i = I_ k/\k<=ln/\Hi (J (AC k) wr)) (fun i _=>ln - (intOf i).toNat)
 case atStart=>exact⟨0,rfl,Ba _,F⟩
 case round=>
  obtain⟨k,rfl,hk,B⟩:=hrel;clear M;by_cases hlt:k<ln
  ·have i1:(0:Int)<=(k:Int):=bB;have i2:(k:Int)<(ln:Int):=bB;obtain⟨M,hS⟩:=HV.o _ _ B.o;obtain⟨g1,o1,v,rfl,hg1,hx1,hat1⟩:=hS.at_k (k:=k) (by rw [HLN.o];exact hlt);have HQ:=lH (JC hat1);have hk0:=(Aa.refl [] wr).alloc (.cells (jobA v) 61);have D:=HST.o _ _ _ B.o hk0;have hgd:lv.getD k job0=v:=by rw [AO,hx1];rfl
   have E:=Dq (HY.o _ _ _ D (BZ hlt));rw [<- B3] at E;obtain⟨ad,tmps,assign,body,hy,hR⟩:=E;simp only [RS,hgd] at hy;have HB2:=lH (Blk.new wr 61 (jobA v));clear hS hat1 hx1 hg1 hk0 D hgd;gi_wp2_with (first | (refine Fy bD 61 _ bD g1 (o1+k*24) bD (jobA v) _ HQ.o underlying61 rfl (D2 v) ?_) | (refine Fi bD 61 _ _ bD wr (jobA v) bD bD 61 _ (Blk.new wr _ _) (D2 v) rfl (Gp v) ?_;rw [pQ]) | (refine Fy bD 61 _ bD wr 0 bD (jobA v) _ (HB2.o.rng 0 _ (fun j u hj=>by rw [AW];simpa using hj)) underlying61 rfl (D2 v) ?_));refine⟨U,?_⟩;refine hR.mono ?_;rintro e W3 ⟨g,rfl,T,hF⟩;clear hR hy M HQ HB2;cases g with
   | false=>
    have O:=lH (hF.out rfl);clear T hF;gi_wp2;try rw [AY]
    go_end0
    exact⟨⟨_,rfl⟩,.inr ⟨_,by rw [B3];exact BZ hlt,O.out⟩⟩
   | true=>
    have G:=lH (T.out rfl);clear T hF;gi_wp2;go_roundw;case rel=>exact⟨k+1,by go_num,by omega,G⟩
    case measure=>simp [intOf];omega
  ·obtain rfl:k=ln:=bB;gi_wp2;try rw [AY]
   go_end0
   exact⟨⟨_,rfl⟩,.inl B.o⟩
theorem RW(n pb:Nat)(la:Option Addr)(lc ln:Nat)(lv:List Bq)(hln:lv.length=ln)(h1000:ln<=1000):
  QL Bx n prog 73 #[pG (some (A_ pb 0))] (RS lv) (AC ln) (jC pb la lc ln lv):=fun l J Jx W hJ _ hV hY h0=>
 YB n l pb la lc ln lv hln h1000 J Jx W hJ hV hY h0
structure jD(w:World)(x0 x1 x2 x3 x4 x5 x6 x7 x9:Value)(ja:Option Addr)(ln jc:Nat)(conn:Int)(A:World):Prop where
 nb:Blk A (w.heap.size+1) 3 #[pE pK conn]
 c4:Blk A (w.heap.size+1+1) 3 #[pE pK 0]
 c5:Blk A (w.heap.size+1+1+1) 4 #[pI false]
 pb:Blk A (w.heap.size+1+1+1+1) 36 #[x0,x1,x2,x3,x4,x5,x6,x7,pF ja ln jc,x9]
 kw:Aa [] w A
theorem jD.keeps{w:World}{x0 x1 x2 x3 x4 x5 x6 x7 x9:Value}{ja:Option Addr}{ln jc:Nat}{conn:Int}{A A':World}{S:List Nat}(h:jD w x0 x1 x2 x3 x4 x5 x6 x7 x9 ja ln jc conn A)(hk:Aa S A A')(hS:∀y∈S,w.heap.size+4<y):jD w x0 x1 x2 x3 x4 x5 x6 x7 x9 ja ln jc conn A':=
 have hn:∀y,y<=w.heap.size+4->y∉S:=fun y hy hm=>by have:=hS y hm;omega
 ⟨h.nb.keeps hk (hn _ bB),h.c4.keeps hk (hn _ bB),h.c5.keeps hk (hn _ bB),h.pb.keeps hk (hn _ bB),h.kw.own hk bM⟩
structure kY(w:World)(k:Nat)(A:World):Prop where
 c4:Blk A (w.heap.size+1+1) 3 #[pE pK (k:Int)]
 c5:Blk A (w.heap.size+1+1+1) 4 #[pI true]
 kw:Aa [] w A
theorem kY.keeps{w:World}{k:Nat}{A A':World}{S:List Nat}(h:kY w k A)(hk:Aa S A A')(hS:∀y∈S,w.heap.size+3<y):kY w k A':=
 have hn:∀y,y<=w.heap.size+3->y∉S:=fun y hy hm=>by have:=hS y hm;omega
 ⟨h.c4.keeps hk (hn _ bB),h.c5.keeps hk (hn _ bB),h.kw.own hk bM⟩
def kV(js:List Bq)(conn:Int)(k:Nat):Prop:=∀j<k,∀t,js[j]? = some t->t.conn≠conn
theorem So{js:List Bq}{conn:Int}(h:kV js conn js.length):BF js conn=none:=by
 unfold BF;rw [List.findIdx?_eq_none_iff];intro x hx;obtain⟨i,hi,rfl⟩:=List.getElem_of_mem hx;exact beq_eq_false_iff_ne.2 (h i hi _ (Aq hi))
theorem WI{js:List Bq}{conn:Int}{k:Nat}{u:Bq}(h:kV js conn k)(hu:js[k]? = some u)(B:u.conn=conn):BF js conn=some k:=by
 unfold BF;obtain⟨hk,hu⟩:=Ad.1 hu;rw [Dx];refine⟨hk,by rw [hu,B];simp,fun j hj=>?_⟩;have:=h j hj _ (Aq bB);simpa using this
theorem JX(T U X Y x4 x5 x6 x7 x9:Value)(ja:Option Addr)(ln jc:Nat)(js:List Bq)(hln:js.length=ln)(O:ln<=1000)(conn:Int)(w:World)(hl:Kt w ja jc js):
  Calls prog 28 #[pH #[T,U,X,Y,x4,x5,x6,x7,pF ja ln jc,x9],I_ conn] w fun x w'=>x = pJ (.tuple #[pE pK (((BF js conn).getD 0:Nat):Int),pI (BF js conn).isSome])/\Aa [] w w':=by
 have ah:=fun W=>RU T U X Y x4 x5 x6 x7 x9 ja ln jc W;refine(callsIn_wide (n:=9)).1 ?_;have HL:=lH hl;have HLN:=lH hln;have ak:=lH ah;clear hl hln ah;refine callsIn_of_wp_marks func28 rfl trivial ?_ rfl;simp only [ntmps28,Cz,Av,D4,pL,pM,Bt,Bu,Cd,BD,BH,AL];gi_wp2_with fail;refine⟨trivial,(callsIn_wide.2 (ak.o _)).mono ?_⟩;rintro e w1 ⟨rfl,hw1⟩;gi_wp2_with fail;have hsz:w1.heap.size=w.heap.size+5:=by rw [<- hw1];simp
 have af:jD w T U X Y x4 x5 x6 x7 x9 ja ln jc conn w1:=by
  have hk:Aa [] w w1:=by rw [<- hw1];exact(((((Aa.refl [] w).alloc _).alloc _).alloc _).alloc _).alloc _
  refine⟨?_,?_,?_,?_,hk⟩<;>rw [<- hw1]
  ·exact(((Ar _ _ _ _ bA).alloc _).alloc _).alloc _
  ·exact((Ar _ _ _ _ bA).alloc _).alloc _
  ·exact(Ar _ _ _ _ bA).alloc _
  ·exact Ar _ _ _ _ bA
 have ai:=lH af;clear af hw1;refine Cc rfl bB (gf:=73) (lb:=#[pG (some (A4 w 0))]) rfl trivial (enters_of func73 bC rfl) (RW 8 (w+1+1+1+1) ja jc ln js HLN.o O) (fun _=>rfl)
  (fun D A=>kV js conn D.length/\jD w T U X Y x4 x5 x6 x7 x9 ja ln jc conn A) (fun _ A=>∃k,BF js conn=some k/\kY w k A)
  (fun D A A' h hk=>⟨h.1,h.2.keeps hk bF⟩)
  (fun D A A' h hk=>by
   obtain⟨k,h1,h2⟩:=h;exact⟨k,h1,h2.keeps hk bF⟩)
  (fun D A h=>⟨h.2.pb.cell 8,HL.o.keeps h.2.kw⟩) ⟨fun j hj=>by simp at hj,ai.o⟩
  (fun k W=>(fun u:Bq=>(({ tmps:=#[pH #[T,U,X,Y,x4,x5,x6,x7,pF ja ln jc,x9],I_ conn,p_ w 0,p1 w 0,p2 w 0,p3 w 0,I_ (k:Int),p_ W 0,pH #[T,U,X,Y,x4,x5,x6,x7,pF ja ln jc,x9],
     .func (.func 73) #[] #[pG (some (A4 w 0))],I_ (k:Int),pH (jobA u),UD,UD,UD,UD,UD],defers:=[] } : Act),W.alloc (.cells (jobA u) 61))) (js.getD k job0))
  (fun k W=>(Aa.refl [] W).alloc _) ?assign ?body ?done ?stop
 case assign=>
  intro l k W K hK;simp only [RS];dsimp only at hK;generalize js.getD k job0=u at hK ⊢;gi_wp2_with (refine Fi bD 61 _ _ bD W (jobA u) bD bD 61 _ (Blk.new W _ _) (D2 u) rfl (Gp u) ?_;rw [pQ]);exact hK
 case body=>
  rintro l D k W W2 ⟨hN,hI⟩ G N hk2;obtain⟨rfl,hkn⟩:=E8 G;obtain⟨u,hu⟩:∃u,js[k]? = some u:=⟨_,Aq iV⟩;have hgd:js.getD k job0=u:=by rw [AO,hu];rfl
  dsimp only at hk2 ⊢;rw [hgd] at hk2 ⊢;rw [AP] at hN;have au:W.heap.size<=W2.heap.size:=by have:=hk2.size;rw [Eo] at this;omega
  have B:=(hI.keeps ((Aa.refl [] W).alloc (.cells (jobA u) 61)) bA).keeps hk2 bF;have hb:=(Blk.new W 61 (jobA u)).keeps hk2 bI;have d2:W2.cell? (A_ W 0)=some (I_ u.conn):=hb.cell 0;have q1:=B.nb.ce 0;have q4:=B.c4.ce 0;have q5:=B.c5.ce 0;have f4:=B.c4.frozen 0;have f5:=B.c5.frozen 0;have J:=lH B;have HU:=lH hu;have HN:=lH hN;clear hI G hk2 B hb hgd hu hN;by_cases hnm:u.conn=conn
  ·have ap:(u.conn==conn)=true:=by simpa using hnm
   have E:Hi (BF js conn=some k):=lH (WI HN.o HU.o hnm);clear hnm;gi_wp2;have hk3:Aa [w.heap.size+1+1,w.heap.size+1+1+1] W2 ((W2.setCell (A2 w 0) (I_ (k:Int))).setCell (A3 w 0) (pI true)):=((Aa.refl _ W2).setCell (p:=A2 w 0) (.inl bA) _).setCell (p:=A3 w 0) (.inl bA) _;refine⟨hk3.size,fun y hy=>hk3.block y gB iT,k,E.o,?_,?_,J.o.kw.own hk3 bF⟩
   ·exact(J.o.c4.set_ 0 (I_ (k:Int))).far bA _
   ·exact(J.o.c5.far bA _).set_ 0 (pI true)
  ·have ap:(u.conn==conn)=false:=by simpa using hnm
   have aj:Hi (kV js conn (AC k++[k]).length):=lH (by
    rw [Al,AP,Bp];intro j hj t F;rcases pP j k with h | h
    ·exact HN.o j h t F
    ·obtain rfl:j=k:=bB;rw [HU.o] at F;injection F with F
     rw [<- F];exact hnm)
   clear hnm;gi_wp2;exact⟨Aw _,fun _ _=>rfl,aj.o,J.o⟩
 case done=>
  rintro W ⟨hN,hI⟩ N hK;rw [AP] at hN;have E:Hi (BF js conn=none):=lH (So (by rw [HLN.o];exact hN));have q4:=hI.c4.ce 0;have q5:=hI.c5.ce 0;have f4:=hI.c4.frozen 0;have f5:=hI.c5.frozen 0;have HI:=lH hI;clear hI hN;gi_wp2;obtain⟨WF,M⟩:=eX ((W.setCell (A2 w 0) (I_ 0)).setCell (A3 w 0) (pI false));have hk3:Aa [w.heap.size+1+1,w.heap.size+1+1+1] W WF:=by rw [<- M];exact((Aa.refl _ W).setCell (p:=A2 w 0) (.inl bA) _).setCell (p:=A3 w 0) (.inl bA) _
  have d2:Blk WF (w+1+1) 3 #[pE pK 0]:=by rw [<- M];exact(HI.o.c4.set_ 0 (I_ 0)).far bA _
  have d3:Blk WF (w+1+1+1) 4 #[pI false]:=by rw [<- M];exact(HI.o.c5.far bA _).set_ 0 (pI false)
  rw [M];have ao:WF.heap[w1.heap.size]? = some (.deferred (some [])):=(hk3.block _ bB bI).trans hK;refine⟨by simp,.inl ⟨_,_,rfl,run_takeDeferred ao,?_⟩⟩;have hk4:=AG (S:=[w1.heap.size]) WF (.deferred none) (l:=w1.heap.size) bA;have e2:=(d2.keeps hk4 bG).ce 0;have e3:=(d3.keeps hk4 bG).ce 0;refine⟨.tuple #[pE pK 0,pI false],by simp [results,results28,go_sem,e2,e3],?_⟩;rw [E.o];exact⟨rfl,(HI.o.kw.own hk3 bF).own hk4 bF⟩
 case stop=>
  rintro D W G ⟨k,ag,hX⟩ N hK;have HX:=lH hX;have E:=lH ag;clear hX ag;gi_wp2;refine⟨by simp,.inl ⟨_,_,rfl,run_takeDeferred hK,?_⟩⟩;have hk4:=AG (S:=[w1.heap.size]) W (.deferred none) (l:=w1.heap.size) bA;have e2:=(HX.o.c4.keeps hk4 bG).ce 0;have e3:=(HX.o.c5.keeps hk4 bG).ce 0;refine⟨.tuple #[pE pK (k:Int),pI true],by simp [results,results28,go_sem,e2,e3],?_⟩;rw [E.o];exact⟨rfl,HX.o.kw.own hk4 bF⟩
theorem Pu{js:List Bq}{conn:Int}{k:Nat}(h:BF js conn=some k):k<js.length:=by
 unfold BF at h;exact(Dx.1 h).1
structure CV where
 oa:Option Addr
 on:Nat
 oc:Nat
 r:B6
 gn:Nat
 un:Nat
 fn:Nat
 ln:Nat
 seq:Int
 pa:Option Addr
 pn:Nat
 pc:Nat
 pv:List SV
 nx:Int
 ja:Option Addr
 jn:Nat
 jc:Nat
 da:Option Addr
 dn:Nat
 dc:Nat
def ctlA(v:CV):Array Value:=#[pF v.oa v.on v.oc,pF v.r.s.ga v.gn v.r.s.gc,pF v.r.s.ua v.un v.r.s.uc,pF v.r.s.fa v.fn v.r.s.fc,pF v.r.la v.ln v.r.lc,pE pK v.seq,pF v.pa v.pn v.pc,pE pK v.nx,pF v.ja v.jn v.jc,pF v.da v.dn v.dc]
def O9(j:Bq):Prop:=j.line.size<=1000000/\-9223372036854775808<=j.req.com.at_/\j.req.com.at_<=9223372036854775807
structure Cg(w:World)(v:CV)(c:BN):Prop where
 o:IE w v.oa v.oc c.ops
 on:c.ops.length=v.on
 ol:v.on≤1000
 os:∀o∈c.ops,o.name.size≤maxLen
 r:CH w v.r c.reg
 g:c.reg.slots.gens.length=v.gn
 u:c.reg.slots.used.length=v.un
 f:c.reg.slots.free.length=v.fn
 l:c.reg.l.length=v.ln
 q:c.reg.seq=v.seq
 p:BP w v.pa v.pc v.pv c.pool
 pn:v.pv.length=v.pn
 pl:v.pn≤1000
 nx:c.pool.next=v.nx
 j:Kt w v.ja v.jc c.jobs
 jn:c.jobs.length=v.jn
 jl:v.jn≤900
 js:∀j∈c.jobs,O9 j
 d:O8 w v.da v.dc c.done
 dn:c.done.length=v.dn
 dl:v.dn≤900
theorem Cg.keeps{w w':World}{v:CV}{c:BN}(h:Cg w v c)(hk:Aa [] w w'):Cg w' v c:={ h with o:=h.o.keeps hk,r:=h.r.keeps hk,p:=h.p.keeps hk,j:=h.j.keeps hk,d:=h.d.keeps hk }
theorem Cg.lv{w:World}{v:CV}{c:BN}(h:Cg w v c):v.r.lv.length=v.ln:=by rw [h.r.t.len];exact h.l
def JB(met:List Int)(j:Bq):Bool:=Gn j&&!met.contains j.conn
theorem Nn:∀(A B:List Bq) (met:List Int),EB met (A++B)=(EB met A&&EB (met++A.map (·.conn)) B)
 | [],B,met=>by simp [EB]
 | a::A,B,met=>by
  simp only [AL,EB,CR];rw [Nn A B,CC];simp only [EJ];rfl
theorem Pf{L:List Bq}{k:Nat}{j:Bq}(h:L[k]? = some j):EB [] (L.take (k+1))=(EB [] (L.take k)&&JB ((L.take k).map (·.conn)) j):=by
 rw [A0 h,Nn];simp [EB,JB]
theorem YC{L:List Bq}{k:Nat}{j:Bq}(h:L[k]? = some j)(hb:JB ((L.take k).map (·.conn)) j=false):EB [] L=false:=by
 have h3:=Pf h;rw [hb,Bool.and_false] at h3;have:=Nn (L.take (k+1)) (L.drop (k+1)) [];rw [Dn,h3,Ep] at this;exact this
theorem iI{w:World}{b:Nat}{met:List Int}(h:DV (pE .i64) w b met)(k:Int):(Ed 107 (.map (some b)) (I_ k) false).run prog w = .ok (pI (decide (k∈met))) w:=
 h.look KQ underlying107 underlying3 bC k
theorem eG{w:World}{b:Nat}{met:List Int}(h:DV (pE .i64) w b met)(k:Int)(hn:k∉met):∃o,(Instr.mapUpdate 107 (.map (some b)) (I_ k) (pI true)).run prog w = .ok () (w.putObj b o)/\DV (pE .i64) (w.putObj b o) b (met++[k]):=
 h.update KQ underlying107 underlying3 k hn
structure eW(w:World)(v:CV)(met:List Int)(A:World):Prop where
 b0:Blk A w.heap.size 36 #[pF v.oa v.on v.oc,pF v.r.s.ga v.gn v.r.s.gc,pF v.r.s.ua v.un v.r.s.uc,pF v.r.s.fa v.fn v.r.s.fc,pF v.r.la v.ln v.r.lc,pE pK v.seq,pF v.pa v.pn v.pc,pE pK v.nx,pF v.ja v.jn v.jc,pF v.da v.dn v.dc]
 b1:Blk A (w.heap.size+1) 4 #[pI false]
 mp:DV (pE .i64) A (w.heap.size+1+1) met
 mx:Blk A (w.heap.size+1+1+1) 107 #[.map (some (w.heap.size+1+1))]
 pb:Blk A (w.heap.size+1+1+1+1) 36 #[pF v.oa v.on v.oc,pF v.r.s.ga v.gn v.r.s.gc,pF v.r.s.ua v.un v.r.s.uc,pF v.r.s.fa v.fn v.r.s.fc,pF v.r.la v.ln v.r.lc,pE pK v.seq,pF v.pa v.pn v.pc,pE pK v.nx,pF v.ja v.jn v.jc,pF v.da v.dn v.dc]
 kw:Aa [] w A
theorem eW.keeps{w:World}{v:CV}{met:List Int}{A A':World}{S:List Nat}(h:eW w v met A)(hk:Aa S A A')(hS:∀y∈S,w.heap.size+4<y):eW w v met A':=
 have hn:∀y,y<=w.heap.size+4->y∉S:=fun y hy hm=>by have:=hS y hm;omega
 ⟨h.b0.keeps hk (hn _ bB),h.b1.keeps hk (hn _ bB),h.mp.keeps hk (hn _ bB),h.mx.keeps hk (hn _ bB),h.pb.keeps hk (hn _ bB),h.kw.own hk bM⟩
theorem Ij(v:CV)(c:BN)(b:Bool)(hb:JY c=b)(w:World)(h:Cg w v c):
  Calls prog 13 #[pH #[pF v.oa v.on v.oc,pF v.r.s.ga v.gn v.r.s.gc,pF v.r.s.ua v.un v.r.s.uc,pF v.r.s.fa v.fn v.r.s.fc,pF v.r.la v.ln v.r.lc,pE pK v.seq,pF v.pa v.pn v.pc,pE pK v.nx,pF v.ja v.jn v.jc,pF v.da v.dn v.dc]] w fun x w'=>x = pJ (pI b)/\Aa [] w w':=by
 have a3:=lH (fun W=>RU (pF v.oa v.on v.oc) (pF v.r.s.ga v.gn v.r.s.gc) (pF v.r.s.ua v.un v.r.s.uc) (pF v.r.s.fa v.fn v.r.s.fc) (pF v.r.la v.ln v.r.lc) (pE pK v.seq) (pF v.pa v.pn v.pc) (pE pK v.nx) (pF v.da v.dn v.dc) v.ja v.jn v.jc W);obtain⟨b1,hb1⟩:=eX (EB [] c.jobs);obtain⟨b2,hb2⟩:=eX (decide (c.done.length<=8));obtain⟨b3,ad⟩:=eX (G9 c.ops);obtain⟨b4,hb4⟩:=eX (I1 c.reg);obtain⟨b5,ae⟩:=eX (Ej c.pool);have HB:Hi ((b1&&b2&&b3&&b4&&b5)=b):=lH (by rw [<- hb,<- hb1,<- hb2,<- ad,<- hb4,<- ae];rfl);have HO:=lH (fun W (hk:Aa [] w W)=>Kg v.oa v.oc c.ops v.on h.on (by have:=h.ol;omega) h.os b3 ad W (h.o.keeps hk));have HR:=lH (fun W (hk:Aa [] w W)=>Kd v.r c.reg v.gn v.un v.fn v.ln h.g h.u h.f h.lv v.seq h.q b4 hb4 W (h.r.keeps hk));have HP:=lH (fun W (hk:Aa [] w W)=>Nx v.pa v.pc v.pv c.pool v.pn h.pn W (h.p.keeps hk) b5 ae);rw [h.nx] at HP;have HL:=lH h.j;have HLN:=lH h.jn;have ac:v.jn<=1000:=by have:=h.jl;omega
 have ax:decide ((v.dn:Int)<=8)=b2:=by rw [<- hb2,h.dn];congr 1;exact propext ⟨fun h=>by omega,fun h=>by omega⟩
 have HD:=lH ax;have HJ:=lH hb1;obtain⟨js,hjs⟩:=eX (c.jobs);rw [hjs] at HL HLN HJ;clear h hb hb1 hb2 ad hb4 ae ax hjs;refine(callsIn_wide (n:=9)).1 ?_;refine callsIn_of_wp_marks func13 rfl trivial ?_ rfl;simp only [ntmps13,Cz,Av,D4,pL,pM,Bt,Bu,Cd,BD,BH,AL];have bd:=fun W=>run_makeMap (P:=prog) 107 W;gi_wp2_with (fail);refine⟨trivial,(callsIn_wide.2 (a3.o _)).mono ?_⟩;rintro e w1 ⟨rfl,hw1⟩;gi_wp2_with (fail);have hsz:w1.heap.size=w.heap.size+5:=by rw [<- hw1];simp
 have av:eW w v [] w1:=by
  have hk:Aa [] w w1:=by rw [<- hw1];exact(((((Aa.refl [] w).alloc _).alloc _).alloc _).alloc _).alloc _
  refine⟨?_,?_,?_,?_,?_,hk⟩<;>rw [<- hw1]
  ·exact((((Blk.new w _ _).alloc _).alloc _).alloc _).alloc _
  ·exact(((Ar _ _ _ _ bA).alloc _).alloc _).alloc _
  ·have:=DV.new (kv:=pE .i64) ((w.alloc (.cells #[pF v.oa v.on v.oc,pF v.r.s.ga v.gn v.r.s.gc,pF v.r.s.ua v.un v.r.s.uc,pF v.r.s.fa v.fn v.r.s.fc,pF v.r.la v.ln v.r.lc,pE pK v.seq,pF v.pa v.pn v.pc,pE pK v.nx,pF v.ja v.jn v.jc,pF v.da v.dn v.dc] 36)).alloc (.cells #[pI false] 4))
   simp only [Eo] at this;exact(this.keeps ((Aa.refl [] _).alloc _) bA).keeps ((Aa.refl [] _).alloc _) bA
  ·exact(Ar _ _ _ _ bA).alloc _
  ·exact Ar _ _ _ _ bA
 have a0:=lH av;clear av hw1 bd;refine Cc rfl bB (gf:=73) (lb:=#[pG (some (A4 w 0))]) rfl trivial (enters_of func73 bC rfl) (RW 8 (w+1+1+1+1) v.ja v.jc v.jn js HLN.o ac) (fun _=>rfl)
  (fun B A=>EB [] (js.take B.length)=true/\eW w v ((js.take B.length).map (·.conn)) A) (fun _ A=>b1=false/\Blk A (w+1) 4 #[pI false]/\Aa [] w A)
  (fun B A A' h hk=>⟨h.1,h.2.keeps hk bF⟩)
  (fun B A A' h hk=>⟨h.1,h.2.1.keeps hk bI,h.2.2.own hk bF⟩)
  (fun B A h=>⟨h.2.pb.cell 8,HL.o.keeps h.2.kw⟩) ⟨rfl,a0.o⟩
  (fun k W=>(fun u:Bq=>(({ tmps:=#[pH #[pF v.oa v.on v.oc,pF v.r.s.ga v.gn v.r.s.gc,pF v.r.s.ua v.un v.r.s.uc,pF v.r.s.fa v.fn v.r.s.fc,pF v.r.la v.ln v.r.lc,pE pK v.seq,pF v.pa v.pn v.pc,pE pK v.nx,pF v.ja v.jn v.jc,pF v.da v.dn v.dc],pG (some (A_ w 0)),pG (some (A1 w 0)),pG (some (A3 w 0)),UD,pG (some (A_ W 0)),.map (some (w+1+1)),pH #[pF v.oa v.on v.oc,pF v.r.s.ga v.gn v.r.s.gc,pF v.r.s.ua v.un v.r.s.uc,pF v.r.s.fa v.fn v.r.s.fc,pF v.r.la v.ln v.r.lc,pE pK v.seq,pF v.pa v.pn v.pc,pE pK v.nx,pF v.ja v.jn v.jc,pF v.da v.dn v.dc],.func (.func 73) #[] #[pG (some (A4 w 0))],pE pK (k:Int),pH (jobA u),UD,UD,UD,UD,UD,UD,UD,UD,UD,UD,UD,UD,UD,UD,UD,UD,UD,UD,UD,UD,UD,UD,UD,UD,UD,UD,UD,UD,UD,UD,UD],defers:=[] } : Act),W.alloc (.cells (jobA u) 61))) (js.getD k job0))
  (fun k W=>(Aa.refl [] W).alloc _) ?assign ?body ?done ?stop
 case assign=>
  intro l k W K hK;simp only [RS];dsimp only at hK;generalize js.getD k job0=u at hK ⊢;gi_wp2_with (refine Fi bD 61 _ _ bD W (jobA u) bD bD 61 _ (Blk.new W _ _) (D2 u) rfl (Gp u) ?_;rw [pQ]);exact hK
 case body=>
  rintro l B k W W2 ⟨hN,hI⟩ T aa hk2;obtain⟨rfl,hkn⟩:=E8 T;obtain⟨u,hu⟩:∃u,js[k]? = some u:=⟨_,Aq iV⟩;have hgd:js.getD k job0=u:=by rw [AO,hu];rfl
  dsimp only at hk2 ⊢;rw [hgd] at hk2 ⊢;rw [AP] at hN hI;have bi:W.heap.size<=W2.heap.size:=by have:=hk2.size;rw [Eo] at this;omega
  have aw:=(hI.keeps ((Aa.refl [] W).alloc (.cells (jobA u) 61)) bA).keeps hk2 bF;have hb:=(Blk.new W 61 (jobA u)).keeps hk2 bI;have ar:w1.heap.size+1<W2.heap.size:=by omega
  obtain⟨y1,af⟩:=eX (Gn u);obtain⟨y2,ag⟩:=eX (decide (u.conn∈(js.take k).map (·.conn)));have HST:Hi (JB ((js.take k).map (·.conn)) u=(y1&&!y2)):=lH (by
   unfold JB;rw [af,List.contains_eq_mem,ag])
  have ah:=Wl u y1 af W2;have a1:=lH aw;have az:=lH hb;have HRB:=lH (hb.rng 0 (jobA u) (fun j x hx=>by rw [AW];simpa using hx));have HU:=lH hu;have HN:=lH hN;have HY2:=lH ag;clear hI T hk2 aw hb hgd hu hN af ag;gi_wp2_with (refine Fy bD 61 _ bD W 0 bD (jobA u) _ HRB.o underlying61 rfl (D2 u) ?_);refine⟨trivial,(callsIn_wide.2 ah).mono ?_⟩;rintro e W3 ⟨rfl,hk3⟩;clear ah HRB;have J:=a1.o.keeps hk3 bA;have d0:W3.cell? (A_ W 0)=some (pE pK u.conn):=(az.o.keeps hk3 bA).cell 0;have m0:=J.mx.ce 0;have q0:=J.b1.ce 0;have qf:=J.b1.frozen 0;have hlk:=iI J.mp u.conn;rw [HY2.o] at hlk;have E:=lH J;have ai:=lH hk3;clear J hk3;have HBD:Hi (JB ((js.take k).map (·.conn)) u=false->∀a,Jw w1 (fun B A=>EB [] (js.take B.length)=true/\eW w v ((js.take B.length).map (·.conn)) A) (fun _ A=>b1=false/\Blk A (w+1) 4 #[pI false]/\Aa [] w A) (AC k++[k]) W2 .ret a (W3.setCell (A1 w 0) (pI false))):=lH (fun h a=>I3 ai.o (Ae W3 (w+1) 0 (pI false)) ar bG bG ⟨by rw [<- HJ.o];exact YC HU.o h,by simpa using E.o.b1.set_ 0 (pI false),E.o.kw.own (Ae _ _ _ _) bF⟩);cases y1 with
  | false=>
   have HX:=lH (HBD.o kB);clear hlk;gi_wp2;exact HX.o _
  | true=>
   cases y2 with
   | true=>
    have HX:=lH (HBD.o kB);gi_wp2;exact HX.o _
   | false=>
    obtain⟨o,bo,Y⟩:=eG E.o.mp u.conn (by have:=HY2.o;simpa using this);have HX:Hi (∀a,Jw w1 (fun B A=>EB [] (js.take B.length)=true/\eW w v ((js.take B.length).map (·.conn)) A) (fun _ A=>b1=false/\Blk A (w+1) 4 #[pI false]/\Aa [] w A) (AC k++[k]) W2 .normal a (W3.putObj (w+1+1) o)):=lH (by
     intro a;have hp:=Ec W3 (w+1+1) o;refine FJ ai.o hp ar bG bG ?_;rw [Al,AP,Bp,Pf HU.o,HN.o,HST.o,A0 HU.o,pO];exact⟨rfl,E.o.b0.keeps hp bI,E.o.b1.keeps hp bI,Y,E.o.mx.keeps hp bI,E.o.pb.keeps hp bI,E.o.kw.own hp bF⟩)
    clear Y HBD;gi_wp2;exact HX.o _
 case done=>
  rintro W ⟨hN,hI⟩ aa hK;rw [AP,Ak lM] at hN;obtain rfl:b1=true:=by rw [<- HJ.o];exact hN
  have q:=hI.b0.rl;have q4:=hI.b1.ce 0;have f4:=hI.b1.frozen 0;have HI:Hi (∀G,Aa [] W G->eW w v ((js.take (AC v.jn).length).map (·.conn)) G):=lH (fun G hk=>hI.keeps hk bA);have HK:=lH hK;have a4:=lH hI.kw;have F:Hi (∀G,Aa [] W G->∀x,x=b->(G.setCell (A1 w 0) (pI x)).heap[w1.heap.size]? = some (.deferred (some []))/\((G.setCell (A1 w 0) (pI x)).putObj w1 (.deferred none)).cell? (A1 w 0)=some (pI x)/\Aa [] w ((G.setCell (A1 w 0) (pI x)).putObj w1 (.deferred none))):=lH (by
   rintro G hk x rfl;have au:=HI.o G hk;have hk3:=Ae G (w+1) 0 (pI x);have d2:Blk (G.setCell (A1 w 0) (pI x)) (w+1) 4 #[pI x]:=by simpa using au.b1.set_ 0 (pI x)
   have hk4:=AG (S:=[w1.heap.size]) (G.setCell (A1 w 0) (pI x)) (.deferred none) (l:=w1.heap.size) bA;have O:=(d2.keeps hk4 bG).ce 0;have:=hk.size;exact⟨(((hk.mono bA).trans hk3).block _ bB bI).trans HK.o,O,(au.kw.own hk3 bF).own hk4 bF⟩)
  clear hI hN hK hsz;cases b2 with
  | false=>
   have bb:¬(v.dn:Int)<=8:=by have:=HD.o;simpa using this
   gi_wp2_with (fail);refine⟨trivial,?_⟩;gi_wp2_with (fail);refine⟨trivial,?_⟩;gi_wp2_with (fail);refine⟨trivial,?_⟩;gi_wp2_with (fail);have D:false=b:=by rw [<- HB.o];rfl
   have hE:=F.o W (Aa.refl [] W) false D;subst D;refine⟨by simp,.inl ⟨_,_,rfl,run_takeDeferred hE.1,?_⟩⟩;have O:=hE.2.1;exact⟨pI false,by simp [results,results13,go_sem,O],rfl,hE.2.2⟩
  | true=>
   have bb:(v.dn:Int)<=8:=by have:=HD.o;simpa using this
   gi_wp2_with (fail);refine⟨trivial,(callsIn_wide.2 (HO.o W a4.o)).mono ?_⟩;rintro e X1 ⟨rfl,hx1⟩;have HX1:=lH hx1;have M:=HI.o X1 hx1;have q:=M.b0.rl;have q4:=M.b1.ce 0;have f4:=M.b1.frozen 0;have aj:=lH M.kw;clear M hx1;cases b3 with
   | false=>
    gi_wp2_with (fail);refine⟨trivial,?_⟩;gi_wp2_with (fail);refine⟨trivial,?_⟩;gi_wp2_with (fail);have D:false=b:=by rw [<- HB.o];rfl
    have hE:=F.o X1 HX1.o false D;subst D;refine⟨by simp,.inl ⟨_,_,rfl,run_takeDeferred hE.1,?_⟩⟩;have O:=hE.2.1;exact⟨pI false,by simp [results,results13,go_sem,O],rfl,hE.2.2⟩
   | true=>
    gi_wp2_with (fail);refine⟨trivial,(callsIn_wide.2 (HR.o X1 aj.o)).mono ?_⟩;rintro e X2 ⟨rfl,hx2⟩;have HX2:=lH (HX1.o.trans hx2);have N:=HI.o X2 HX2.o;have q:=N.b0.rl;have q4:=N.b1.ce 0;have f4:=N.b1.frozen 0;have ak:=lH N.kw;clear N hx2;cases b4 with
    | false=>
     gi_wp2_with (fail);refine⟨trivial,?_⟩;gi_wp2_with (fail);have D:false=b:=by rw [<- HB.o];rfl
     have hE:=F.o X2 HX2.o false D;subst D;refine⟨by simp,.inl ⟨_,_,rfl,run_takeDeferred hE.1,?_⟩⟩;have O:=hE.2.1;exact⟨pI false,by simp [results,results13,go_sem,O],rfl,hE.2.2⟩
    | true=>
     gi_wp2_with (fail);refine⟨trivial,(callsIn_wide.2 (HP.o X2 ak.o)).mono ?_⟩;rintro e X3 ⟨rfl,ay⟩;have an:=lH (HX2.o.trans ay);have ab:=HI.o X3 an.o;have q4:=ab.b1.ce 0;have f4:=ab.b1.frozen 0;clear ab ay;gi_wp2_with (fail);have D:b5=b:=by rw [<- HB.o];rfl
     have hE:=F.o X3 an.o b5 D;subst D;refine⟨by simp,.inl ⟨_,_,rfl,run_takeDeferred hE.1,?_⟩⟩;have O:=hE.2.1;exact⟨pI b5,by simp [results,results13,go_sem,O],rfl,hE.2.2⟩
 case stop=>
  rintro B W T ⟨U,X,hkw⟩ aa hK;obtain rfl:b=false:=by rw [<- HB.o,U];rfl
  have al:=lH X;have HKW:=lH hkw;have HSZ:=lH hsz;clear U X hkw hsz;gi_wp2;have hsz:=HSZ.o;refine⟨by simp,.inl ⟨_,_,rfl,run_takeDeferred hK,?_⟩⟩;have hk4:=AG (S:=[w1.heap.size]) W (.deferred none) (l:=w1.heap.size) bA;have O:=(al.o.keeps hk4 bG).ce 0;exact⟨pI false,by simp [results,results13,go_sem,O],rfl,HKW.o.own hk4 bF⟩
inductive oL|mk (A:CV)
abbrev C_:=oL.mk
instance(A:CV):CoeDep oL (C_ A) (Array Value):=⟨#[.slice A.oa A.on A.oc,.slice A.r.s.ga A.gn A.r.s.gc,.slice A.r.s.ua A.un A.r.s.uc,.slice A.r.s.fa A.fn A.r.s.fc,.slice A.r.la A.ln A.r.lc,pE pK A.seq,.slice A.pa A.pn A.pc,pE pK A.nx,.slice A.ja A.jn A.jc,.slice A.da A.dn A.dc]⟩
end
section
open Go.RowKit Go.Shelf
theorem AD(v:CV):(prog.info? 36).map (·.size)=some (ctlA v).size:=by
 have:(prog.info? 36).map (·.size)=some 10:=bC;exact this
theorem Bc(v:CV):(ctlA v).all (·.oneCell')=true:=by simp [ctlA,Value.oneCell']
def H9(w:World)(S:List Nat):Prop:=∀y∈S,∃cs t fz,w.heap[y]? = some (.cells cs t fz)/\t≠147/\t≠9
theorem H9.str{w:World}{S:List Nat}(h:H9 w S):ID w S:=fun k hk cs fz e=>by
 obtain⟨cs',t,fz',h1,_,h3⟩:=h k hk;rw [h1] at e;injection e with e;injection e with _ e _
 exact h3 e
theorem H9.snap{w:World}{S:List Nat}(h:H9 w S):∀k∈S,∀(cs:Array Value) (fz:Nat×Nat),w.heap[k]?≠some (Obj.cells cs 147 fz):=fun k hk cs fz e=>by
 obtain⟨cs',t,fz',h1,h2,_⟩:=h k hk;rw [h1] at e;injection e with e;injection e with _ e _
 exact h2 e
theorem H9.blk{w:World}{g:Nat}{t:TypeId}{cs:Array Value}(h:Blk w g t cs)(h1:t≠147)(h2:t≠9):H9 w [g]:=fun y hy=>by
 obtain rfl:=Ag.1 hy;exact⟨cs,t,(0,0),h,h1,h2⟩
theorem BP.off{w w':World}{a:Option Addr}{c:Nat}{V:List SV}{p:Po}{S:List Nat}(h:BP w a c V p)(hk:Aa S w w')(ho:H9 w S):BP w' a c V p:=
 ⟨h.le,h.small,h.row.keepsS hk ho.snap,h.mt.keepsS hk ho.str⟩
structure DU(Q:Nat→Prop)(v:CV)(c:BN):Prop where
 o:DW Q v.oa v.on
 r:CL Q v.r c.reg
 d:DW Q v.da v.dn
theorem Cg.later{w:World}{v:CV}{c:BN}{Q:Nat->Prop}(h:Cg w v c)(hQ:∀y,Q y->w.heap.size<=y):DU Q v c/\DW Q v.ja v.jn:=
 ⟨⟨h.o.no h.on hQ,h.r.later hQ,h.d.no h.dn hQ⟩,h.j.no h.jn hQ⟩
theorem Cg.jobs{w w':World}{v:CV}{c:BN}{S:List Nat}{Q:Nat->Prop}(h:Cg w v c)(hn:DU Q v c)(hk:Aa S w w')(hS:∀y∈S,Q y)(ho:H9 w S){ja:Option Addr}{jn jc:Nat}{js:List Bq}(hj:Kt w' ja jc js)(hjn:js.length=jn)(hjl:jn<=900)(hjs:∀j∈js,O9 j):
  Cg w' { v with ja:=ja,jn:=jn,jc:=jc } { c with jobs:=js }:=
 { on:=h.on,ol:=h.ol,os:=h.os,g:=h.g,u:=h.u,f:=h.f,l:=h.l,q:=h.q,pn:=h.pn,pl:=h.pl,nx:=h.nx,dn:=h.dn,dl:=h.dl,o:=h.o.keepsN hk (fun h0 g o e hm=>hn.o (by rw [<- h.on];exact h0) g o e (hS g hm)),r:=h.r.stay hn.r hk hS,p:=h.p.off hk ho,d:=h.d.keepsN hk (fun h0 g o e hm=>hn.d (by rw [<- h.dn];exact h0) g o e (hS g hm)),j:=hj,jn:=hjn,jl:=hjl,js:=hjs }
theorem Cg.stay{w w':World}{v:CV}{c:BN}{S:List Nat}{Q:Nat->Prop}(h:Cg w v c)(hn:DU Q v c)(hj:DW Q v.ja v.jn)(hk:Aa S w w')(hS:∀y∈S,Q y)(ho:H9 w S):Cg w' v c:=
 h.jobs hn hk hS ho (h.j.keepsN hk (fun h0 g o e hm=>hj (by rw [<- h.jn];exact h0) g o e (hS g hm))) h.jn h.jl h.js
theorem Ey{w:World}{B:Nat}{e:TypeId}{sz n n2:Nat}{a:Option Addr}{c:Nat}{xs:List Value}{Q:Nat->Prop}(h:w.ownsRow B e sz (pF a n c) n2 xs)(hQ:∀g,(pF a n c).ownBlock=some g->¬Q g):DW Q a n:=fun _ g o e hq=>hQ g (by rw [e];rfl) hq
def TU(c:BN):BN:={ c with reg:=Hx c.reg (-1) }
theorem ZP(r:CJ):Hx r (-1)=r:=by
 unfold Hx;by_cases h:I1 r=true
 ·rw [if_pos h]
  have B:∀t∈r.l,0<=t.deadline:=fun t B=>by
   unfold I1 at h;simp only [Af] at h;have:=Oa h.2 t B;unfold Gq FG at this;simp only [Af,decide_eq_true_eq] at this;exact this.1.2.1.1.2
  generalize r.l=L at B;induction L with
  | nil=>rfl
  | cons t L ih=>
   rw [List.foldl_cons];have:GS (-1) r t=r:=by
    unfold GS;have:=B t bA;rw [if_pos bB]
   rw [this];exact ih (fun u hu=>B u (by simp [hu]))
 ·rw [if_neg h]
theorem UY(c:BN):TU c=c:=by unfold TU;rw [ZP]
structure fL(w:World)(v:CV)(c:BN)(a1:Option Addr)(c1:Nat)(a2:Option Addr)(c2:Nat)(a3:Option Addr)(c3:Nat)(pv:Value)(V:List SV)(wc:World):Prop where
 b0:Blk wc w.heap.size 36 #[pF a1 v.on c1,pF v.r.s.ga v.gn v.r.s.gc,pF v.r.s.ua v.un v.r.s.uc,pF v.r.s.fa v.fn v.r.s.fc,pF v.r.la v.ln v.r.lc,pE pK v.seq,pv,pE pK v.nx,pF a2 v.jn c2,pF a3 v.dn c3]
 b1:Blk wc (w.heap.size+1) 36 Hh.k
 o:wc.ownsRow (w.heap.size+2) 81 2 (pF a1 v.on c1) v.on (c.ops.flatMap Eg)
 j:wc.ownsRow (w.heap.size+2) 61 24 (pF a2 v.jn c2) v.jn (c.jobs.flatMap encJob)
 d:wc.ownsRow (w.heap.size+2) 73 3 (pF a3 v.dn c3) v.dn (c.done.flatMap Cu)
 p:Da wc (w.heap.size+2) pv V
 m:Mt wc V c.pool.l
 kw:Aa [] w wc
theorem DW.mono{Q Q':Nat->Prop}{a:Option Addr}{n:Nat}(h:DW Q' a n)(hQ:∀y,Q y->Q' y):DW Q a n:=fun h0 g o e hq=>h h0 g o e (hQ g hq)
theorem CL.mono{Q Q':Nat->Prop}{v:B6}{r:CJ}(h:CL Q' v r)(hQ:∀y,Q y->Q' y):CL Q v r:=
 ⟨h.g.mono hQ,h.u.mono hQ,h.f.mono hQ,h.l.mono hQ,fun u hu=>⟨(h.t u hu).1.mono hQ,(h.t u hu).2.mono hQ⟩⟩
theorem Yd{w wc wd:World}{v:CV}{c:BN}{U a2 X O:Option Addr}{Y c2 c3 M k:Nat}{J:List SV}(h:Cg w v c)(B:fL w v c U Y a2 c2 X c3 (pF O k M) J wc)(ac:k<=M)(F:J.length=k)(hk:k<=1000)
 {v2:B6}{gn un fn ln:Nat}{seq:Int}(hq:seq=(Hx c.reg (-1)).seq)(hg:(Hx c.reg (-1)).slots.gens.length=gn)(hu:(Hx c.reg (-1)).slots.used.length=un)(hf:(Hx c.reg (-1)).slots.free.length=fn)(hl:(Hx c.reg (-1)).l.length=ln)
 (hm:CH wd v2 (Hx c.reg (-1)))(hn:CL (· < wc.heap.size) v2 (Hx c.reg (-1)))(D:Aa [] wc wd)(N:World)(hF:Aa [w.heap.size,w.heap.size+1] wd N):
  let v':CV:=⟨U,v.on,Y,v2,gn,un,fn,ln,seq,O,k,M,J,v.nx,a2,v.jn,c2,X,v.dn,c3⟩
  Cg N v' (TU c)/\N.ownsRow w 61 24 (.slice v'.ja v'.jn v'.jc) v'.jn (c.jobs.flatMap encJob)/\(∀g,(pF v'.ja v'.jn v'.jc).ownBlock=some g->DU (· = g) v' (TU c))/\DU (· < w.heap.size) v' (TU c)/\Aa [] w N:=by
 intro v';have hz:=B.kw.size;have ad:=B.b1.lt;have o2:=Ah B.o D bA;have G:=Ah B.j D bA;have T:=Ah B.d D bA;have hp:BP wd O M J c.pool:=⟨by omega,by omega,by
  obtain⟨a',c',e1,_,hr⟩:=(B.p.keeps D).row;rw [F] at e1;injection e1 with e1 _ _
  rw [e1];exact hr,B.m.keeps D⟩
 have hM:Cg wd v' (TU c):=
  { on:=h.on,ol:=h.ol,os:=h.os,pn:=F,pl:=hk,nx:=h.nx,jn:=h.jn,jl:=h.jl,js:=h.js,dn:=h.dn,dl:=h.dl,o:=AR.row (xs:=c.ops) Fc (by rw [h.on];exact o2),r:=hm,g:=hg,u:=hu,f:=hf,l:=hl,q:=hq.symm,p:=hp,j:=AR.row (xs:=c.jobs) Dc (by rw [h.jn];exact G),d:=AR.row (xs:=c.done) DL (by rw [h.dn];exact T) }
 have hQ:DU (fun y=>y=w.heap.size\/y=w.heap.size+1) v' (TU c):=
  ⟨Ey o2 (fun g hg e=>by have:=(o2.lt g hg).1;omega),hn.mono (fun y hy=>by show y<wc.heap.size;omega),Ey T (fun g hg e=>by have:=(T.lt g hg).1;omega)⟩
 have hJ:DW (fun y=>y=w.heap.size\/y=w.heap.size+1) a2 v.jn:=Ey G (fun g hg e=>by have:=(G.lt g hg).1;omega);have hoff:H9 wd [w.heap.size,w.heap.size+1]:=fun y hy=>by
  rcases Ac.1 hy with rfl | hy
  ·exact⟨_,_,_,B.b0.keeps D bA,by decide,by decide⟩
  ·obtain rfl:=Ag.1 hy
   exact⟨_,_,_,B.b1.keeps D bA,by decide,by decide⟩
 have hS:∀y∈[w.heap.size,w.heap.size+1],y=w.heap.size\/y=w.heap.size+1:=fun y hy=>by simpa using hy
 refine⟨hM.stay hQ hJ hF hS hoff,Bw (Ah G hF (fun g hg hm=>by have:=(G.lt g hg).1;have:=hS g hm;omega)) bB,fun g E=>⟨?_,?_,?_⟩,⟨Ey B.o (fun g hg e=>by have:=(B.o.lt g hg).1;omega),hn.mono gD,Ey B.d (fun g hg e=>by have:=(B.d.lt g hg).1;omega)⟩,(B.kw.trans D).own hF bF⟩
 ·exact Ey B.o (fun x hx e=>FP B.o B.j bE x g hx E e)
 ·exact hn.mono (fun y hy=>by rw [hy];exact(B.j.lt g E).2)
 ·exact Ey B.d (fun x hx e=>FP B.d B.j bE x g hx E e)
end
section
open Go.RowKit Go.Shelf
attribute [local go_sem] pN Lr Ls Lp Lq
attribute [local go_sem ↓] wp_at_zero wp_at_succ
def Ka(j:Bq):Bq:={ j with line:=F0 j.line,reply:=F0 j.reply,req:={ j.req with who:=F0 j.req.who,com:=MS j.req.com } }
def Oq(a:IA):IA:=⟨F0 a.who,a.id,F0 a.text⟩
def IH(c:BN):BN:=⟨Jg c.ops,F9 c.reg,⟨Rk c.pool.l,c.pool.next⟩,[],[]⟩
def MU(c:BN):BN:={ IH c with jobs:=(c.jobs.take 6).map Ka,done:=(c.done.take 10).map Oq }
structure GY(w:World)(v:CV)(c:BN):Prop where
 o:IE w v.oa v.oc c.ops
 on:c.ops.length=v.on
 ol:v.on≤9223372036854775807
 os:∀o∈c.ops,o.name.size≤maxLen
 r:Lw w v.r c.reg
 g:c.reg.slots.gens.length=v.gn
 u:c.reg.slots.used.length=v.un
 f:c.reg.slots.free.length=v.fn
 l:v.r.lv.length=v.ln
 ll:v.ln≤9223372036854775807
 q:c.reg.seq=v.seq
 p:Ib w v.pa v.pv c.pool.l
 pn:v.pv.length=v.pn
 nx:c.pool.next=v.nx
 j:Kt w v.ja v.jc c.jobs
 jn:c.jobs.length=v.jn
 jl:v.jn≤9223372036854775807
 js:∀j∈c.jobs,-9223372036854775808≤j.req.com.at_∧j.req.com.at_≤9223372036854775807
 d:O8 w v.da v.dc c.done
 dn:c.done.length=v.dn
 dl:v.dn≤9223372036854775807
theorem GY.keeps{w w':World}{v:CV}{c:BN}(h:GY w v c)(hk:Aa [] w w'):GY w' v c:={ h with o:=h.o.keeps hk,r:=h.r.keeps hk,p:=h.p.keeps hk,j:=h.j.keeps hk,d:=h.d.keeps hk }
theorem VR{J w0 M w3 N w5 w7 B wS:World}{v:CV}{c:BN}{oa pa:Option Addr}{on oc gn un fn ln pn pc D:Nat}{F:B6}{pv:List SV}(ac:J.heap.size<=w0.heap.size)(hq:c.reg.seq=v.seq)(hx:c.pool.next=v.nx)
 (ho:IE w3 oa oc (Jg c.ops))(E:(Jg c.ops).length=on)(U:∀g o,oa=some (A_ g o)->M.heap.size<=g)(k3:Aa [] w3 B)(s3:w0.heap.size<=M.heap.size)
 (hr:CH w5 F (F9 c.reg))(hl:(F9 c.reg).slots.gens.length=gn/\(F9 c.reg).slots.used.length=un/\(F9 c.reg).slots.free.length=fn/\(F9 c.reg).l.length=ln)(hno:CL (fun y=>J.heap.size<=y/\y<N.heap.size) F (F9 c.reg))(k5:Aa [] w5 B)(s5:w0.heap.size<=N.heap.size)
 (hp:BP w7 pa pc pv ⟨Rk c.pool.l,v.nx⟩)(G:pv.length=pn)(k7:Aa [] w7 B)
 (T:Blk B D 36 Hh.k)(hkS:Aa [D] B wS)(X:w0.heap.size<=D)(ab:D<M.heap.size\/w3.heap.size<=D)(O:D<N.heap.size\/w5.heap.size<=D):
  Cg wS (⟨oa,on,oc,F,gn,un,fn,ln,v.seq,pa,pn,pc,pv,v.nx,none,0,0,none,0,0⟩:CV) (IH c)/\DU (fun y=>(J.heap.size<=y/\y<w0.heap.size)\/y=D) (⟨oa,on,oc,F,gn,un,fn,ln,v.seq,pa,pn,pc,pv,v.nx,none,0,0,none,0,0⟩:CV) (IH c):=by
 have hn:DU (fun y=>(J.heap.size<=y/\y<w0.heap.size)\/y=D) (⟨oa,on,oc,F,gn,un,fn,ln,v.seq,pa,pn,pc,pv,v.nx,none,0,0,none,0,0⟩:CV) (IH c):=by
  refine⟨fun h0 g o e hQ=>?_,?_,fun h0=>absurd h0 bA⟩
  ·have h1:=U g o e
   have h2:g<w3.heap.size:=by
    obtain⟨g',o',Y,h2,_⟩:=ho.at_ (by rw [E];exact h0);have e2:=(show oa=some (A_ g o) from e).symm.trans Y;cases e2;exact h2
   rcases hQ with hQ | hQ<;>omega
  ·refine CL.and2 (R:=fun y=>(J.heap.size<=y/\y<w0.heap.size)\/y=D) hno (hr.later (Q:=fun y=>w5.heap.size<=y) (fun _ hy=>hy)) ?_
   rintro y (hy | hy)
   ·exact .inl ⟨hy.1,by omega⟩
   ·subst hy;rcases O with h | h
    ·exact .inl ⟨by omega,h⟩
    ·exact .inr h
 have hm:Cg B (⟨oa,on,oc,F,gn,un,fn,ln,v.seq,pa,pn,pc,pv,v.nx,none,0,0,none,0,0⟩:CV) (IH c):=
  { o:=ho.keeps k3,on:=E,ol:=by rw [<- E];show((c.ops.take 12).map Rm).length<=1000;rw [Bd,Ax];omega,os:=fun o h=>by obtain⟨o',_,rfl⟩:=BO.1 h;exact A8 (VS 66 _) bZ,r:=hr.keeps k5,g:=hl.1,u:=hl.2.1,f:=hl.2.2.1,l:=hl.2.2.2,q:=hq,p:=by show BP B pa pc pv ⟨Rk c.pool.l,c.pool.next⟩;rw [hx];exact hp.keeps k7,pn:=G,pl:=by rw [<- G,hp.mt.len];show((c.pool.l.take 5).map OP).length<=1000;rw [Bd,Ax];omega,nx:=hx,j:=⟨Aw _,fun _=>rfl,fun h=>by cases h⟩,jn:=rfl,jl:=Ba _,js:=fun _ h=>(by cases h),d:=⟨Aw _,fun _=>rfl,fun h=>by cases h⟩,dn:=rfl,dl:=Ba _ }
 exact⟨hm.stay hn (fun h0=>absurd h0 bA) hkS (fun y hy=>.inr (Ag.1 hy)) (H9.blk T bE bE),hn⟩
theorem gW(j:Bq):(jobA j)[2]? = some (Dz j.line):=rfl
theorem gX(j:Bq):(jobA j)[3]? = some (Dz j.req.who):=rfl
theorem cS(j:Bq):(jobA j)[21]? = some (Dz j.reply):=rfl
attribute [local go_sem] gW gX cS
theorem Tn(c:FW):(prog.info? 57).map (·.size)=some (comA c).size:=by
 show _=some 12;kernel_rfl
theorem cC(c:FW):(comA c).all (·.oneCell')=true:=by simp [comA,Value.oneCell']
theorem cV(j:Bq):∀i v,(comA j.req.com).toList[i]? = some v->(jobA j)[5+i]? = some v:=by
 intro i v h;have e:(comA j.req.com).toList=((jobA j).toList.drop 5).take 12:=rfl;rw [e,Dh] at h;split at h
 ·rw [List.getElem?_drop] at h
  rw [<- qD];exact h
 ·cases h
theorem Zq{α:Type}{enc:α->List Value}{n k:Nat}{wr:World}{B:Nat}{v:Value}{ys:List α}{t e:TypeId}(J:prog.underlying t=some (.slice e))(hi:D1 (prog.info? e) n=true)(h0:0<n)(hn:∀x,(enc x).length=n)(D:∀x,∀u∈enc x,u.oneCell'=true)(hk:ys.length=k)
 (hv:wr.ownsRow B e n v k (ys.flatMap enc))(G:B<=wr.heap.size)(x:α)(hm:k+1<=1000000)(F:TypeId){cs:Array Value}(he:(enc x).toArray=cs)(W:World)(E:Aa [] wr W):
  ∃g c W4,(BI #[t,t] F #[v,pF (some (A_ W 0)) 1 1]).run prog (W.alloc (.cells cs e)) = .ok (pF (some (A_ g 0)) (k+1) c) W4/\
   W4.ownsRow B e n (pF (some (A_ g 0)) (k+1) c) (k+1) ((ys++[x]).flatMap enc)/\Aa v.ownBlock.toList wr W4:=by
 subst hk he;exact Q5 J hi h0 hn D hv G x hm F W E
theorem Lo{P:Program}{ops:Array Oper}{rest:List Oper}{o:Oper}{a:Act}{w:World}{Q:Exit->Act->World->Prop}(hgd:o.guard=none)(ty:TypeId)(x y:Operand)(ho:o.op = .store ty x y)
 (b k:Nat)(cells:Array Value)(hx:a.eval x = p_ b k)(hy:a.eval y = .agg cells)(t:TypeId)(old new:Array Value)(hb:Blk w b t old)(hs:k+cells.size<=old.size)(hn:Ht old k cells.toList=new)
 (hi:(P.info? ty).map (·.size)=some cells.size)(h1:cells.all (·.oneCell')=true)(h:∀W',Blk W' b t new->Aa [b] w W'->wpList P ops Q rest (a.put o.dst UD) W'):wpList P ops Q (o::rest) a w:=
 wpList_store_mid hgd ty x y ho b k cells hx hy (Blk.there hb k cells.size hs) hi h1 (h _ (hn▸hb.puts _ _) (Bb b k _ w))
theorem VQ{D w w0 wd W:World}{B:CV}{c:BN}{M:Nat}{S:List Nat}{ja da:Option Addr}{jn jc dn dc:Nat}{js:List Bq}{ds:List IA}(h:Cg wd B (IH c))(hn:DU (fun y=>(D.heap.size<=y/\y<w0.heap.size)\/y=M) B (IH c))(hz:w.heap.size<=w0.heap.size)(hk:Aa S wd W)
 (hS:∀y∈S,(D.heap.size<=y/\y<w0.heap.size)\/y=M)(ho:H9 wd S)(N:w0.heap.size<=wd.heap.size)(hj:W.ownsRow wd 61 24 (pF ja jn jc) jn (js.flatMap encJob))(hjn:js.length=jn)(G:jn<=900)(hjs:∀j∈js,O9 j)
 (J:W.ownsRow wd 73 3 (pF da dn dc) dn (ds.flatMap Cu))(F:ds.length=dn)(E:dn<=900):
  Cg W { B with ja:=ja,jn:=jn,jc:=jc,da:=da,dn:=dn,dc:=dc } { IH c with jobs:=js,done:=ds }/\
   (DU (fun y=>D.heap.size<=y/\y<w.heap.size) { B with ja:=ja,jn:=jn,jc:=jc,da:=da,dn:=dn,dc:=dc } { IH c with jobs:=js,done:=ds }/\DW (fun y=>D.heap.size<=y/\y<w.heap.size) ja jn):=by
 subst hjn F;refine⟨{ on:=h.on,ol:=h.ol,os:=h.os,g:=h.g,u:=h.u,f:=h.f,l:=h.l,q:=h.q,pn:=h.pn,pl:=h.pl,nx:=h.nx,jn:=rfl,dn:=rfl,dl:=E,jl:=G,js:=hjs,o:=h.o.keepsN hk (fun h0 g o e hm=>hn.o (by rw [<- h.on];exact h0) g o e (hS g hm)),r:=h.r.stay hn.r hk hS,p:=h.p.off hk ho,d:=AR.row DL J,j:=AR.row Dc hj },⟨hn.o.mono (fun y hy=>.inl ⟨hy.1,by omega⟩),hn.r.mono (fun y hy=>.inl ⟨hy.1,by omega⟩),(DQ J).no gD⟩,(DQ hj).no gD⟩
theorem Hm(v:CV)(c:BN)(wA:World)(hA:GY wA v c)(w:World)(O:Aa [] wA w):
  Calls prog 9 #[pH (ctlA v)] w fun e w'=>∃v',e = pJ (pH (ctlA v'))/\Cg w' v' (MU c)/\(DU (fun y=>wA.heap.size<=y/\y<w.heap.size) v' (MU c)/\DW (fun y=>wA.heap.size<=y/\y<w.heap.size) v'.ja v'.jn)/\Aa [] w w':=by
 have bb:ctlA v=(C_ v):=rfl;rw [bb];have a3:Hi (∀W,Aa [] w W->Calls prog 24 #[pF v.oa v.on v.oc] W fun e w'=>∃a' n' c',e = pJ (.slice a' n' c')/\IE w' a' c' (Jg c.ops)/\(Jg c.ops).length=n'/\(∀g o,a'=some (A_ g o)->W.heap.size<=g)/\Aa [] W w'):=lH fun W hk=>Wb v.oa v.oc c.ops v.on hA.on hA.ol hA.os W (hA.o.keeps (O.trans hk));have ay:Hi (∀W,Aa [] w W->Calls prog 25 #[pH (R_ v.r v.gn v.un v.fn v.ln v.seq)] W fun e w'=>∃(v':B6) (g u f l:Nat),e = pJ (pH (R_ v' g u f l v.seq))/\CH w' v' (F9 c.reg)/\
   ((F9 c.reg).slots.gens.length=g/\(F9 c.reg).slots.used.length=u/\(F9 c.reg).slots.free.length=f/\(F9 c.reg).l.length=l)/\CL (fun y=>wA.heap.size<=y/\y<W.heap.size) v' (F9 c.reg)/\Aa [] W w'):=lH fun W hk=>VP v.r c.reg v.gn v.un v.fn v.ln hA.g hA.u hA.f hA.l hA.ll v.seq hA.q wA hA.r W (O.trans hk)
 have a5:Hi (∀W,Aa [] w W->Calls prog 26 #[pH #[pF v.pa v.pn v.pc,I_ v.nx]] W fun r w'=>∃a' n' c' V',r = pJ (pH #[.slice a' n' c',I_ v.nx])/\V'.length=n'/\BP w' a' c' V' ⟨Rk c.pool.l,v.nx⟩/\Aa [] W w'):=lH fun W hk=>YR v.pa v.pc v.pv c.pool.l v.pn hA.pn v.nx W (hA.p.keeps (O.trans hk));have H:=lH (hA.keeps O);have HQ:=lH hA.q;have HX:=lH hA.nx;have aw:Hi (wA.heap.size<=w.heap.size):=lH O.size;clear hA O bb;obtain⟨w0,hw0⟩:=eX ((w.alloc (.cells (C_ v) 36)).alloc (.cells Hh.k 36));have HK0:Hi (Aa [] w w0):=lH lX;have hb0:Blk w0 w 36 (C_ v):=by rw [<- hw0];exact(Blk.new w _ _).alloc _
 have hb1:Blk w0 (w+1) 36 Hh.k:=by rw [<- hw0];exact Ar _ _ _ _ bA
 have HSZ:Hi (w0.heap.size=w.heap.size+2):=lH (by rw [<- hw0];simp);have b3:Hi (wA.heap.size<=w0.heap.size):=lH (by have:=aw.o;have:=HSZ.o;omega);have q0:=hb0.rl;have HB0:=lH hb0;have HB1:=lH hb1;clear hb0 hb1;go_enter func9,ntmps9;go_wp2_with fail;clear hw0;go_cut [3] (fun x wd=>∃(B:Nat) (oa:Option Addr) (on oc:Nat) (rv:B6) (gn un fn ln:Nat) (pa:Option Addr) (pn pc:Nat) (pv:List SV),x = p_ B 0/\Hi (Blk wd B 36 (ctlA (⟨oa,on,oc,rv,gn,un,fn,ln,v.seq,pa,pn,pc,pv,v.nx,none,0,0,none,0,0⟩:CV)))/\Hi (Cg wd (⟨oa,on,oc,rv,gn,un,fn,ln,v.seq,pa,pn,pc,pv,v.nx,none,0,0,none,0,0⟩:CV) (IH c)/\DU (fun y=>(wA.heap.size<=y/\y<w0.heap.size)\/y=B) (⟨oa,on,oc,rv,gn,un,fn,ln,v.seq,pa,pn,pc,pv,v.nx,none,0,0,none,0,0⟩:CV) (IH c))/\Hi (Aa [] w0 wd)/\Hi (w0.heap.size<=B))
 case first=>
  refine wp_region_held_drew (S:=(Aa [] w0)) bC (by((try dsimp only);(repeat(with_reducible first | exact am | exact hk5' | exact al | exact Aa.refl _ _ | refine Aa.drew ?_ | refine Aa.alloc ?_ _ | refine Aa.own ?_ hkS (fun y hy=>fC))))) (fun hHeld=>?_)
  repeat' (first | exact rZ | refine rX ?_ | ((first | (refine rA 2 (fun K hK=>?_) ?_;go_simp;(refine(a3.o _ (HK0.o.trans hHeld)).mono ?_;rintro e w3 ⟨oa,on,oc,rfl,bg,bf,be,hk3⟩;have ap:=lH (Bl bg (Bl bf be));clear bg bf be;have al:=hHeld.trans hk3;have b8:=hHeld.size;have ca:=hk3.size;(try simp at ca))) | (refine rA 5 (fun K hK=>?_) ?_;go_simp;(refine(ay.o _ (HK0.o.trans hHeld)).mono ?_;rintro e w5 ⟨rv,gn,un,fn,ln,rfl,bl,bj,bm,hk5⟩;have ar:=lH (Bl bl (Bl bj bm));clear bl bj bm;have hk5':=hHeld.trans hk5;have b9:=hHeld.size;have cc:=hk5.size;(try simp at cc))) | (refine rA 8 (fun K hK=>?_) ?_;go_simp;(refine(a5.o _ (HK0.o.trans hHeld)).mono ?_;rintro e w7 ⟨pa,pn,pc,pv,rfl,bh,bi,hk7⟩;have a6:=lH (Bl bh bi);clear bh bi;have am:=hHeld.trans hk7;have hz7:=hk7.size;(try simp at hz7))) | (refine rA 10 (fun K hK=>?_) ?_;go_simp) | (refine rA 11 (fun K hK=>?_) ?_;(refine DT 36 _ _ bD _ (ctlA (⟨oa,on,oc,rv,gn,un,fn,ln,v.seq,pa,pn,pc,pv,v.nx,none,0,0,none,0,0⟩:CV)) bD bD 36 Hh.k ?_ rfl (AD _) (Bc _) ?_;(· (repeat(with_reducible first | exact Blk.new _ _ _ | exact Ar _ _ _ _ bA | refine Blk.alloc ?_ _ | refine Blk.drew ?_ | refine Blk.keeps ?_ hk7 bA | refine Blk.keeps ?_ hk5 bA | refine Blk.keeps ?_ hk3 bA)));intro wS HRB hkS)));(try clear rH);refine rP hK ((by((try dsimp only);(repeat(with_reducible first | exact am | exact hk5' | exact al | exact Aa.refl _ _ | refine Aa.drew ?_ | refine Aa.alloc ?_ _ | refine Aa.own ?_ hkS (fun y hy=>fC)))))) fun rH hHeld=>?_;clear hK K) | (refine rK 0 ?_;refine rK 1 ?_;refine rK 3 ?_;refine rK 4 ?_;refine rK 6 ?_;refine rK 7 ?_) | (refine rK 9 ?_) | refine rB [2,5,8,10,11] ?_ | (refine wpAnyH_done bC ?_ _;(go_wp2_with fail;go_meet;exact⟨_,oa,on,oc,rv,gn,un,fn,ln,pa,pn,pc,pv,rfl,lH HRB,lH (VR b3.o HQ.o HX.o ap.o.1 ap.o.2.1 ap.o.2.2 nS b8 ar.o.1 ar.o.2.1 ar.o.2.2 nS b9 a6.o.2 a6.o.1 nS (by(repeat(with_reducible first | exact Blk.new _ _ _ | exact Ar _ _ _ _ bA | refine Blk.alloc ?_ _ | refine Blk.drew ?_ | refine Blk.keeps ?_ hk7 bA | refine Blk.keeps ?_ hk5 bA | refine Blk.keeps ?_ hk3 bA))) hkS gE (by first | (left;simp;done) | (left;simp;omega) | (right;simp;done) | (right;simp;omega) | (left;omega) | (right;omega)) (by first | (left;simp;done) | (left;simp;omega) | (right;simp;done) | (right;simp;omega) | (left;omega) | (right;omega))),lH hHeld,lH gE⟩)))
 case rest=>
  obtain⟨B,oa,on,oc,rv,gn,un,fn,ln,pa,pn,pc,pv,rfl,aq,ao,HKD,bt⟩:=hcut
  rename World=>wd
  clear q0;obtain⟨U,ai⟩:=eX ((⟨oa,on,oc,rv,gn,un,fn,ln,v.seq,pa,pn,pc,pv,v.nx,none,0,0,none,0,0⟩:CV));have cn:Hi (U.ja=none/\U.jn=0/\U.jc=0/\U.da=none/\U.dn=0/\U.dc=0):=lH (by rw [<- ai];exact⟨rfl,rfl,rfl,rfl,rfl,rfl⟩);have ak:Hi (Blk wd B 36 (ctlA { U with ja:=none,jn:=0,jc:=0,da:=none,dn:=0,dc:=0 })):=lH (by rw [<- ai];exact aq.o);rw [ai] at ao;have HKW:Hi (Aa [] w wd):=lH (HK0.o.trans HKD.o);have HOL:Hi (w.heap.size+2<=B/\B<wd.heap.size):=lH ⟨by have:=HSZ.o;have:=bt.o;omega,aq.o.lt⟩;have bu:Hi (wd.ownsRow wd 61 24 (pF none 0 0) 0 ([]:List Value)):=lH (BQ _ _ _ _);clear ai aq;go_wp2;go_loopw [4] (fun i wr=>∃(k:Nat) (ja:Option Addr) (jc:Nat),k<=v.jn/\k<=6/\i = I_ k/\Hi (Blk wr B 36 (ctlA { U with ja:=ja,jn:=k,jc:=jc,da:=none,dn:=0,dc:=0 }))/\Hi (wr.ownsRow wd 61 24 (pF ja k jc) k (((c.jobs.take k).map Ka).flatMap encJob))/\Hi (Aa [B] wd wr)) (fun i _=>6 - (intOf i).toNat)
  case atStart=>exact⟨0,none,0,Ba _,Ba _,rfl,ak,bu,lH (Aa.refl _ _)⟩
  case round=>
   obtain⟨k,ja,jc,b6,hk6,rfl,ae,HJR,HKR⟩:=hrel;have bw:Hi (Aa [] w wr):=lH (HKW.o.own HKR.o nV);have hb0:Blk wr w 36 (C_ v):=(HB0.o.keeps HKD.o bA).keeps HKR.o kK;have r0:=hb0.rl;by_cases hlt:k<v.jn/\k<6
   ·obtain⟨h1,h2⟩:=hlt
    have ab:k<c.jobs.length:=by rw [H.o.jn];exact h1
    obtain⟨X,off,x,ha,N,hx,hat⟩:=H.o.j.at_k (k:=k) ab;rw [ha] at r0;have au:Hi (wr.rangeAt X (off+k*24) (jobA x).toList):=lH (JC (fun j u hj=>(bw.o.cell (p:=A_ X _) N bA).trans (hat j u hj)));have af:Hi ((c.jobs.take (k+1)).map Ka=(c.jobs.take k).map Ka++[Ka x]):=lH (by rw [A0 hx,pO];rfl);have i1:(0:Int)<=(k:Int):=bB;have i2:(k:Int)<(v.jn:Int):=bB;have i3:(k:Int)<6:=bB;have cm:Hi (B<wr.heap.size):=lH ae.o.lt;have bp:Hi (wd.heap.size<=wr.heap.size):=lH HKR.o.size;have HH:Hi (h1=h1):=lH rfl;clear ha N hx hat ab hb0 HH;go_upto_region 6 with(first | (refine Ay bD 61 _ bD X (off+k*24) bD (jobA x) _ au.o underlying61 rfl (D2 x) ?_) | (refine wpList_store_row bD 61 _ _ bD wr (jobA x) bD bD 61 (jobA job0) (Blk.new wr _ _) (D2 _) rfl (Gp _) ?_;rw [pQ]))
    have hb1:=(Blk.new wr 61 (jobA x)).rl;go_wp2_with fail;refine(EU x.line _).mono ?_;rintro e w' ⟨rfl,rfl⟩;go_wp2_with fail;refine(EU x.reply _).mono ?_;rintro e w' ⟨rfl,rfl⟩;go_wp2_with fail;refine(EU x.req.who _).mono ?_;rintro e w' ⟨rfl,rfl⟩;go_upto_region 9 with fail
    obtain⟨x2,hx2⟩:∃x2:Bq,{ x with line:=F0 x.line,reply:=F0 x.reply,req:={ x.req with who:=F0 x.req.who } } = x2:=⟨_,rfl⟩;have e2:(((jobA x).setIfInBounds 2 (Dz (F0 x.line))).setIfInBounds 21 (Dz (F0 x.reply))).setIfInBounds 3 (Dz (F0 x.req.who))=jobA x2:=by rw [<- hx2];rfl
    rw [e2];obtain⟨w2,aj⟩:=eX (wr.alloc (.cells (jobA x2) 61));have hb2:Blk w2 wr 61 (jobA x2):=by rw [<- aj];exact Blk.new wr _ _
    have hk2:Aa [] wr w2:=by rw [<- aj];exact(Aa.refl [] wr).alloc _
    have hput:Ht (jobA x2) 5 (comA (MS x2.req.com)).toList=jobA (Ka x):=by rw [<- hx2];kernel_rfl
    rw [aj];have br:=lH (Blk.rng hb2 5 _ (cV x2));have b1:=lH hput;have HB2:=lH hb2;have HK2:=lH hk2;clear r0 hb1 hb2 hk2 hput aj hx2 e2;go_wp2_with (refine Ay bD 57 _ bD wr 5 bD (comA x2.req.com) _ br.o underlying57 rfl (Tn _) ?_);refine(Ts x2.req.com _).mono ?_;rintro e w3 ⟨rfl,hk3⟩;have bo:=lH (HB2.o.keeps hk3 bA);have bv:=lH (HK2.o.trans hk3);clear hk3;go_upto_region 10 with(refine Lo bD 57 _ _ bD wr 5 (comA (MS x2.req.com)) bD bD 61 (jobA x2) (jobA (Ka x)) bo.o (by show 5+12<=24;omega) b1.o (Tn _) (cC _) ?_;intro w4 hb4 hk4)
    obtain⟨z,hz⟩:=eX (Ka x);rw [hz] at hb4 af;have hkw:Aa [] wr w4:=bv.o.own hk4 QW;have o8:w4.cell? (A_ B 8)=some (pF ja k jc):=(ae.o.keeps hkw bA).cell 8;have bs:=lH (Blk.rng hb4 0 (jobA z) (fun j v h=>by rw [AW];simpa using h));obtain⟨M,J,F,ac,T,hk5⟩:=Zq (enc:=encJob) (t:=33) underlying33 OK bE Dc Ir (by rw [Bd,Ax];have:=H.o.jn;omega) HJR.o bp.o z bB 33 (cs:=#[pE pK z.conn,I_ z.phase,Dz z.line,Dz z.req.who,I_ z.req.id,I_ z.req.com.verb,Dz z.req.com.name,I_ z.req.com.want,I_ z.req.com.at_,pI z.req.com.rule.allow,I_ z.req.com.rule.addr,I_ z.req.com.rule.bits,I_ z.req.com.rule.from_,I_ z.req.com.rule.to_,Dz z.req.com.key,I_ z.req.com.n,I_ z.req.com.m,I_ z.req.count,I_ z.req.cursor,I_ z.req.from_,I_ z.role,Dz z.reply,I_ z.slot,I_ z.gen]) rfl w4 hkw;have E:=AZ HJR.o;have D:=ae.o.keeps hk5 (fun hm=>by have:=E _ hm;have:=HOL.o;omega);have p8:F.cell? (A_ B 8)=some (pF ja k jc):=D.cell 8;have f8:=D.frozen 8;have HF:Hi (Blk (F.setCell (A_ B 8) (pF (some (A_ M 0)) (k+1) J)) B 36 (ctlA { U with ja:=some (A_ M 0),jn:=k+1,jc:=J,da:=none,dn:=0,dc:=0 })/\(F.setCell (A_ B 8) (pF (some (A_ M 0)) (k+1) J)).ownsRow wd 61 24 (pF (some (A_ M 0)) (k+1) J) (k+1) (((c.jobs.take (k+1)).map Ka).flatMap encJob)/\Aa [B] wd (F.setCell (A_ B 8) (pF (some (A_ M 0)) (k+1) J))):=lH (by
     have hk6:Aa [B] F (F.setCell (A_ B 8) (pF (some (A_ M 0)) (k+1) J)):=Ae _ _ _ _;refine⟨D.set_ 8 _,by rw [af.o];exact Ah T hk6 (fun g hg hm=>by have:=(T.lt g hg).1;have:=HOL.o;simp only [Ac,Ab,or_false] at hm;omega),(HKR.o.trans' hk5 (fun y hy=>.inr (E y hy))).trans hk6⟩)
    clear hb4 hk4 hkw T hk5 E D hz
    iterate 7 go_step
    refine Ay bD 61 _ bD wr 0 bD (jobA z) _ bs.o underlying61 rfl (D2 _) ?_;rw [show jobA z=#[pE pK z.conn,I_ z.phase,Dz z.line,Dz z.req.who,I_ z.req.id,I_ z.req.com.verb,Dz z.req.com.name,I_ z.req.com.want,I_ z.req.com.at_,pI z.req.com.rule.allow,I_ z.req.com.rule.addr,I_ z.req.com.rule.bits,I_ z.req.com.rule.from_,I_ z.req.com.rule.to_,Dz z.req.com.key,I_ z.req.com.n,I_ z.req.com.m,I_ z.req.count,I_ z.req.cursor,I_ z.req.from_,I_ z.role,Dz z.reply,I_ z.slot,I_ z.gen] from rfl];go_wp2_with (at_builtin;refine Au _ rfl _ _ 33 rfl rfl rfl ac ?_);go_roundw;case rel=>exact⟨k+1,some (A_ M 0),J,by omega,by omega,by go_num,lH HF.o.1,lH HF.o.2.1,lH HF.o.2.2⟩
    case measure=>(simp [intOf];omega)
   ·have bz:Hi ((c.jobs.take 6).map Ka=(c.jobs.take k).map Ka):=lH (by
     have h1:=H.o.jn;rcases pP k 6 with h | h
     ·rw [Ak (by omega:c.jobs.length<=6),Ak (by omega:c.jobs.length<=k)]
     ·rw [show k=6 by omega])
    have hcase:((k:Int)<(v.jn:Int)/\¬(k:Int)<6)\/¬(k:Int)<(v.jn:Int):=bB;have a4:Hi (k<=v.jn/\k<=6):=lH ⟨b6,hk6⟩;have HD0:Hi (wr.ownsRow wd 73 3 (pF none 0 0) 0 ([]:List Value)):=lH (BQ _ _ _ _);clear hlt hb0;rcases hcase with⟨i2,i3⟩ | i2
    all_goals
     go_wp2_with fail;clear r0;go_loopw [6] (fun i w2=>∃(m:Nat) (da:Option Addr) (dc:Nat),m<=v.dn/\m<=10/\i = I_ m/\Hi (Blk w2 B 36 (ctlA { U with ja:=ja,jn:=k,jc:=jc,da:=da,dn:=m,dc:=dc }))/\Hi (w2.ownsRow wd 61 24 (pF ja k jc) k (((c.jobs.take k).map Ka).flatMap encJob))/\Hi (w2.ownsRow wd 73 3 (pF da m dc) m (((c.done.take m).map Oq).flatMap Cu))/\Hi (Aa [B] wd w2)) (fun i _=>10 - (intOf i).toNat)
     case atStart=>exact⟨0,none,0,Ba _,Ba _,rfl,ae,HJR,HD0,HKR⟩
     case round=>
      obtain⟨m,da,dc,cu,ck,rfl,aa,HJ2,Y,HK2⟩:=hrel;have G:Hi (Aa [] w wr):=lH (HKW.o.own HK2.o nV);have hb0:Blk wr w 36 (C_ v):=(HB0.o.keeps HKD.o bA).keeps HK2.o kK;have r9:wr.cell? (A_ w 9)=some (pF v.da v.dn v.dc):=hb0.cell 9;have ct:w.heap.size<wr.heap.size:=hb0.lt;by_cases hlt:m<v.dn/\m<10
      ·obtain⟨h1,h2⟩:=hlt
       have ab:m<c.done.length:=by rw [H.o.dn];exact h1
       obtain⟨X,off,x,ha,N,hx,hat⟩:=H.o.d.at_k (k:=m) ab;rw [ha] at r9;have q0:wr.cell? (A_ X (off+m*3))=_:=(G.o.cell (p:=A_ X _) N bA).trans (hat 0 _ rfl);have q1:wr.cell? (A_ X (off+m*3+1))=_:=(G.o.cell (p:=A_ X _) N bA).trans (hat 1 _ rfl);have q2:wr.cell? (A_ X (off+m*3+2))=_:=(G.o.cell (p:=A_ X _) N bA).trans (hat 2 _ rfl);have g9:=aa.o.frozen 9;have o9:wr.cell? (A_ B 9)=some (pF da m dc):=aa.o.cell 9;have af:Hi ((c.done.take (m+1)).map Oq=(c.done.take m).map Oq++[(⟨F0 x.who,x.id,F0 x.text⟩:IA)]):=lH (by rw [A0 hx,pO];rfl);have i4:(0:Int)<=(m:Int):=bB;have i5:(m:Int)<(v.dn:Int):=bB;have i6:(m:Int)<10:=bB;have E:=AZ Y.o;have cr:X<wr.heap.size:=BS N G.o.size;have n1:X∉(pF da m dc).ownBlock.toList:=fun hm=>by have:=E _ hm;have:=HOL.o;omega
       have n2:B∉(pF da m dc).ownBlock.toList:=fun hm=>by have:=E _ hm;have:=HOL.o;omega
       have n3:w.heap.size∉(pF da m dc).ownBlock.toList:=fun hm=>by have:=E _ hm;have:=HOL.o;omega
       have n4:B<wr.heap.size:=aa.o.lt;have b2:=lH (Zq (enc:=Cu) (t:=34) underlying34 Gx bE DL Kc (by rw [Bd,Ax];have:=H.o.dn;omega) Y.o (by have:=HK2.o.size;exact this) (⟨F0 x.who,x.id,F0 x.text⟩:IA) bB 34 (cs:=#[Dz (F0 x.who),I_ x.id,Dz (F0 x.text)]) rfl);have HF:Hi (∀M J F,F.ownsRow wd 73 3 (pF (some (A_ M 0)) (m+1) J) (m+1) (((c.done.take m).map Oq++[(⟨F0 x.who,x.id,F0 x.text⟩:IA)]).flatMap Cu)->Aa (pF da m dc).ownBlock.toList wr F->(F.cell? (A_ B 9)=some (pF da m dc)/\F.frozen? (A_ B 9)=false)/\Hi (Blk (F.setCell (A_ B 9) (pF (some (A_ M 0)) (m+1) J)) B 36 (ctlA { U with ja:=ja,jn:=k,jc:=jc,da:=some (A_ M 0),dn:=m+1,dc:=J })/\
         (F.setCell (A_ B 9) (pF (some (A_ M 0)) (m+1) J)).ownsRow wd 61 24 (pF ja k jc) k (((c.jobs.take k).map Ka).flatMap encJob)/\(F.setCell (A_ B 9) (pF (some (A_ M 0)) (m+1) J)).ownsRow wd 73 3 (pF (some (A_ M 0)) (m+1) J) (m+1) (((c.done.take (m+1)).map Oq).flatMap Cu)/\Aa [B] wd (F.setCell (A_ B 9) (pF (some (A_ M 0)) (m+1) J)))):=lH (fun M J F T hk5=>by
        have hk6:Aa [B] F (F.setCell (A_ B 9) (pF (some (A_ M 0)) (m+1) J)):=Ae _ _ _ _;have D:=aa.o.keeps hk5 n2;have hne:∀g,wd.heap.size<=g->g∉[B]:=fun g hg hm=>by have:=HOL.o;simp only [Ac,Ab,or_false] at hm;omega
        have bd:=Ah HJ2.o hk5 (fun g hg hm=>by
         obtain⟨cs,hb⟩:=DP Y.o (x:=g) bT;exact CX HJ2.o hb bE g hg rfl)
        exact⟨⟨D.cell 9,D.frozen 9⟩,lH ⟨D.set_ 9 _,Ah bd hk6 (fun g hg=>hne g (bd.lt g hg).1),by rw [af.o];exact Ah T hk6 (fun g hg=>hne g (T.lt g hg).1),(HK2.o.trans' hk5 (fun y hy=>.inr (E y hy))).trans hk6⟩⟩)
       clear ha N hx hat ab E hb0 i2;try clear i3
       go_wp2_with fail;refine C8 (b:=26) (S:=(Aa (pF da m dc).ownBlock.toList wr)) bC kJ (fun hHeld=>?_);refine tK 0 ?_;refine tK 1 ?_;refine tK 2 ?_;refine tK 3 ?_;refine tK 4 ?_;refine tK 5 ?_;refine tK 6 ?_;refine tK 7 ?_;refine tK 9 ?_;refine tK 10 ?_;refine tK 11 ?_;refine tK 12 ?_;refine tK 13 ?_;refine tK 14 ?_;refine tK 15 ?_;refine tK 16 ?_;refine tK 17 ?_;refine tK 18 ?_;refine tK 19 ?_;refine tK 20 ?_;refine tC 8 fun K hK=>?_;go_simp
       (refine(EU x.who _).mono ?_;rintro e w' ⟨rfl,rfl⟩)
       (try clear rH);refine tP hK kJ fun rH hHeld=>?_;clear hK K
       refine tC 21 fun K hK=>?_;go_simp
       (refine(EU x.text _).mono ?_;rintro e w' ⟨rfl,rfl⟩)
       (try clear rH);refine tP hK kJ fun rH hHeld=>?_;clear hK K
       refine tK 22 ?_;refine tC 23 fun K hK=>?_;go_simp
       (try clear rH);refine tP hK kJ fun rH hHeld=>?_;clear hK K
       refine tC 24 fun K hK=>?_
       (obtain⟨g4,c4,W4,ac,b7,hk4⟩:=b2.o _ ((Aa.refl [] wr).drew);refine BG _ _ 34 bD bD bD bD ac ?_;obtain⟨⟨p9,f9⟩,hF⟩:=HF.o g4 c4 W4 b7 hk4;have b0:=lH p9;have bq:=lH f9;clear p9 f9)
       (try clear rH);refine tP hK kJ fun rH hHeld=>?_;clear hK K
       refine tK 25 ?_;refine tS fun K hK=>?_
       ((have p9:=b0.o;have f9:=bq.o;go_simp))
       (try clear rH);(try clear hHeld);refine tT hK fun hHeld=>?_;clear hK K
       refine wpAnyH_done bC ?_ _
       (go_wp2_with fail;go_roundw;(case rel=>exact⟨m+1,some (A_ g4 0),c4,by omega,by omega,by go_num,lH hF.out.1,lH hF.out.2.1,lH hF.out.2.2.1,lH hF.out.2.2.2⟩);(case measure=>(simp [intOf];omega)))
      ·have bx:Hi ((c.done.take 10).map Oq=(c.done.take m).map Oq):=lH (by
        have h1:=H.o.dn;rcases pP m 10 with h | h
        ·rw [Ak (by omega:c.done.length<=10),Ak (by omega:c.done.length<=m)]
        ·rw [show m=10 by omega])
       have ag:((m:Int)<(v.dn:Int)/\¬(m:Int)<10)\/¬(m:Int)<(v.dn:Int):=bB;obtain⟨v9,av⟩:∃v9:CV,{ U with ja:=ja,jn:=k,jc:=jc,da:=da,dn:=m,dc:=dc } = v9:=⟨_,rfl⟩;have ba:Blk wr B 36 (ctlA v9):=by rw [<- av];exact aa.o
       have hb1:Blk wr (w+1) 36 Hh.k:=(HB1.o.keeps HKD.o bA).keeps HK2.o kK;have au:=lH (ba.rng 0 (ctlA v9) (fun j x hx=>by rw [AW];simpa using hx));have ax:=lH hb1;have az:Hi (Cg (wr.setRow (w+1) (ctlA v9)) v9 (MU c)/\(DU (fun y=>wA.heap.size<=y/\y<w.heap.size) v9 (MU c)/\DW (fun y=>wA.heap.size<=y/\y<w.heap.size) v9.ja v9.jn)/\Aa [] w (wr.setRow (w+1) (ctlA v9))):=lH (by
        subst av;have ah:=Br wr (w+1) (ctlA { U with ja:=ja,jn:=k,jc:=jc,da:=da,dn:=m,dc:=dc });have hne:∀g,wd.heap.size<=g->g∉[w.heap.size+1]:=fun g hg hm=>by have:=HOL.o;simp only [Ac,Ab,or_false] at hm;omega
        have a9:=(HK2.o.mono (S':=[B,w.heap.size+1]) bA).trans (ah.mono (S':=[B,w.heap.size+1]) bA);have hoff:H9 wd [B,w.heap.size+1]:=fun y hy=>by
         rcases Ac.1 hy with rfl | hy
         ·exact H9.blk ak.o bE bE _ bA
         ·obtain rfl:=Ag.1 hy
          exact H9.blk (HB1.o.keeps HKD.o bA) bE bE _ bA
        have hE:=VQ (w:=w) (js:=(c.jobs.take k).map Ka) (ds:=(c.done.take m).map Oq) ao.o.1 ao.o.2 HK0.o.size a9 (fun y hy=>by
          rcases Ac.1 hy with rfl | hy
          ·exact .inr rfl
          ·obtain rfl:=Ag.1 hy
           exact .inl ⟨by have:=aw.o;omega,by have:=HSZ.o;omega⟩) hoff HKD.o.size (Ah HJ2.o ah (fun g hg=>hne g (HJ2.o.lt g hg).1)) (by rw [Bd,Ax];have:=H.o.jn;have:=a4.o;omega) (by have:=a4.o;omega) (fun j hj=>by
          obtain⟨j',b5,rfl⟩:=BO.1 hj;obtain⟨a1,a2⟩:=H.o.js j' (List.mem_of_mem_take b5);exact⟨A8 (OQ _) bB,a1,a2⟩) (Ah Y.o ah (fun g hg=>hne g (Y.o.lt g hg).1)) (by rw [Bd,Ax];have:=H.o.dn;omega) bB
        have hK:MU c = { IH c with jobs:=(c.jobs.take k).map Ka,done:=(c.done.take m).map Oq }:=by unfold MU;rw [bz.o,bx.o]
        rw [hK];exact⟨hE.1,hE.2,G.o.own ah bF⟩)
       clear hlt hb0 hb1 ba av i2;try clear i3
       rcases ag with⟨i7,i8⟩ | i7
       all_goals
        go_wp2_with (first | (refine Ay bD 36 _ bD B 0 bD (ctlA v9) _ au.o underlying36 rfl (AD v9) ?_) | (refine wpList_store_row bD 36 _ _ bD (w+1) (ctlA v9) bD bD 36 Hh.k ax.o (AD v9) rfl (Bc v9) ?_));refine bodyPost_ret (v:=pH (ctlA v9)) ?_ rfl ⟨v9,rfl,az.o⟩;exact results_cell_row rfl _ _ (w+1) 36 (ctlA v9) (0,0) _ rfl (ax.o.row _) underlying36 rfl (AD v9)
theorem Rh(v:CV)(c:BN)(w:World)(h:Cg w v c):
  Calls prog 29 #[pH (C_ v)] w fun e w'=>∃v',e = pJ (pH (ctlA v'))/\Cg w' v' c/\v'.jn=v.jn/\w'.ownsRow w 61 24 (.slice v'.ja v'.jn v'.jc) v'.jn (c.jobs.flatMap encJob)/\(∀g,(pF v'.ja v'.jn v'.jc).ownBlock=some g->DU (· = g) v' c)/\DU (· < w.heap.size) v' c/\Aa [] w w':=by
 obtain⟨w0,hw0⟩:=eX ((w.alloc (.cells (C_ v) 36)).alloc (.cells Hh.k 36));have hk0:Aa [] w w0:=by rw [<- hw0];exact((Aa.refl [] w).alloc _).alloc _
 have ap:w0.heap.size=w.heap.size+2:=by rw [<- hw0];simp
 have hb0:Blk w0 w 36 (C_ v):=by rw [<- hw0];exact(Blk.new w _ _).alloc _
 have hb1:Blk w0 (w+1) 36 Hh.k:=by rw [<- hw0];exact Ar _ _ _ _ bA
 have HB0:=lH hb0;have HB1:=lH hb1;have HK0:=lH hk0;have b3:=lH ap;have HR:=lH (h.p.keeps hk0).row;have HM:=lH (h.p.keeps hk0).mt;have HN:=lH h.pn;have bh:=h.pl;have H:=lH h;have q:=hb0.rl;obtain⟨V,hV⟩:=eX v.pv;obtain⟨L,hL⟩:=eX c.pool.l;obtain⟨n,hn⟩:=eX v.pn;obtain⟨pa,ao⟩:=eX v.pa;rw [hV] at HR HM HN;rw [hL] at HM;rw [hn] at HN bh;rw [ao] at HR;have HV:=lH hV;have HL:=lH hL;have cq:=lH hn;rw [hn,ao] at q hw0 ⊢;clear h hk0 ap hb0 hb1 hV hL hn ao;go_enter func29,ntmps29;go_wp2;clear hw0 q;go_loopw [3,10] (fun u i wr=>∃(k:Nat) (O:List SV),k<=n/\i = I_ k/\O.length=k/\Hi (Da wr w0 u O)/\Hi (Mt wr O (L.take k))/\Hi (Below w0 w0 wr)) (fun _ i _=>n - (intOf i).toNat)
 case atStart=>exact⟨0,[],Ba _,rfl,rfl,lH (.inl ⟨rfl,rfl⟩),lH trivial,lH (Below.refl _ w0)⟩
 case round=>
  obtain⟨k,O,hk,rfl,bp,HS,HT,HB⟩:=hrel;have HVK:=lH bp;clear bp;by_cases hlt:k<n
  ·have hk1:k<V.length:=by rw [HN.o];exact hlt
   have hkL:k<L.length:=by rw [<- HM.o.len];exact hk1
   have hm:=HM.o.get k hk1 hkL;obtain⟨g,off,cr,cu,rfl,B,hat⟩:=HR.o gC;have hg:=(Ai.1 B).1;clear B;obtain⟨y,hy⟩:=eX (V[k]);obtain⟨s,aq⟩:=eX (L[k]);have q1:=hat k hk1;rw [hy] at q1 hm;rw [aq] at hm;obtain⟨p0,p1,p2⟩:=q1;have hkw:=Aa.of_below HB.o [];rw [<- hkw.cell (by exact hg) bA] at p0 p1 p2;have i1:(0:Int)<=(k:Int):=bB;have i2:(k:Int)<(n:Int):=bB;have hb:=Blk.new wr 147 (N_ y);have d1:=hb.cell 1;have hk0:=(Aa.refl [] wr).alloc (.cells (N_ y) 147);have HST:=lH (hm.2.2.2.keeps (hkw.trans hk0));have au:=lH hm.2.2.1;have aw:=lH hm;have bw:Hi (L[k]? = some s):=lH (by rw [Aq hkL,aq]);have bu:=lH hb;have av:=lH hk0;clear hat hy aq hm hkw hb hk0 hk1 hkL;go_wp2_with fail;refine(Gy y.ia y.ic s.items y.il au.o.symm _ HST.o).mono ?_;rintro r w2 ⟨a',c',rfl,hst,am,hfr⟩;clear hfr;have a0:=lH hst;have hb2:=bu.o.keeps am bA;have e0:=hb2.cell 0;have e1:=hb2.cell 1;have e2:=hb2.cell 2;have f1:=hb2.frozen 1;have HB2:=lH (hb2.set_ 1 (.slice a' y.il c'));have HK2:=lH ((av.o.trans am).setCell (p:=A_ wr 1) (.inr (Aw _)) (.slice a' y.il c'));have F:=lH (Aa.setCell (S:=[wr.heap.size]) (Aa.refl _ w2) (p:=A_ wr 1) (.inl bA) (.slice a' y.il c'));have bz:Hi (ID w2 [wr.heap.size]):=lH (fun k hk cs fz h=>by
    simp at hk;subst hk;have h':w2.heap[wr.heap.size]? = some (.cells (N_ y) 147 (0,0)):=hb2;rw [h'] at h;injection h with h;injection h with _ h3 _
    exact absurd h3 bE)
   clear hst am hb2 d1 p0 p1 p2;obtain⟨x,hx⟩:∃x:SV,x=⟨y.cur,a',y.il,c',y.used⟩:=⟨_,rfl⟩;have hx1:Oh (w2.setCell (A_ wr 1) (.slice a' y.il c')) x s:=by
    rw [hx];exact⟨aw.o.1,aw.o.2.1,au.o,a0.o.keepsS F.o bz.o⟩
   have hk4:=(Aa.refl [] (w2.setCell (A_ wr 1) (.slice a' y.il c'))).alloc (.cells x.arr 147);have hsz:w0.heap.size<=wr.heap.size:=HB.o.size;have bm:=(HS.o.keeps HK2.o).keeps hk4;obtain⟨v9,w9,E,bl,hk9⟩:=bm.push mB (by have:=HK2.o.size;simp [World.setCell] at this ⊢;omega) _ x (Blk.new (w2.setCell (A_ wr 1) (.slice a' y.il c')) 147 x.arr) 30;have bf:Mt w9 (O++[x]) (L.take (k+1)):=by
    rw [DS bw.o];exact((HT.o.keeps HK2.o).keeps hk4 |>.strK hk9).app ⟨(hx1.keeps hk4).strK hk9,trivial⟩
   have a7:Below w0 w0 w9:=(HB.o.trans ((HK2.o.trans hk4).below hsz bA)).trans hk9.low;rw [hx] at E;simp only [SV.arr] at E;rw [show(w2.setCell (A_ wr 1) (.slice a' y.il c')).heap.size=w2.heap.size by simp [World.setCell]] at E;have b5:=lH bl;have ai:=lH bf;have bt:=lH a7;have g0:=HB2.o.cell 0;have g1:=HB2.o.cell 1;have g2:=HB2.o.cell 2;simp only [Ap,AB,AA,An,Aj,Ao] at g0 g1 g2;have T:(O++[x]).length=k+1:=by rw [Al,HVK.o];rfl
   have bv:=lH T;clear hx1 hk4 bm bl hk9 bf a7 T hx;go_wp2_with (at_builtin;refine wpList_append_run _ rfl _ _ 30 rfl rfl rfl E ?_);go_roundw;case rel=>exact⟨k+1,O++[x],by omega,by go_num,bv.o,b5,ai,bt⟩
   case measure=>simp [intOf];omega
  ·obtain rfl:k=n:=bB;have ht:L.take k=L:=Ak (by rw [<- HM.o.len,HN.o];exact Aw _);have hm:=HT.o;rw [ht] at hm;have ai:=lH hm;clear ht hm;have hkw:=Aa.of_below HB.o [];obtain⟨a6,c6,hu,bb,_⟩:=HS.o.row;rw [HVK.o] at hu;subst hu;have hb:=HB0.o.keeps hkw bA;have q:=hb.rl;obtain⟨w3,aa⟩:=eX (wr.setCell (A_ w 6) (pF a6 (k:Nat) c6));have hk3:Aa [w.heap.size] wr w3:=by rw [<- aa];exact Ae _ _ _ _
   have cx:w.heap.size<w0.heap.size:=HB0.o.lt;have ah:Hi (Blk w3 w 36 #[pF v.oa v.on v.oc,pF v.r.s.ga v.gn v.r.s.gc,pF v.r.s.ua v.un v.r.s.uc,pF v.r.s.fa v.fn v.r.s.fc,pF v.r.la v.ln v.r.lc,I_ v.seq,pF a6 k c6,I_ v.nx,pF v.ja v.jn v.jc,pF v.da v.dn v.dc]):=lH (by rw [<- aa];exact hb.set_ 6 (pF a6 k c6));have ar:=lH ((HB1.o.keeps hkw bA).keeps hk3 bA);have hoff:H9 wr [w.heap.size]:=H9.blk hb bE bE;have b4:Hi (Da w3 w0 (pF a6 k c6) O):=lH (by
    rcases HS.o with⟨h1,h2⟩ | ⟨g,off,cap,h1,h2,h3,h4,h5,h6⟩
    ·exact .inl ⟨h1,h2⟩
    ·have B:=hk3.block g h3.lt bG
     exact .inr ⟨g,off,cap,h1,h2,h3.same B,h4,h5,h6.same B⟩)
   have bx:=lH (ai.o.keepsS hk3 hoff.str);have F:Hi (Aa [] w w3):=lH ((HK0.o.trans hkw).own hk3 bF);have ag:w3.heap.size=wr.heap.size:=by rw [<- aa];simp [World.setCell]
   clear hkw hb hk3 hoff;go_upto_region 9 with fail
   clear aa q;go_cut [3] (fun x wc=>∃G M a2 c2 J N,Hi (fL w v c G M a2 c2 J N (pF a6 k c6) O wc))
   case first=>
    have bj:w0.heap.size<=w3.heap.size:=by have:=HB.o.size;have h1:=ag;omega
    clear ag;have az:=lH bj;have r3:=ah.o.rl;have HFIN:Hi (∀w4 w5 U G M a2 c2 J N,Aa [] w3 w4->w4.ownsRow w3 81 2 (pF G v.on M) v.on (c.ops.flatMap Eg)->Aa [] w4 w5->w5.ownsRow w4 61 24 (pF a2 v.jn c2) v.jn (c.jobs.flatMap encJob)->Aa [] w5 U->U.ownsRow w5 73 3 (pF J v.dn N) v.dn (c.done.flatMap Cu)->
      fL w v c G M a2 c2 J N (pF a6 k c6) O (((U.setCell (A_ w 0) (pF G v.on M)).setCell (A_ w 8) (pF a2 v.jn c2)).setCell (A_ w 9) (pF J v.dn N))):=lH (by
     intro w4 w5 U G M a2 c2 J N k4 o4 k5 o5 k6 o6;have ap:=b3.o;have bj:=az.o;have hz4:=k4.size;have cy:=k5.size;have cz:=k6.size;have a5:=((ah.o.keeps k4 bA).keeps k5 bA).keeps k6 bA;have b8:=((a5.set_ 0 (pF G v.on M)).set_ 8 (pF a2 v.jn c2)).set_ 9 (pF J v.dn N);have D:Aa [w.heap.size] U (((U.setCell (A_ w 0) (pF G v.on M)).setCell (A_ w 8) (pF a2 v.jn c2)).setCell (A_ w 9) (pF J v.dn N)):=((Ae U w 0 _).trans (Ae _ _ _ _)).trans (Ae _ _ _ _);have hoff:H9 U [w.heap.size]:=H9.blk a5 bE bE;have ab:=(k4.trans k5).trans k6;refine⟨b8,(ar.o.keeps ab bA).keeps D bI,?_,?_,?_,?_,?_,(F.o.trans ab).own D bF⟩
     ·exact Ah (Ah (Bw o4 bB) (k5.trans k6) bA) D (fun g hg hm=>by have:=(o4.lt g hg).1;simp only [Ac,Ab,or_false] at hm;omega)
     ·exact Ah (Ah (Bw o5 bB) k6 bA) D (fun g hg hm=>by have:=(o5.lt g hg).1;simp only [Ac,Ab,or_false] at hm;omega)
     ·exact Ah (Bw o6 bB) D (fun g hg hm=>by have:=(o6.lt g hg).1;simp only [Ac,Ab,or_false] at hm;omega)
     ·rcases b4.o.keeps ab with⟨h1,h2⟩ | ⟨g,off,cap,h1,h2,h3,h4,h5,h6⟩
      ·exact .inl ⟨h1,h2⟩
      ·have B:=D.block g h3.lt bI
       exact .inr ⟨g,off,cap,h1,by omega,h3.same B,h4,h5,h6.same B⟩
     ·rw [HL.o];exact(bx.o.keeps ab).keepsS D hoff.str)
    refine C8 (b:=10) (S:=(Aa [] w3)) bC lI (fun hHeld=>?_);refine tK 0 ?_;refine tK 1 ?_;refine tK 3 ?_;refine tK 4 ?_;refine tK 6 ?_;refine tK 7 ?_;refine tC 2 fun K hK=>?_;go_simp
    (refine(KA v.oa v.oc c.ops v.on H.o.on (by have:=H.o.ol;omega) _ (H.o.o.keeps (F.o.trans hHeld))).mono ?_;rintro e w4 ⟨G,M,rfl,cf,ca,hk4⟩;clear cf;have hk4':=((Aa.refl [] w3).drew).trans hk4)
    (try clear rH);refine tP hK lI fun rH hHeld=>?_;clear hK K
    refine tK 9 ?_;refine tC 5 fun K hK=>?_;go_simp
    (refine(UE v.ja v.jc c.jobs v.jn H.o.jn (by have:=H.o.jl;omega) _ (H.o.j.keeps (F.o.trans hHeld))).mono ?_;rintro e w5 ⟨a2,c2,rfl,hs5,cc,hk5⟩;clear hs5;have hk35:=hk4'.trans hk5)
    (try clear rH);refine tP hK lI fun rH hHeld=>?_;clear hK K
    refine tC 8 fun K hK=>?_;go_simp
    (refine(K8 v.da v.dc c.done v.dn H.o.dn (by have:=H.o.dl;omega) _ (H.o.d.keeps (F.o.trans hHeld))).mono ?_;rintro e U ⟨J,N,rfl,cg,cd,hk6⟩;clear cg;have hk36:=hk35.trans hk6;have r6:=(ah.o.keeps hk36 bA).rl)
    (try clear rH);refine tP hK lI fun rH hHeld=>?_;clear hK K
    refine tS fun K hK=>?_;go_simp
    (try clear rH);(try clear hHeld);refine tT hK fun hHeld=>?_;clear hK K
    refine rQ 11 ?_;refine rC 12 fun K hK=>?_;go_simp;refine rO hK (trivial) fun hHeld=>?_;clear hK K;refine rQ 13 ?_;refine rC 14 fun K hK=>?_;go_simp;refine rO hK (trivial) fun hHeld=>?_;clear hK K;refine wpAnyH_done bC ?_ _
    (go_wp2_with fail;go_meet;exact⟨G,M,a2,c2,J,N,lH (HFIN.o w4 w5 U G M a2 c2 J N hk4' ca hk5 cc hk6 cd)⟩)
   case rest=>
    obtain⟨G,M,a2,c2,J,N,HO⟩:=hcut
    rename World=>wc
    have r:=HO.o.b0.rl;have ay:=lH (H.o.r.keeps HO.o.kw);go_wp2_with fail;refine(Wh v.r c.reg v.gn v.un v.fn v.ln H.o.g H.o.u H.o.f H.o.l v.seq H.o.q (-1) _ ay.o).mono ?_;rintro e wd ⟨v2,gn,un,fn,ln,seq,rfl,bi,hg2,bo,a9,ba,be,bg,X⟩;obtain⟨we,bq⟩:=eX (((((wd.setCell (A_ w 1) (pF v2.s.ga gn v2.s.gc)).setCell (A_ w 2) (pF v2.s.ua un v2.s.uc)).setCell (A_ w 3) (pF v2.s.fa fn v2.s.fc)).setCell (A_ w 4) (pF v2.la ln v2.lc)).setCell (A_ w 5) (I_ seq));obtain⟨v',Y⟩:∃v':CV,(⟨G,v.on,M,v2,gn,un,fn,ln,seq,a6,k,c6,O,v.nx,a2,v.jn,c2,J,v.dn,N⟩:CV)=v':=⟨_,rfl⟩;have al:=HO.o.b0.keeps X bA;have r2:=al.rl;have a4:Blk we w 36 (ctlA v'):=by rw [<- bq,<- Y];exact((((al.set_ 1 (pF v2.s.ga gn v2.s.gc)).set_ 2 (pF v2.s.ua un v2.s.uc)).set_ 3 (pF v2.s.fa fn v2.s.fc)).set_ 4 (pF v2.la ln v2.lc)).set_ 5 (I_ seq)
    have an:Aa [w.heap.size] wd we:=by rw [<- bq];exact((((Ae wd w 1 _).trans (Ae _ _ _ _)).trans (Ae _ _ _ _)).trans (Ae _ _ _ _)).trans (Ae _ _ _ _)
    have af:=(HO.o.b1.keeps X bA).keeps an bI;have b2:=lH (a4.rng 0 (ctlA v') (fun j x hx=>by rw [AW];simpa using hx));have ac:=lH af;have HFIN:=lH (Yd H.o HO.o (by rw [HVK.o] at bb;exact bb) HVK.o bh bi hg2 bo a9 ba be bg X);have HJN:Hi (v'.jn=v.jn):=lH (by rw [<- Y]);have HKE:=lH an;rw [Y] at HFIN;clear bi hg2 bo a9 ba be bg X al a4 an af r Y ay;go_wp2_with (first | (refine Ay bD 36 _ bD w 0 bD (ctlA v') _ b2.o underlying36 rfl (AD v') ?_) | (refine wpList_store_row bD 36 _ _ bD (w+1) (ctlA v') bD bD 36 Hh.k ac.o (AD v') rfl (Bc v') ?_));obtain⟨hm,ho,hs,bd,b9⟩:=HFIN.o (we.setRow (w+1) (ctlA v')) ((HKE.o.mono bA).trans ((Br we (w+1) (ctlA v')).mono bA));rw [UY] at hm bd;simp only [UY] at hs;refine bodyPost_ret (v:=pH (ctlA v')) ?_ rfl ⟨v',rfl,hm,HJN.o,ho,hs,bd,b9⟩;exact results_cell_row rfl _ _ (w+1) 36 (ctlA v') (0,0) _ rfl (ac.o.row _) underlying36 rfl (AD v')
def cv0:CV:=⟨none,0,0,⟨⟨none,0,none,0,none,0⟩,none,0,[]⟩,0,0,0,0,0,none,0,0,[],0,none,0,0,none,0,0⟩
theorem Gz(w:World):Cg w cv0 Hl:=
 { o:=AR.none_,on:=rfl,ol:=by decide,os:=fun o ho=>(by cases ho),r:=⟨⟨AR.none_,AR.none_,AR.none_,by decide,by decide,by decide⟩,AR.none_,trivial,by decide,fun t B=>by cases B⟩,g:=rfl,u:=rfl,f:=rfl,l:=rfl,q:=rfl,p:=⟨Aw _,by decide,fun h=>absurd rfl h,trivial⟩,pn:=rfl,pl:=by decide,nx:=rfl,j:=AR.none_,jn:=rfl,jl:=by decide,js:=fun j hj=>(by cases hj),d:=AR.none_,dn:=rfl,dl:=by decide }
def Fo(B:Nat)(v:CV)(c:BN):Prop:=DU (· < B) v c/\DW (· < B) v.ja v.jn
theorem G0(B:Nat):Fo B cv0 Hl:=
 ⟨⟨fun h0=>absurd h0 bE,⟨fun h0=>absurd h0 bE,fun h0=>absurd h0 bE,fun h0=>absurd h0 bE,fun h0=>absurd h0 bE,fun u hu=>by cases hu⟩,fun h0=>absurd h0 bE⟩,fun h0=>absurd h0 bE⟩
theorem Fo.down{B B':Nat}{v:CV}{c:BN}(h:Fo B v c)(hb:B'<=B):Fo B' v c:=
 ⟨⟨h.1.o.mono (fun _ hy=>BS hy hb),h.1.r.mono (fun _ hy=>BS hy hb),h.1.d.mono (fun _ hy=>BS hy hb)⟩,h.2.mono (fun _ hy=>BS hy hb)⟩
def Xy(w:World)(R:BN×Int):Ending->World->Prop:=fun e w'=>∃v,e = pJ (.tuple #[pH (ctlA v),pE pK R.2])/\Cg w' v R.1/\Fo w.heap.size v R.1/\Aa [] w w'
theorem XU(a:Option Addr)(c:Nat)(ops:List GF)(k:Nat)(hk:ops.length=k)(X:k<=1000)(hs:∀o∈ops,o.name.size<=maxLen)(n:Int)(w:World)(h:IE w a c ops):
  Calls prog 23 #[pF a k c,I_ n] w (Xy w (W6 ops n)):=by
 obtain⟨w0,hw0⟩:=eX (w.alloc (.cells Hh.k 36));have hk0:Aa [] w w0:=by rw [<- hw0];exact(Aa.refl [] w).alloc _
 have ad:w0.heap.size=w.heap.size+1:=by rw [<- hw0];simp
 have HB0:Hi (Blk w0 w 36 (ctlA cv0)):=lH jX;have HK0:=lH hk0;have aq:=lH ad;obtain⟨b,hb⟩:=eX (G9 ops);obtain⟨R,hR⟩:=eX (W6 ops n);rw [hR];unfold W6 at hR;rw [hb] at hR;have HR:=lH hR;have HO:=Kg a c ops k hk bB hs b hb w0 (h.keeps hk0);have H:=lH h;have T:=lH hk;have HSZ:=lH hs;clear hk0 hb hR h hk hs ad;go_enter func23,ntmps23;go_wp2_with fail;refine HO.mono ?_;rintro e w1 ⟨rfl,hk1⟩;have HK1:=lH (HK0.o.trans hk1);have HB1:=lH (HB0.o.keeps hk1 bA);clear hw0 hk1 HO;cases b with
 | false=>
  obtain rfl:R=(Hl,190):=by rw [<- HR.o];rfl
  go_wp2_with (refine wpList_store_row bD 36 _ _ bD w (ctlA cv0) bD bD 36 (ctlA cv0) HB1.o (AD cv0) rfl (Bc cv0) ?_);refine bodyPost_ret (v:=.tuple #[pH (ctlA cv0),I_ 190]) ?_ rfl ⟨cv0,rfl,Gz _,G0 _,?_⟩
  ·exact AS rfl _ _ w 36 (ctlA cv0) _ (I_ 190) rfl rfl (HB1.o.row _) underlying36 rfl (AD _)
  ·exact HK1.o.own (Br _ _ _) bF
 | true=>
  have U:Hi ((if(IU n).2=0 then((⟨ops,(Qz n).1,⟨[],1⟩,[],[]⟩,0):BN×Int) else(Hl,(IU n).2))=R):=lH HR.o;go_wp2_with fail;refine(Y1 n _).mono ?_;rintro e w2 ⟨v,gn,un,fn,rfl,hg,hu,hf,hm,ab,hk2⟩;obtain⟨w3,M⟩:=eX (w2.alloc (.cells #[pF v.ga gn v.gc,pF v.ua un v.uc,pF v.fa fn v.fc,pF none 0 0,I_ 0] 29));have hk3:Aa [] w1 w3:=by rw [<- M];exact hk2.alloc _
  have N:Aa [] w2 w3:=by rw [<- M];exact(Aa.refl [] w2).alloc _
  have G:=lH (HB1.o.keeps hk3 bA);have af:Hi (Blk w3 w2 29 #[pF v.ga gn v.gc,pF v.ua un v.uc,pF v.fa fn v.fc,pF none 0 0,I_ 0]):=lH (by rw [<- M];exact Blk.new w2 _ _);have O:=lH (HK1.o.trans hk3);have ah:=lH (hm.keeps N);have J:=lH (Bl hg (Bl hu hf));have ag:=lH ab;have ai:Hi (w.heap.size<w1.heap.size):=lH HB1.o.lt;obtain⟨er,Y⟩:=eX ((IU n).2);rw [Y] at U ⊢;have HER:=lH Y;clear hk3 N hg hu hf hm ab Y hk2;go_upto_region 4 with(refine wpList_store_row bD 29 _ _ bD w2 #[pF v.ga gn v.gc,pF v.ua un v.uc,pF v.fa fn v.fc,pF none 0 0,I_ 0] bD bD 29 LU.k (Blk.new w2 _ _) bC rfl aG ?_;rw [pQ])
  clear M;by_cases h0:er=0;rotate_left
  ·have f1:(er != 0)=true:=by simpa using h0
   obtain rfl:R=(Hl,er):=by rw [<- U.o,if_neg h0]
   clear h0;go_wp2_with (refine wpList_store_row bD 36 _ _ bD w (ctlA cv0) bD bD 36 (ctlA cv0) G.o (AD cv0) rfl (Bc cv0) ?_);refine bodyPost_ret (v:=.tuple #[pH (ctlA cv0),I_ er]) ?_ rfl ⟨cv0,rfl,Gz _,G0 _,?_⟩
   ·exact AS rfl _ _ w 36 (ctlA cv0) _ (I_ er) rfl rfl (G.o.row _) underlying36 rfl (AD _)
   ·exact O.o.own (Br _ _ _) bF
  ·subst h0
   obtain rfl:R=(⟨ops,(Qz n).1,⟨[],1⟩,[],[]⟩,0):=by rw [<- U.o,if_pos rfl]
   obtain⟨v',F⟩:∃f:Option Addr->Nat->CV,(fun D E=>(⟨D,k,E,⟨v,none,0,[]⟩,gn,un,fn,0,0,none,0,0,[],1,none,0,0,none,0,0⟩:CV))=f:=⟨_,rfl⟩;have HFIN:Hi (∀w4 w5 D E,Aa [] w3 w4->w4.ownsRow w3 81 2 (pF D k E) k (ops.flatMap Eg)->Aa [] w4 w5->
     Blk (w5.setCells w 0 (ctlA (v' D E)).toList) w 36 (ctlA (v' D E))/\Cg (w5.setCells w 0 (ctlA (v' D E)).toList) (v' D E) ⟨ops,(Qz n).1,⟨[],1⟩,[],[]⟩/\Fo w (v' D E) ⟨ops,(Qz n).1,⟨[],1⟩,[],[]⟩/\Aa [] w (w5.setCells w 0 (ctlA (v' D E)).toList)):=lH (by
    intro w4 w5 D E k4 o4 k5;have o5:=Ah o4 k5 bA;have aa:Blk w5 w 36 (ctlA cv0):=(G.o.keeps k4 bA).keeps k5 bA;have hF:=(aa.putAll (ds:=ctlA (v' D E)) rfl);have ac:Aa [w.heap.size] w5 (w5.setCells w 0 (ctlA (v' D E)).toList):=Bb _ _ _ _;have hM:Cg w5 (v' D E) ⟨ops,(Qz n).1,⟨[],1⟩,[],[]⟩:=by
     rw [<- F];have aj:=(ah.o.keeps k4).keeps k5;exact { o:=AR.row (xs:=ops) Fc (by rw [T.o];exact o5),on:=T.o,ol:=X,os:=HSZ.o,r:=⟨aj,AR.none_,trivial,by show 0<=1000;omega,fun t ht=>by cases ht⟩,g:=J.o.1,u:=J.o.2.1,f:=J.o.2.2,l:=rfl,q:=rfl,p:=⟨Aw _,by show 0<=1000000;omega,fun h=>absurd rfl h,trivial⟩,pn:=rfl,pl:=by show 0<=1000;omega,nx:=rfl,j:=AR.none_,jn:=rfl,jl:=by show 0<=900;omega,js:=fun j hj=>(by cases hj),d:=AR.none_,dn:=rfl,dl:=by show 0<=900;omega }
    have hQ:DU (·<=w.heap.size) (v' D E) ⟨ops,(Qz n).1,⟨[],1⟩,[],[]⟩:=by
     rw [<- F];have hlt:=G.o.lt;refine⟨Ey o5 (fun g hg e=>by have:=(o5.lt g hg).1;omega),IF.no (B:=w1.heap.size) ⟨ag.o,(fun g o e=>by cases e),(fun u hu=>by cases hu)⟩ (fun y hy=>Nat.lt_of_le_of_lt hy ai.o),fun h0=>absurd h0 (by show ¬0<0;omega)⟩
    have hJ:DW (·<=w.heap.size) (v' D E).ja (v' D E).jn:=by rw [<- F];exact fun h0=>absurd h0 (by show ¬0<0;omega)
    exact⟨hF,hM.stay hQ hJ ac QW (H9.blk aa bE bE),⟨⟨hQ.o.mono (fun _ h=>Nat.le_of_lt h),hQ.r.mono (fun _ h=>Nat.le_of_lt h),hQ.d.mono (fun _ h=>Nat.le_of_lt h)⟩,hJ.mono (fun _ h=>Nat.le_of_lt h)⟩,((O.o.trans k4).trans k5).own ac bF⟩)
   have r3:=af.o.rl;go_upto_region 6 with fail
   refine C8 (b:=5) (S:=(Aa [] w3)) bC mO (fun hHeld=>?_);refine tK 0 ?_;refine tK 2 ?_;refine tC 1 fun K hK=>?_;go_simp
   (refine(KA a c ops k T.o bB _ (H.o.keeps (O.o.trans hHeld))).mono ?_;rintro e w4 ⟨D,E,rfl,al,ak,hk4⟩;clear al;have hk34:=((Aa.refl [] w3).drew).trans hk4)
   (try clear rH);refine tP hK mO fun rH hHeld=>?_;clear hK K
   refine tC 3 fun K hK=>?_;go_simp
   (refine(mL _).mono ?_;rintro e w5 ⟨rfl,hk5⟩;have hk35:=hk34.trans hk5;have r5:=(show Blk w5 w 36 Hh.k from G.o.keeps hk35 bA).rl)
   (try clear rH);refine tP hK mO fun rH hHeld=>?_;clear hK K
   refine tK 4 ?_;refine tS fun K hK=>?_;go_simp
   (try clear rH);(try clear hHeld);refine tT hK fun hHeld=>?_;clear hK K
   refine rQ 6 ?_;refine wpAnyH_done bC ?_ _
   (go_wp2_with fail;have hF:=HFIN.o w4 w5 D E hk34 ak hk5;exact bodyPost_ret (v:=.tuple #[pH (ctlA (v' D E)),I_ 0]) (by rw [<- F] at hF ⊢;exact AS rfl _ _ w 36 _ _ (I_ 0) rfl rfl hF.1 underlying36 rfl (AD _)) rfl ⟨v' D E,rfl,by rw [<- F] at hF ⊢;exact hF.2.1,by rw [<- F] at hF ⊢;exact hF.2.2.1,by rw [<- F] at hF;exact hF.2.2.2⟩)
def fF(met:List Int):Nat:=(if met.contains 0 then 0 else 1)+(if met.contains 1 then 0 else 1)+(if met.contains 2 then 0 else 1)+(if met.contains 3 then 0 else 1)
theorem RV:∀(L:List Bq) (met:List Int),EB met L=true->L.length<=fF met
 | [],_,_=>Ba _
 | j::l,met,h=>by
  simp only [EB,Af,Bool.not_eq_true'] at h;obtain⟨⟨hj,hm⟩,hl⟩:=h;have ih:=RV l _ hl;simp only [Gn,Af,decide_eq_true_eq] at hj;have hc:j.conn=0\/j.conn=1\/j.conn=2\/j.conn=3:=bB;have hx:∀k:Int,(met++[j.conn]).contains k=(met.contains k||decide (k=j.conn)):=fun k=>by
   simp only [List.contains_eq_mem,AQ,Ag,Bool.decide_or]
  unfold fF at ih ⊢;simp only [hx] at ih;rw [Av];rcases hc with e | e | e | e<;>rw [e] at ih hm<;>simp only [hm]<;>simp at ih ⊢<;>omega
theorem Wq{L:List Bq}(h:EB [] L=true):L.length<=4:=RV L [] h
theorem Ye{c:BN}(h:JY c=true):EB [] c.jobs=true:=by
 unfold JY at h;simp only [Af] at h;exact h.1.1.1.1
theorem OH(v:CV)(c:BN)(conn:Int)(line:ByteArray)(O:line.size<=1000000)(w:World)(hE:Et w)(h:Cg w v c):
  Calls prog 11 #[pH (C_ v),I_ conn,Dz line] w (Xy w (Fj c conn line)):=by
 obtain⟨w0,hw0⟩:=eX ((w.alloc (.cells (C_ v) 36)).alloc (.cells Hh.k 36));have hk0:Aa [] w w0:=by rw [<- hw0];exact((Aa.refl [] w).alloc _).alloc _
 have ar:w0.heap.size=w.heap.size+2:=by rw [<- hw0];simp
 have hb0:Blk w0 w 36 (C_ v):=by rw [<- hw0];exact(Blk.new w _ _).alloc _
 have HB1:Hi (Blk w0 (w+1) 36 (ctlA cv0)):=lH lW;have q:=hb0.rl;have HB0:=lH hb0;have HK0:=lH hk0;have a4:=lH ar;have HC:=JX (pF v.oa v.on v.oc) (pF v.r.s.ga v.gn v.r.s.gc) (pF v.r.s.ua v.un v.r.s.uc) (pF v.r.s.fa v.fn v.r.s.fc) (pF v.r.la v.ln v.r.lc) (I_ v.seq) (pF v.pa v.pn v.pc) (I_ v.nx) (pF v.da v.dn v.dc) v.ja v.jn v.jc c.jobs h.jn (by have:=h.jl;omega) conn w0 (h.j.keeps hk0);obtain⟨b,hb⟩:=eX (JY c);obtain⟨bz,aj⟩:=eX ((BF c.jobs conn).isSome);obtain⟨pz,aq⟩:=eX ((BF c.jobs conn).getD 0);obtain⟨R,hR⟩:=eX (Fj c conn line);rw [hR];unfold Fj at hR;rw [hb,aj] at hR;rw [aj,aq] at HC;have HR:=lH hR;have H:=lH h;have HB:=lH hb;have ag:=lH O;have HE:Hi (∀W,Aa [] w W->Et W):=lH fun W hk=>hE.keeps hk bA;clear hk0 ar hb0 h hb aj aq hR O hE;go_enter func11,ntmps11;go_wp2_with fail;refine QI 0 rfl ?_;go_wp2_with fail;refine HC.mono ?_;rintro e w1 ⟨rfl,hk1⟩;have HK1:=lH (HK0.o.trans hk1);have HC0:=lH (HB0.o.keeps hk1 bA);have an:=lH (HB1.o.keeps hk1 bA);clear hw0 hk1 HC q;have q:=HC0.o.rl;go_wp2_with fail;refine(Ij v c b HB.o _ (H.o.keeps HK1.o)).mono ?_;rintro e w2 ⟨rfl,hk2⟩;have HK2:=lH (HK1.o.trans hk2);have HD0:=lH (HC0.o.keeps hk2 bA);have M:=lH (an.o.keeps hk2 bA);clear hk2 q HC0 an;have q:=HD0.o.rl;cases b with
 | false=>
  obtain rfl:R=(Hl,190):=by rw [<- HR.o];rfl
  go_wp2_with fail;go_step3;refine(show(0:Nat)=0/\Code.wp _ _ _ _ _ from⟨rfl,?_⟩);go_wp2_with fail;refine(ErC.told_why 190 _ (HE.o _ HK2.o)).mono ?_;rintro e wy ⟨rfl,B⟩;have F:=lH (HK2.o.trans B);have D:=lH (M.o.keeps B bA);clear B;go_wp2_with (refine wpList_store_row bD 36 _ _ bD (w+1) (ctlA cv0) bD bD 36 (ctlA cv0) D.o (AD cv0) rfl (Bc cv0) ?_);rw [Exit.noGoto_ret];refine bodyPost_ret (v:=.tuple #[pH (ctlA cv0),I_ 190]) ?_ rfl ⟨cv0,rfl,Gz _,G0 _,?_⟩
  ·exact AS rfl _ _ (w+1) 36 (ctlA cv0) _ (I_ 190) rfl rfl (D.o.row _) underlying36 rfl (AD _)
  ·exact F.o.own (Br _ _ _) bF
 | true=>
  have X:Hi ((if conn<0\/4<=conn then((Hl,2):BN×Int) else if bz=true then(Hl,191) else({ c with jobs:=c.jobs++[{ job0 with conn:=conn,phase:=1,line:=line }] },0))=R):=lH HR.o;by_cases h1:conn<0
  ·obtain rfl:R=(Hl,2):=by rw [<- X.o,if_pos (.inl h1)]
   go_wp2_with fail;go_step3;refine(show(0:Nat)=0/\Code.wp _ _ _ _ _ from⟨rfl,?_⟩);go_wp2_with fail;refine(ErC.told_why 2 _ (HE.o _ HK2.o)).mono ?_;rintro e wy ⟨rfl,B⟩;have F:=lH (HK2.o.trans B);have D:=lH (M.o.keeps B bA);clear B;go_wp2_with (refine wpList_store_row bD 36 _ _ bD (w+1) (ctlA cv0) bD bD 36 (ctlA cv0) D.o (AD cv0) rfl (Bc cv0) ?_);rw [Exit.noGoto_ret];refine bodyPost_ret (v:=.tuple #[pH (ctlA cv0),I_ 2]) ?_ rfl ⟨cv0,rfl,Gz _,G0 _,?_⟩
   ·exact AS rfl _ _ (w+1) 36 (ctlA cv0) _ (I_ 2) rfl rfl (D.o.row _) underlying36 rfl (AD _)
   ·exact F.o.own (Br _ _ _) bF
  ·by_cases h2:4<=conn
   ·obtain rfl:R=(Hl,2):=by rw [<- X.o,if_pos (.inr h2)]
    go_wp2_with fail;go_step3;refine(show(0:Nat)=0/\Code.wp _ _ _ _ _ from⟨rfl,?_⟩);go_wp2_with fail;refine(ErC.told_why 2 _ (HE.o _ HK2.o)).mono ?_;rintro e wy ⟨rfl,B⟩;have F:=lH (HK2.o.trans B);have D:=lH (M.o.keeps B bA);clear B;go_wp2_with (refine wpList_store_row bD 36 _ _ bD (w+1) (ctlA cv0) bD bD 36 (ctlA cv0) D.o (AD cv0) rfl (Bc cv0) ?_);rw [Exit.noGoto_ret];refine bodyPost_ret (v:=.tuple #[pH (ctlA cv0),I_ 2]) ?_ rfl ⟨cv0,rfl,Gz _,G0 _,?_⟩
    ·exact AS rfl _ _ (w+1) 36 (ctlA cv0) _ (I_ 2) rfl rfl (D.o.row _) underlying36 rfl (AD _)
    ·exact F.o.own (Br _ _ _) bF
   ·have HN:Hi (¬(conn<0\/4<=conn)):=lH bB
    cases bz with
    | true=>
     obtain rfl:R=(Hl,191):=by rw [<- X.o,if_neg HN.o,if_pos rfl]
     go_wp2_with fail;go_step3;refine(show(0:Nat)=0/\Code.wp _ _ _ _ _ from⟨rfl,?_⟩);go_wp2_with fail;refine(ErC.told_why 191 _ (HE.o _ HK2.o)).mono ?_;rintro e wy ⟨rfl,B⟩;have F:=lH (HK2.o.trans B);have D:=lH (M.o.keeps B bA);clear B;go_wp2_with (refine wpList_store_row bD 36 _ _ bD (w+1) (ctlA cv0) bD bD 36 (ctlA cv0) D.o (AD cv0) rfl (Bc cv0) ?_);rw [Exit.noGoto_ret];refine bodyPost_ret (v:=.tuple #[pH (ctlA cv0),I_ 191]) ?_ rfl ⟨cv0,rfl,Gz _,G0 _,?_⟩
     ·exact AS rfl _ _ (w+1) 36 (ctlA cv0) _ (I_ 191) rfl rfl (D.o.row _) underlying36 rfl (AD _)
     ·exact F.o.own (Br _ _ _) bF
    | false=>
     obtain rfl:R=({ c with jobs:=c.jobs++[{ job0 with conn:=conn,phase:=1,line:=line }] },0):=by rw [<- X.o,if_neg HN.o,if_neg bA]
     go_wp2_with fail;refine(Rh v c _ (H.o.keeps HK2.o)).mono ?_;rintro e w3 ⟨v',rfl,hm,hjn,ho,hs,T,hk3⟩;obtain⟨w4,hw4⟩:=eX (w3.setRow w (ctlA v'));have Y:=HD0.o.keeps hk3 bA;have hk4:Aa [w.heap.size] w3 w4:=by rw [<- hw4];exact Br _ _ _
     have hlt:w.heap.size<w2.heap.size:=HD0.o.lt;have N:Cg w4 v' c:=hm.stay (Q:=(· < w2.heap.size)) T (Ey ho (fun g hg=>by have:=(ho.lt g hg).1;omega)) hk4 (fun y hy=>by obtain rfl:=Ag.1 hy;exact hlt) (H9.blk Y bE bE);have ab:=Ah ho hk4 (fun g hg U=>by have:=(ho.lt g hg).1;simp only [Ac,Ab,or_false] at U;omega);have HB4:Hi (Blk w4 w 36 (ctlA v')):=lH (by rw [<- hw4];exact Y.row _);have am:=lH ((M.o.keeps hk3 bA).keeps hk4 bI);have HK4:=lH ((HK2.o.trans hk3).own hk4 bF);have av:=lH Y;have af:w2.heap.size<=w4.heap.size:=A8 hk3.size hk4.size;have E:c.jobs.length=v'.jn:=N.jn;have ao:=N.jl;obtain⟨x,hx⟩:∃x,({ job0 with conn:=conn,phase:=1,line:=line } : Bq)=x:=⟨_,rfl⟩;obtain⟨g,gc,w5,G,ak,hk5,a5⟩:=CO (enc:=encJob) prog (t:=33) underlying33 bC bE Dc Ir (v:=.slice v'.ja v'.jn v'.jc) (ys:=c.jobs) (by rw [E];exact ab) af x bB 33;have HJL:Hi (c.jobs.length+1<=900):=lH (by have:=Wq (Ye HB.o);omega);rw [E] at G ak;have aa:∀y∈(pF v'.ja v'.jn v'.jc).ownBlock.toList,w2.heap.size<=y:=AZ ab;have ae:w.heap.size+1<w2.heap.size:=M.o.lt;have HB5:Hi (Blk w5 w 36 (ctlA v')):=lH (HB4.o.keeps hk5 (fun U=>by have:=aa _ U;omega));have ac:Hi (Blk w5 (w+1) 36 (ctlA cv0)):=lH (am.o.keeps hk5 (fun U=>by have:=aa _ U;omega));obtain⟨v'',J⟩:∃v'':CV,({ v' with ja:=some (A_ g 0),jn:=v'.jn+1,jc:=gc } : CV)=v'':=⟨_,rfl⟩;have hoff:H9 w4 (pF v'.ja v'.jn v'.jc).ownBlock.toList:=fun y hy=>by
      obtain⟨cs,az⟩:=DP ab bU;exact⟨cs,_,_,az,by decide,by decide⟩
     have hQ:DU (·∈(pF v'.ja v'.jn v'.jc).ownBlock.toList) v' c:=by
      cases e:(pF v'.ja v'.jn v'.jc).ownBlock with
      | none=>exact(N.later (fun y hy=>by simp at hy)).1
      | some g0=>
       have:=hs g0 e;exact⟨this.o.mono nR,this.r.mono nR,this.d.mono nR⟩
     have ax:Hi (Cg w5 v'' { c with jobs:=c.jobs++[x] }):=lH (by
      rw [<- J];refine N.jobs hQ hk5 (fun y hy=>hy) hoff (AR.row (xs:=c.jobs++[x]) Dc (by simpa [E] using ak)) (by simp [E]) (by have:=HJL.o;omega) (fun j hj=>?_);rcases AQ.1 hj with hj | hj
      ·exact N.js j hj
      ·obtain rfl:=Ag.1 hj
       rw [<- hx];exact⟨ag.o,(by decide:(-9223372036854775808:Int)<=0),(by decide:(0:Int)<=9223372036854775807)⟩)
     have ah:Hi (DU (· < w2.heap.size) v'' { c with jobs:=c.jobs++[x] }/\DW (· < w2.heap.size) v''.ja v''.jn):=lH (by
      rw [<- J];exact⟨⟨T.o,T.r,T.d⟩,fun h0 g' o e hq=>by injection e with e;injection e with e _ _;omega⟩)
     have HK5:=lH (HK4.o.own hk5 (fun y hy=>by have:=aa y hy;have:=HK2.o.size;omega));have HLT:=lH (Bl hlt ae);have HX:=lH hx;have r4:=HB4.o.rl;simp only [ctlA] at r4;clear hm N hjn hs T ho ab Y hk4 af E ao hlt hk3 ak hk5 aa ae hoff hQ;obtain⟨w6,al⟩:=eX (w5.setCell (A_ w 8) (pF (some (A_ g 0)) (v'.jn+1:Nat) gc));have ai:Blk w6 w 36 (ctlA v''):=by rw [<- al,<- J];exact HB5.o.set_ 8 _
     have a3:=lH ai;have ay:=lH (ai.rng 0 (ctlA v'') (fun j x hx=>by rw [AW];simpa using hx));have r5:=(show Blk w5 w 36 (ctlA v') from HB5.o).rl;simp only [ctlA] at r5;have ad:=lH (ac.o.keeps (show Aa [w.heap.size] w5 w6 by rw [<- al];exact Ae _ _ _ _) bI);have aw:Hi (Aa [w.heap.size,w.heap.size+1] w5 w6):=lH (by rw [<- al];exact(Ae w5 w 8 _).mono bA);rw [<- hx] at G;simp only [encJob,PZ,PY,B8,AL,BH,job0,req0,Yb,IW] at G;clear ai J;go_wp2_with (first | (refine wpList_store_row bD 36 _ _ bD w (ctlA v') bD bD 36 _ av.o (AD v') rfl (Bc v') ?_) | (at_builtin;refine Au _ rfl _ _ 33 rfl rfl rfl G ?_) | (refine Ay bD 36 _ bD w 0 bD (ctlA v'') _ ay.o underlying36 rfl (AD v'') ?_) | (refine wpList_store_row bD 36 _ _ bD (w+1) (ctlA v'') bD bD 36 (ctlA cv0) ad.o (AD v'') rfl (Bc v'') ?_));simp only [Exit.jump];have ap:Aa [w.heap.size,w.heap.size+1] w5 (w6.setRow (w+1) (ctlA v'')):=aw.o.trans ((Br _ _ _).mono bA);refine bodyPost_ret (v:=.tuple #[pH (ctlA v''),I_ 0]) ?_ rfl ⟨v'',rfl,?_,?_,HK5.o.own ap bF⟩
     ·exact AS rfl _ _ (w+1) 36 (ctlA v'') _ (I_ 0) rfl rfl (ad.o.row _) underlying36 rfl (AD _)
     ·have hlt:=HLT.o
      refine ax.o.stay ah.o.1 ah.o.2 ap bF (fun y hy=>?_);rcases Ac.1 hy with rfl | hy
      ·exact⟨_,_,_,HB5.o,by decide,by decide⟩
      ·obtain rfl:=Ag.1 hy
       exact⟨_,_,_,ac.o,by decide,by decide⟩
     ·exact Fo.down ah.o (by have:=HLT.o;omega)
theorem jP(v:Value)(w:World):(Dr (.iface 9 v) 20 9 true).run prog w = .ok (.tuple #[v,pI true]) w:=bC
theorem jL(v:Value)(w:World):(Dr (.iface 3 v) 20 9 true).run prog w = .ok (.tuple #[Dz ⟨#[]⟩,pI false]) w:=bC
theorem jO(v:Value)(w:World):(Dr (.iface 64 v) 20 9 true).run prog w = .ok (.tuple #[Dz ⟨#[]⟩,pI false]) w:=bC
theorem jK(v:Value)(w:World):(Dr (.iface 3 v) 20 3 true).run prog w = .ok (.tuple #[v,pI true]) w:=bC
theorem jM(v:Value)(w:World):(Dr (.iface 64 v) 20 3 true).run prog w = .ok (.tuple #[pE pK 0,pI false]) w:=bC
theorem jN(v:Value)(w:World):(Dr (.iface 64 v) 20 64 true).run prog w = .ok (.tuple #[v,pI true]) w:=bC
def gM(v:Value):List Value:=[v]
abbrev QJ:=AR gM 1
def Xx(w:World)(v:Value)(ws:List ByteArray):Prop:=
 (∃x,v = .iface 9 (Dz x)/\ws = [x])\/(∃n:Int,v = .iface 3 (pE pK n)/\ws = [pX n]/\-9223372036854775808<=n/\n<=9223372036854775807)\/
 (∃a n c,v = .iface 64 (pF a n c)/\ws.length=n/\Kv w a c ws)
theorem Xx.keeps{w w':World}{v:Value}{ws:List ByteArray}(h:Xx w v ws)(hk:Aa [] w w'):Xx w' v ws:=
 h.imp id (fun h=>h.imp id (fun⟨a,n,c,h1,h2,h3⟩=>⟨a,n,c,h1,h2,h3.keeps hk⟩))
def IB(w:World):List Value->List (List ByteArray)->Prop
 | [],[]=>True
 | v::V,x::X=>Xx w v x/\IB w V X
 | _,_=>False
theorem IB.keeps{w w':World}(hk:Aa [] w w'):∀ {V:List Value} {X:List (List ByteArray)},IB w V X->IB w' V X
 | [],[],_=>trivial
 | _::_,_::_,h=>⟨h.1.keeps hk,IB.keeps hk h.2⟩
 | [],_::_,h=>h.elim
 | _::_,[],h=>h.elim
theorem IB.len{w:World}: ∀ {V:List Value} {X:List (List ByteArray)},IB w V X->V.length=X.length
 | [],[],_=>rfl
 | _::_,_::_,h=>by simp [IB.len h.2]
 | [],_::_,h=>h.elim
 | _::_,[],h=>h.elim
theorem IB.get{w:World}: ∀ {V:List Value} {X:List (List ByteArray)},IB w V X->∀ {k:Nat} {v:Value},V[k]? = some v->∃x,X[k]? = some x/\Xx w v x
 | v::V,x::X,h,0,u,hu=>⟨x,rfl,by simp only [Aj,Option.some.injEq] at hu;rw [<- hu];exact h.1⟩
 | v::V,x::X,h,k+1,u,hu=>IB.get h.2 (by simpa using hu)
 | [],[],_,_,_,hu=>by simp at hu
 | [],_::_,h,_,_,_=>h.elim
 | _::_,[],h,_,_,_=>h.elim
theorem We{α:Type}{X:List (List α)}{k:Nat}{x:List α}(h:X[k]? = some x):(X.take (k+1)).flatten=(X.take k).flatten++x:=by
 rw [A0 h,List.flatten_append];simp
theorem UL{α:Type}{X:List (List α)}{k:Nat}: (X.take k).flatten.length<=X.flatten.length:=by
 have:X.flatten=(X.take k).flatten++(X.drop k).flatten:=by rw [<- List.flatten_append,Dn]
 rw [this,Al];omega
theorem eF(L:List ByteArray):(NE L).1=Ex L:=by
 unfold NE Ex;rw [show L.map Ov=L.map (fun s=>s.data.toList) from rfl];cases Gc (L.map fun s=>s.data.toList)<;>rfl
structure Ks(w:World):Prop where
 et:Et w
 tab:Ie w
theorem Ks.keeps{w w':World}(h:Ks w)(hk:Aa [] w w'):Ks w':=⟨h.et.keeps hk bA,h.tab.keeps hk⟩
theorem NP(a:Option Addr)(c n:Nat)(V:List Value)(X:List (List ByteArray))(hn:V.length=n)(an:n<=100)(hx:X.flatten.length<=1000)(w:World)(hE:Ks w)(hV:QJ w a c V)(hX:IB w V X):
  Calls prog 127 #[pF a n c] w fun e w'=>e = pJ (Dz (Ex X.flatten))/\Aa [] w w':=by
 have HV:=lH hV;have HX:=lH hX;have HN:=lH hn;have J:=lH hx;have HE:Hi (∀W,Aa [] w W->Ks W):=lH fun W hk=>hE.keeps hk;clear hV hX hn hx hE;go_enter func127,ntmps127;go_wp2;go_loopw [3,13] (fun u i wr=>∃(k:Nat),k<=n/\i = I_ k/\Hi (wr.ownsRow w 9 1 u (X.take k).flatten.length ((X.take k).flatten.flatMap Fd))/\Hi (Aa [] w wr)) (fun _ i _=>n - (intOf i).toNat)
 case atStart=>exact⟨0,Ba _,rfl,lH (BQ _ _ _ _),lH (Aa.refl [] w)⟩
 case round=>
  obtain⟨k,hk,rfl,HS,HK⟩:=hrel;by_cases hlt:k<n
  ·obtain⟨g1,o1,y,rfl,hg1,hx1,hat1⟩:=(HV.o.keeps HK.o).at_k (k:=k) bO
   have q0:=hat1 0 y rfl;rw [AT,pR] at q0;obtain⟨x,U,hm⟩:=(HX.o.keeps HK.o).get hx1;have F:=lH (We U);have M:Hi ((X.take k).flatten.length<=1000):=lH (A8 UL J.o);have aa:Hi ((X.take (k+1)).flatten.length<=1000):=lH (A8 UL J.o);obtain⟨Y,hY⟩:=eX ((X.take k).flatten);rw [hY] at HS F M;have hsz:w.heap.size<=wr.heap.size:=HK.o.size;have i1:(0:Int)<=(k:Int):=bB;have i2:(k:Int)<(n:Int):=bB;clear hat1 hx1 U hY hg1;rcases hm with⟨s,rfl,rfl⟩ | ⟨m,rfl,rfl,aj,ak⟩ | ⟨la,ll,lc,rfl,ah,ai⟩
   ·have ha:=fun W=>jP (Dz s) W
    obtain⟨g,gc,w3,D,B,hk3,N⟩:=CO (enc:=Fd) prog (t:=64) underlying64 Gl bE DY Ho HS.o hsz s (by have:=M.o;omega) 64;have G:=lH (HK.o.own hk3 (fun y hy=>AZ HS.o y hy));have HR3:=lH B;simp only [Fd] at D;clear B hk3 N;go_wp2_with (at_builtin;refine Au _ rfl _ _ 64 rfl rfl rfl D ?_);go_roundw;case rel=>exact⟨k+1,by omega,by go_num,lH (by rw [F.o];simpa using HR3.o),G⟩
    case measure=>simp [intOf];omega
   ·have ha:=fun W=>jL (I_ m) W
    have hb:=fun W=>jK (I_ m) W;go_wp2_with fail;refine(G4 m aj ak _ (HE.o _ HK.o).tab).mono ?_;rintro e w2 ⟨rfl,hk2⟩;have E:=Ah HS.o hk2 bA;obtain⟨g,gc,w3,D,B,hk3,N⟩:=CO (enc:=Fd) prog (t:=64) underlying64 Gl bE DY Ho E (A8 hsz hk2.size) (pX m) (by have:=M.o;omega) 64;have G:=lH ((HK.o.trans hk2).own hk3 (fun y hy=>AZ E y hy));have HR3:=lH B;simp only [Fd] at D;clear B hk3 N E hk2;go_wp2_with (at_builtin;refine Au _ rfl _ _ 64 rfl rfl rfl D ?_);go_roundw;case rel=>exact⟨k+1,by omega,by go_num,lH (by rw [F.o];simpa using HR3.o),G⟩
    case measure=>simp [intOf];omega
   ·have ha:=fun W=>jO (pF la ll lc) W
    have hb:=fun W=>jM (pF la ll lc) W;have hc:=fun W=>jN (pF la ll lc) W;subst ah;obtain⟨i0,z,ac,ad,ae,af,ag⟩:=Ck Gl;obtain⟨v',w3,D,B,O⟩:=AR.app prog underlying64 ac ad ae rfl af bE DY Ho HS.o hsz ai (by have h2:=aa.o;rw [F.o,Al] at h2;omega) ag 64;have G:Hi (Aa [] w w3):=lH (HK.o.own ((Aa.refl (EZ _).toList wr).grown O (fun k hk=>.inl iX)) (fun y hy=>AZ HS.o y hy));have HR3:=lH B;clear B O;go_wp2_with (at_builtin;refine Au _ rfl _ _ 64 rfl rfl rfl D ?_);go_roundw;case rel=>exact⟨k+1,by omega,by go_num,lH (by rw [F.o];exact HR3.o),G⟩
    case measure=>simp [intOf];omega
  ·obtain rfl:k=n:=bB;have ht:X.take k=X:=Ak (by rw [<- HX.o.len,HN.o];exact Aw _);rw [ht] at HS;obtain⟨a9,c9,rfl,T,_⟩:=AR.of_row DY HS.o;have ab:=lH T;obtain⟨m,hm⟩:=eX X.flatten.length;rw [hm];have HM:=lH hm;clear ht T hm;go_wp2_with fail;refine(Vs a9 c9 m X.flatten HM.o (by rw [<- HM.o];exact J.o) _ (HE.o _ HK.o).et ab.o).mono ?_;rintro e w2 ⟨rfl,hk2⟩;have HK2:=lH (HK.o.trans hk2);clear hk2;go_wp2_with fail;go_ret;exact⟨by rw [eF];rfl,HK2.o⟩
theorem CB.rng{w:World}{B:Nat}{p:Pr}(h:CB w B p):w.rangeAt B 0 (reqA p.q).toList:=by
 obtain⟨a,c,hb,_⟩:=h;refine hb.rng 0 (reqA p.q) (fun j v hv=>?_);rw [AW,show Mz p.q (pF a p.l.length c) (Ii p.bad)=reqA p.q++#[pF a p.l.length c,Ii p.bad] from rfl];rw [qD] at hv;rw [Array.getElem?_append_left (Ai.1 hv).1];exact hv
theorem VI(E:Nat->Addr)(s:ByteArray)(hs:s.size<=1000000)(w:World)(hE:MC E w)(l:List (List UInt8))(ar:Ce s.data.toList = .ok l):
  Calls prog 17 #[Dz s] w fun e w'=>e = pJ (.tuple #[pH (reqA (parseR s).1),I_ (parseR s).2])/\Aa [] w w':=by
 obtain⟨w0,hw0⟩:=eX (w.alloc (.cells aQ.k 59));have HK0:Hi (Aa [] w w0):=lH aX;have HB0:Hi (Blk w0 w 59 (reqA req0)):=lH jX;have HE:Hi (∀W,Aa [] w W->MC E W):=lH fun W hW=>hE.keeps hW;have HSP:=Gr s hs w0 (HE.o w0 HK0.o).r.a.et;obtain⟨V,hV⟩:=eX (parseR s);rw [hV];unfold parseR at hV;unfold Ic at HSP;clear hE;rw [ar] at HSP hV;have af:=NU ar;clear ar;simp only [] at HSP hV;have bb:∀x:List UInt8,Dk x=str x:=fun _=>rfl;have ab:l.map Dk=l.map str:=rfl;rw [ab] at HSP;obtain⟨L,hL⟩:=eX (l.map str);have a4:L.length=l.length:=by rw [<- hL,Bd]
 have a3:∀s∈L,s.size<=64/\IZ s.data.toList:=by
  intro s hs;rw [<- hL] at hs;obtain⟨x,hx,rfl⟩:=BO.1 hs;exact⟨by rw [Dw];exact(af x hx).1,af x hx⟩
 rw [hL] at HSP hV;rw [<- a4] at HSP;unfold Je at hV;dsimp only at hV;obtain⟨p0,ah⟩:∃p0:Pr,(⟨req0,L,false⟩:Pr)=p0:=⟨_,rfl⟩;rw [ah] at hV;obtain⟨a,a2,ha⟩:∃a a2,p0.next=(a,a2):=⟨_,_,rfl⟩;rw [ha] at hV;simp only [] at hV;obtain⟨p1,ai⟩:∃p1:Pr,({ a2 with q:={ a2.q with who:=a } } : Pr)=p1:=⟨_,rfl⟩;rw [ai] at hV;obtain⟨b,b2,hb⟩:∃a a2,p1.number 1 1000000=(a,a2):=⟨_,_,rfl⟩;rw [hb] at hV;simp only [] at hV;obtain⟨p2,aj⟩:∃p1:Pr,({ b2 with q:={ b2.q with id:=b } } : Pr)=p1:=⟨_,rfl⟩;rw [aj] at hV;obtain⟨c,c2,hc⟩:∃a a2,p2.next=(a,a2):=⟨_,_,rfl⟩;rw [hc] at hV;simp only [] at hV;obtain⟨G,ve,hv⟩:∃G ve,verbR c=(G,ve):=⟨_,_,rfl⟩;rw [hv] at hV;simp only [] at hV;obtain⟨p3,ak⟩:∃p1:Pr,({ c2 with q:={ c2.q with com:={ c2.q.com with verb:=G } } } : Pr)=p1:=⟨_,rfl⟩;have ad:c2.com { c2.q.com with verb:=G } = p3:=ak;rw [ad] at hV;have HV:=lH hV;have bi:=lH ah;have HA:=lH ha;have HP1:=lH ai;have HB:=lH hb;have bj:=lH aj;have HC:=lH hc;have bs:=lH hv;have bl:=lH ak;have bh:=lH a3;clear hV ah ha ai hb aj hc hv ak ad hL ab bb a3 af a4;obtain⟨n,hn⟩:=eX L.length;rw [hn] at HSP;have HN:=lH hn;clear hn;go_enter func17,ntmps17;go_wp2_with fail;refine HSP.mono ?_;rintro x w1 ⟨sa,sc,rfl,hm,hk1⟩;have HK1:=lH (HK0.o.trans hk1);have HB1:=lH (HB0.o.keeps hk1 bA);have HM:=lH hm;clear hk1 hw0 hm;obtain⟨wr,hwr⟩:=eX (w1.alloc (.cells #[Dz ⟨#[]⟩,I_ 0,I_ 0,Dz ⟨#[]⟩,I_ 0,I_ 0,pI false,I_ 0,I_ 0,I_ 0,I_ 0,Dz ⟨#[]⟩,I_ 0,I_ 0,I_ 0,I_ 0,I_ 0,pF sa n sc,.nilIface] 119));have bo:Hi (CB wr w1 p0):=lH (by
  rw [<- bi.o];refine⟨sa,sc,?_,?_,fun h0 g o e=>?_,bh.o⟩
  ·rw [<- hwr]
   show Blk _ _ _ (Mz req0 (pF sa L.length sc) .nilIface);rw [HN.o];exact Blk.new w1 _ _
  ·rw [<- hwr];exact HM.o.keeps ((Aa.refl [] w1).alloc _)
  ·obtain⟨g2,o2,e2,hlt,_⟩:=HM.o.at_ h0
   rw [e] at e2;injection e2 with e2
   injection e2 with e2
   omega)
 have HKR:Hi (Aa [] w1 wr):=lH (by rw [<- hwr];exact(Aa.refl [] w1).alloc _);have M:Hi (Bs E w1 wr w1):=lH ⟨HKR.o,Aw _,(HE.o w1 HK1.o).r⟩;have O:=FD w1 p0 wr bo.o;rw [HA.o] at O;simp only [] at O;go_wp2_with fail;clear hwr
 with_reducible refine O.mono ?_
 rintro e w2 ⟨rfl,am,hk2⟩;obtain⟨aa,ac,q2⟩:=am.rl;simp only [Mz] at q2;obtain⟨w3,au⟩:=eX (w2.setCell (A_ w1 0) (Dz a));have HR3:Hi (CB w3 w1 p1):=lH (by rw [<- au,<- HP1.o];exact am.set 0 (Dz a) { a2.q with who:=a } (fun _ _=>rfl));have ay:Hi (Aa [w1.heap.size] wr w3):=lH (by rw [<- au];exact hk2.trans (Ae w2 w1 0 _));have T:=GP E w1 w1 p1 1 1000000 w3 (M.o.go ay.o) HR3.o;rw [HB.o] at T;simp only [] at T;clear am hk2;go_wp2_with fail;clear au q2
 with_reducible refine T.mono ?_
 rintro e w4 ⟨rfl,an,hk4⟩;obtain⟨b4,b6,Y⟩:=an.rl;simp only [Mz] at Y;obtain⟨w5,hw5⟩:=eX (w4.setCell (A_ w1 1) (I_ b));have bp:Hi (CB w5 w1 p2):=lH (by rw [<- hw5,<- bj.o];exact an.set 1 (I_ b) { b2.q with id:=b } (fun _ _=>rfl));have HK5:Hi (Aa [w1.heap.size] wr w5):=lH (by rw [<- hw5];exact ay.o.trans (hk4.trans (Ae w4 w1 1 _)));have U:=FD w1 p2 w5 bp.o;rw [HC.o] at U;simp only [] at U;clear an hk4;go_wp2_with fail;clear hw5 Y
 with_reducible refine U.mono ?_
 rintro e w6 ⟨rfl,ba,hk6⟩;have az:=lH (HK5.o.trans hk6);have bq:=lH ba;have X:=XB c w6 (HE.o w6 (HK1.o.trans (M.o.go az.o).kw)).v;rw [bs.o] at X;simp only [] at X;clear ba hk6;go_wp2_with fail
 with_reducible refine X.mono ?_
 rintro e w7 ⟨rfl,hk7⟩;have ao:=bq.o.keep hk7;obtain⟨b5,b7,q7⟩:=ao.rl;simp only [Mz] at q7;obtain⟨w8,av⟩:=eX (w7.setCell (A_ w1 2) (I_ G));have a0:Hi (CB w8 w1 p3):=lH (by rw [<- av,<- bl.o];exact ao.set 2 (I_ G) { c2.q with com:={ c2.q.com with verb:=G } } (fun _ _=>rfl));have HK8:Hi (Aa [w1.heap.size] wr w8):=lH (by rw [<- av];exact(az.o.trans (hk7.mono bA)).trans (Ae w7 w1 2 _));clear ao hk7 O T U X;have HSZ:Hi (w.heap.size<w1.heap.size):=lH HB1.o.lt;have J:Hi (∀W,Aa [w1.heap.size] wr W->Aa [] w W/\Blk W w 59 (reqA req0)/\MC E W):=lH fun W hW=>
  have h1:=HK1.o.trans (M.o.go hW).kw
  ⟨h1,(HB1.o.keeps HKR.o bA).keeps hW (by simp;have:=HSZ.o;omega),HE.o W h1⟩
 by_cases hve:ve=0
 ·subst hve
  go_wp2_with fail;clear av q7;refine(WE G w8).mono ?_;rintro e w9 ⟨g,m,rfl,hm,F,hk9⟩;have ae:=Z3 E w1 w1 g p3 (KM G) m hm (by
   rw [<- hm];unfold KM
   repeat' split
   all_goals (simp only [Av,D4];omega)) (gP E G) w9 (M.o.go (HK8.o.trans (hk9.mono bA))) (a0.o.keep hk9) F (by
    rintro rfl;obtain⟨_,_,a5,_⟩:=a0.o.keep hk9;unfold Blk at a5 F;rw [a5] at F;injection F with F
    injection F with _ ht
    exact absurd ht bE)
  have ax:Hi ((KM G).foldl (fun p x=>x.2 p) p3=(partsR G).foldl (fun p f=>f p) p3):=lH (by rw [<- T5,List.foldl_map]);obtain⟨p4,al⟩:=eX ((KM G).foldl (fun p x=>x.2 p) p3);rw [al] at ae;have bm:Hi ((partsR G).foldl (fun p f=>f p) p3=p4):=lH (by rw [<- ax.o,al]);have HK9:Hi (Aa [w1.heap.size] wr w9):=lH (HK8.o.trans (hk9.mono bA));clear al hk9 F hm ax;go_wp2_with fail
  with_reducible refine ae.mono ?_
  rintro e wA ⟨rfl,ap,a7⟩;have N:=lH (HK9.o.trans a7);obtain⟨aA,cA,qA⟩:=ap.rl;simp only [Mz] at qA;obtain⟨nA,ag⟩:=eX p4.l.length;rw [ag] at qA;have HW:Hi (V=if p4.bad=true\/0<nA then(req0,193) else(p4.q,0)):=lH (by rw [<- HV.o,if_neg bA,bm.o,ag]);obtain⟨bd,a6⟩:=eX p4.bad;rw [a6] at qA HW;have aq:=ap.rng;obtain⟨Y,a9⟩:=eX p4.q;rw [a9] at qA HW aq;have br:=lH aq;clear aq;have B:=lH (J.o wA N.o).2.1;clear ap a7 ag a6 a9 ae;cases bd with
  | true=>
   have D:Hi (V=(req0,193)):=lH (by rw [HW.o];simp);simp only [Ii,if_true] at qA;go_wp2_with ((refine wpList_store_row bD 59 _ _ bD w (reqA req0) bD bD 59 (reqA req0) B.o (Cr _) rfl (Dg _) ?_));refine bodyPost_ret (v:=.tuple #[pH (reqA req0),I_ 193]) ?_ rfl ⟨by rw [D.o],?_⟩
   ·exact AS rfl _ _ w 59 (reqA req0) _ (I_ 193) rfl rfl (B.o.row _) underlying59 rfl (Cr _)
   ·exact(J.o wA N.o).1.own (Br _ _ _) bF
  | false=>
   simp only [Ii,Bool.false_eq_true,if_false] at qA;by_cases hnp:0<nA
   ·have D:Hi (V=(req0,193)):=lH (by rw [HW.o];simp [hnp])
    have f1:(0:Int)<(nA:Int):=bB;clear hnp;go_wp2_with ((refine wpList_store_row bD 59 _ _ bD w (reqA req0) bD bD 59 (reqA req0) B.o (Cr _) rfl (Dg _) ?_));refine bodyPost_ret (v:=.tuple #[pH (reqA req0),I_ 193]) ?_ rfl ⟨by rw [D.o],?_⟩
    ·exact AS rfl _ _ w 59 (reqA req0) _ (I_ 193) rfl rfl (B.o.row _) underlying59 rfl (Cr _)
    ·exact(J.o wA N.o).1.own (Br _ _ _) bF
   ·obtain rfl:nA=0:=bB;have D:Hi (V=(Y,0)):=lH (by rw [HW.o];simp);clear hnp;go_wp2_with (first | (refine wpList_store_row bD 59 _ _ bD w (reqA Y) bD bD 59 (reqA req0) B.o (Cr _) rfl (Dg _) ?_) | (refine Ay bD 59 _ bD w1 0 bD (reqA Y) _ br.o underlying59 rfl (Cr Y) ?_));refine bodyPost_ret (v:=.tuple #[pH (reqA Y),I_ 0]) ?_ rfl ⟨by rw [D.o],?_⟩
    ·exact AS rfl _ _ w 59 (reqA Y) _ (I_ 0) rfl rfl (B.o.row _) underlying59 rfl (Cr _)
    ·exact(J.o wA N.o).1.own (Br _ _ _) bF
 ·have f1:(ve==0)=false:=by simpa using hve
  have f2:(ve != 0)=true:=by simpa using hve
  have D:Hi (V=(req0,193)):=lH (by rw [<- HV.o,if_pos hve]);have B:=lH (J.o w8 HK8.o).2.1;clear hve;go_wp2_with ((refine wpList_store_row bD 59 _ _ bD w (reqA req0) bD bD 59 (reqA req0) B.o (Cr _) rfl (Dg _) ?_));refine bodyPost_ret (v:=.tuple #[pH (reqA req0),I_ 193]) ?_ rfl ⟨by rw [D.o],?_⟩
  ·exact AS rfl _ _ w 59 (reqA req0) _ (I_ 193) rfl rfl (B.o.row _) underlying59 rfl (Cr _)
  ·exact(J.o w8 HK8.o).1.own (Br _ _ _) bF
theorem Gw(E:Nat->Addr)(s:ByteArray)(hs:s.size<=1000000)(w:World)(hE:MC E w):
  Calls prog 17 #[Dz s] w fun e w'=>e = pJ (.tuple #[pH (reqA (parseR s).1),I_ (parseR s).2])/\Aa [] w w':=by
 cases hsp:Ce s.data.toList with
 | error k=>exact Ti E s hs w hE k hsp
 | ok l=>exact VI E s hs w hE l hsp
theorem MH(w:World)(V:List Value)(n:Nat)(hn:V.length=n)(t:TypeId):QJ (w.alloc (.cells V.toArray t)) (some (A_ w 0)) n V:=by
 have hb:=Blk.new w t V.toArray;exact AR.of_blk (f:=id) (fun _=>rfl) hn (by rw [List.map_id];exact hb)
def AH(w:World)(sb:Nat)(j:Bq)(v:CV)(now left:Int)(e:GJ):Prop:=
 Blk w sb 101 (Kj j (pF v.oa v.on v.oc) (pF v.r.s.ga v.gn v.r.s.gc) (pF v.r.s.ua v.un v.r.s.uc) (pF v.r.s.fa v.fn v.r.s.fc) (pF v.r.la v.ln v.r.lc) (pE pK v.seq) (pF v.pa v.pn v.pc) (pE pK v.nx) (pF v.ja v.jn v.jc) (pF v.da v.dn v.dc) now left e)
theorem AH.keeps{w w':World}{sb:Nat}{j:Bq}{v:CV}{now left:Int}{e:GJ}{S:List Nat}(h:AH w sb j v now left e)(hk:Aa S w w')(hS:sb∉S):AH w' sb j v now left e:=Blk.keeps h hk hS
theorem FR(sb:Nat)(j:Bq)(v:CV)(now left:Int)(e:GJ)(id er:Int)(hid : -9223372036854775808<=id/\id<=9223372036854775807)(B : -9223372036854775808<=er/\er<=9223372036854775807)(w:World)(hE:Ks w)(h:AH w sb j v now left e):
  Calls prog 123 #[pG (some (A_ sb 0)),I_ id,I_ er] w fun r w'=>r = pJ (.tuple #[])/\AH w' sb (j.refuses id er) v now left e/\Aa [sb] w w':=by
 obtain⟨w0,hw0⟩:=eX (w.alloc (.cells #[.iface 9 (Dz Eh),.iface 3 (I_ id),.iface 3 (I_ er)] 20));have hk0:Aa [] w w0:=by rw [<- hw0];exact(Aa.refl [] w).alloc _
 have hV:QJ w0 (some (A_ w 0)) 3 [.iface 9 (Dz Eh),.iface 3 (I_ id),.iface 3 (I_ er)]:=by rw [<- hw0];exact MH w _ 3 rfl 20
 have HS:=NP (some (A_ w 0)) 3 3 [.iface 9 (Dz Eh),.iface 3 (I_ id),.iface 3 (I_ er)] [[Eh],[pX id],[pX er]] rfl bE bA w0 (hE.keeps hk0) hV ⟨.inl ⟨_,rfl,rfl⟩,.inr (.inl ⟨_,rfl,rfl,hid⟩),.inr (.inl ⟨_,rfl,rfl,B⟩),trivial⟩;have HB:=lH (h.keeps hk0 bA);have HK0:=lH hk0;have hew:Eh=⟨#[101,114,114,111,114]⟩:=rfl;rw [hew] at hw0;clear hk0 hV h hew hid B;go_enter func123,ntmps123;go_wp2_with fail;clear hw0;refine HS.mono ?_;rintro r w1 ⟨rfl,hk1⟩;have HB1:=lH (HB.o.keeps hk1 bA);have HK1:=lH (HK0.o.trans hk1);clear hk1;go_wp2_with fail;refine(GL sb j _ _ _ _ _ _ _ _ _ _ now left e _ _ HB1.o).mono ?_;rintro r w2 ⟨rfl,hb2,hk2⟩;have HB2:=lH hb2;have HK2:=lH (Aa.trans (HK1.o.mono bA) hk2);clear hb2 hk2;go_wp2_with fail
 go_end0
 exact⟨rfl,HB2.o,HK2.o⟩
def TY(j:Bq):Bq:=if(parseR j.line).2≠0 then Bq.refuses { j with req:=(parseR j.line).1 } 0 193 else { j with req:=(parseR j.line).1,phase:=2 }
theorem ZK(j:Bq)(B D E F G J M N O T:Value)(now left:Int)(e:GJ):(Kj j B D E F G J M N O T now left e).size=40:=bC
theorem eO(j:Bq)(B D E F G J M N O T:Value)(now left:Int)(e:GJ)(q:QK):Ht (Kj j B D E F G J M N O T now left e) 3 (reqA q).toList=Kj { j with req:=q } B D E F G J M N O T now left e:=bC
theorem Xb(j:Bq)(B D E F G J M N O T:Value)(now left:Int)(e:GJ)(k:Int):(Kj j B D E F G J M N O T now left e).setIfInBounds 1 (I_ k)=Kj { j with phase:=k } B D E F G J M N O T now left e:=bC
theorem ZJ(j:Bq)(B D E F G J M N O T:Value)(now left:Int)(e:GJ)(k:Int):(Kj j B D E F G J M N O T now left e).setIfInBounds 20 (I_ k)=Kj { j with role:=k } B D E F G J M N O T now left e:=bC
theorem AH.req{w:World}{sb:Nat}{j:Bq}{v:CV}{now left:Int}{e:GJ}(h:AH w sb j v now left e)(q:QK):AH (w.setCells sb 3 (reqA q).toList) sb { j with req:=q } v now left e:=by
 unfold AH;rw [<- eO];exact Blk.puts (reqA q).toList 3 h
theorem AH.phase{w:World}{sb:Nat}{j:Bq}{v:CV}{now left:Int}{e:GJ}(h:AH w sb j v now left e)(k:Int):AH (w.setCell (A_ sb 1) (I_ k)) sb { j with phase:=k } v now left e:=by
 unfold AH;rw [<- Xb];exact Blk.set_ h 1 _
theorem AH.role{w:World}{sb:Nat}{j:Bq}{v:CV}{now left:Int}{e:GJ}(h:AH w sb j v now left e)(k:Int):AH (w.setCell (A_ sb 20) (I_ k)) sb { j with role:=k } v now left e:=by
 unfold AH;rw [<- ZJ];exact Blk.set_ h 20 _
theorem AH.there{w:World}{sb:Nat}{j:Bq}{v:CV}{now left:Int}{e:GJ}(h:AH w sb j v now left e)(o n:Nat)(hn:o+n<=40):w.there sb o n:=Blk.there h o n (by rw [ZK];exact hn)
theorem AH.cell{w:World}{sb:Nat}{j:Bq}{v:CV}{now left:Int}{e:GJ}(h:AH w sb j v now left e)(i:Nat):w.cell? (A_ sb i)=(Kj j (pF v.oa v.on v.oc) (pF v.r.s.ga v.gn v.r.s.gc) (pF v.r.s.ua v.un v.r.s.uc) (pF v.r.s.fa v.fn v.r.s.fc) (pF v.r.la v.ln v.r.lc) (I_ v.seq) (pF v.pa v.pn v.pc) (I_ v.nx) (pF v.ja v.jn v.jc) (pF v.da v.dn v.dc) now left e)[i]?:=Blk.cell h i
theorem AH.lit{w:World}{sb:Nat}{j:Bq}{v:CV}{now left:Int}{e:GJ}(h:AH w sb j v now left e):Blk w sb 101 #[pE pK j.conn,pE pK j.phase,Dz j.line,Dz j.req.who,pE pK j.req.id,pE pK j.req.com.verb,Dz j.req.com.name,pE pK j.req.com.want,pE pK j.req.com.at_,pI j.req.com.rule.allow,pE pK j.req.com.rule.addr,pE pK j.req.com.rule.bits,pE pK j.req.com.rule.from_,pE pK j.req.com.rule.to_,Dz j.req.com.key,pE pK j.req.com.n,pE pK j.req.com.m,pE pK j.req.count,pE pK j.req.cursor,pE pK j.req.from_,pE pK j.role,Dz j.reply,pE pK j.slot,pE pK j.gen,pF v.oa v.on v.oc,pF v.r.s.ga v.gn v.r.s.gc,pF v.r.s.ua v.un v.r.s.uc,pF v.r.s.fa v.fn v.r.s.fc,pF v.r.la v.ln v.r.lc,pE pK v.seq,pF v.pa v.pn v.pc,pE pK v.nx,pF v.ja v.jn v.jc,pF v.da v.dn v.dc,pE pK now,pE pK left,pE pK e.kind,pE pK e.slot,pE pK e.gen,Dz e.text]:=h
theorem O2(E:Nat->Addr)(sb:Nat)(j:Bq)(v:CV)(now left:Int)(e:GJ)(hl:j.line.size<=1000000)(wb w:World)(hE:MC E wb)(F:Aa [] wb w)(J:wb.heap.size<=sb)(h:AH w sb j v now left e):
  Calls prog 68 #[pG (some (A_ sb 0))] w fun r w'=>r = pJ (.tuple #[])/\AH w' sb (TY j) v now left e/\Aa [sb] w w':=by
 have HP:=Gw E j.line hl w (hE.keeps F);have c2:w.cell? (A_ sb 2)=some (Dz j.line):=Blk.cell h 2;have HE:Hi (∀W,Aa [] wb W->Ks W):=lH fun W hk=>⟨(hE.keeps hk).r.a.et,(hE.keeps hk).r.a.tab⟩;have N:=lH F;have HSB:=lH J;have HB:=lH h;obtain⟨R,hR⟩:=eX (parseR j.line);have HJ:Hi (TY j=if R.2≠0 then Bq.refuses { j with req:=R.1 } 0 193 else { j with req:=R.1,phase:=2 }):=lH (by unfold TY;rw [hR]);rw [hR] at HP;obtain⟨q,er⟩:=R;clear h hR hl hE F J;go_enter func68,ntmps68;go_wp2_with fail;refine HP.mono ?_;rintro r w1 ⟨rfl,hk1⟩;obtain⟨w2,M⟩:=eX (w1.alloc (.cells (reqA q) 59));have hk2:Aa [] w1 w2:=by rw [<- M];exact(Aa.refl [] w1).alloc _
 have HQ:Hi (Blk w2 w1 59 (reqA q)):=lH (by rw [<- M];exact Blk.new w1 _ _);have G:=lH (HQ.o.rng 0 (reqA q) (fun j x hx=>by rw [AW];simpa using hx));have HB2:Hi (AH w2 sb j v now left e):=lH (AH.keeps HB.o (hk1.trans hk2) bA);have U:=lH (AH.there HB2.o 3 17 bE);have HK2:=lH (hk1.trans hk2);have B:=lH (HB2.o.req q);have D:=lH (Bb sb 3 (reqA q).toList w2);obtain⟨w3,T⟩:=eX (w2.setCells sb 3 (reqA q).toList);rw [T] at B D;clear hk1 hk2 c2 HP;by_cases h0:er=0
 ·subst h0
  have X:=(AH.lit B.o).rl;go_wp2_with (first | (refine wpList_store_row bD 59 _ _ bD w1 (reqA q) bD bD 59 (reqA req0) (Blk.new w1 _ _) (Cr _) rfl (Dg _) ?_;rw [pQ]) | (refine Ay bD 59 _ bD w1 0 bD (reqA q) _ G.o underlying59 rfl (Cr q) ?_) | (refine wpList_store_mid bD 59 _ _ bD sb 3 (reqA q) bD bD U.o (Cr q) (Dg q) ?_))
  go_end0
  refine⟨rfl,by rw [HJ.o,if_neg bA];exact AH.phase B.o 2,Aa.trans (Aa.trans (HK2.o.mono bA) D.o) (Ae _ _ _ _)⟩
 ·have f1:(er != 0)=true:=by simpa using h0
  have O:=lH h0;clear h0;go_wp2_with (first | (refine wpList_store_row bD 59 _ _ bD w1 (reqA q) bD bD 59 (reqA req0) (Blk.new w1 _ _) (Cr _) rfl (Dg _) ?_;rw [pQ]) | (refine Ay bD 59 _ bD w1 0 bD (reqA q) _ G.o underlying59 rfl (Cr q) ?_) | (refine wpList_store_mid bD 59 _ _ bD sb 3 (reqA q) bD bD U.o (Cr q) (Dg q) ?_));refine(FR sb { j with req:=q } v now left e 0 193 ⟨by decide,by decide⟩ ⟨by decide,by decide⟩ _ (HE.o _ ?_) B.o).mono ?_
  ·exact(N.o.trans HK2.o).own D.o (fun y hy=>by obtain rfl:=Ag.1 hy;exact HSB.o)
  rintro r w4 ⟨rfl,hb4,hk4⟩;have HB4:=lH hb4;have HK4:=lH (Aa.trans (Aa.trans (HK2.o.mono bA) D.o) hk4);clear hb4 hk4;go_wp2_with fail;exact bodyPost_ret (results_none rfl _ _ _) rfl ⟨rfl,by rw [HJ.o,if_pos O.o];exact HB4.o,HK4.o⟩
def fV(j:Bq)(ops:List GF):Bq:=if(BM ops j.req.who).2≠0 then Bq.refuses { j with role:=(BM ops j.req.who).1 } j.req.id (BM ops j.req.who).2 else { j with role:=(BM ops j.req.who).1,phase:=3 }
theorem Y0(L:List GF)(B:ByteArray): -9223372036854775808<=(BM L B).2/\(BM L B).2<=9223372036854775807:=by
 unfold BM
 repeat' split
 all_goals (simp;try omega)
theorem QU(sb:Nat)(j:Bq)(v:CV)(c:BN)(now left:Int)(e:GJ)(hid : -9223372036854775808<=j.req.id/\j.req.id<=9223372036854775807)(wb w:World)(hE:Ks wb)(E:Aa [] wb w)(F:wb.heap.size<=sb)(hm:Cg w v c)(h:AH w sb j v now left e):
  Calls prog 69 #[pG (some (A_ sb 0))] w fun r w'=>r = pJ (.tuple #[])/\AH w' sb (fV j c.ops) v now left e/\Aa [sb] w w':=by
 have HE:Hi (∀W,Aa [] wb W->Ks W):=lH fun W hk=>hE.keeps hk;have J:=lH E;have HSB:=lH F;have HB:=lH h;have HM:=lH hm;have HID:=lH hid;have D:=lH (Y0 c.ops j.req.who);obtain⟨R,hR⟩:=eX (BM c.ops j.req.who);have HJ:Hi (fV j c.ops=if R.2≠0 then Bq.refuses { j with role:=R.1 } j.req.id R.2 else { j with role:=R.1,phase:=3 }):=lH (by unfold fV;rw [hR]);rw [hR] at D;obtain⟨B,er⟩:=R;have N:=lH (fun W (hk:Aa [] w W)=>Pj v.oa v.oc c.ops v.on HM.o.on (by have:=HM.o.ol;omega) HM.o.os j.req.who B er hR W (HM.o.o.keeps hk));have r:=(AH.lit h).rl;clear h hE E F hm hid hR;go_enter func69,ntmps69;go_upto_region 0 with(fail)
 go_cut [2,3] (fun x y wc=>x = pE pK B/\y = pE pK er/\Hi (Aa [] w wc))
 case first=>
  refine wp_region_held_drew (S:=(Aa [] w)) bC (by((try dsimp only);((try with_reducible refine Aa.drew ?_);with_reducible (first | exact hk1 | exact Aa.refl _ _)))) (fun hHeld=>?_);refine rK 0 ?_;refine rK 1 ?_;refine rK 2 ?_;refine rK 3 ?_;refine rK 4 ?_;refine rK 5 ?_;refine rK 6 ?_;refine rK 7 ?_;refine rK 8 ?_;refine rK 9 ?_;refine rK 10 ?_;refine rC 11 fun K hK=>?_;go_simp
  (refine(N.o _ hHeld).mono ?_;rintro e1 w1 ⟨rfl,hk1⟩;have hk1:=((Aa.refl [] w).drew).trans hk1)
  (try clear rH);refine rP hK (by((try dsimp only);((try with_reducible refine Aa.drew ?_);with_reducible (first | exact hk1 | exact Aa.refl _ _)))) fun rH hHeld=>?_;clear hK K
  refine rK 12 ?_;refine rK 13 ?_;refine rK 14 ?_;refine rK 15 ?_;refine rK 16 ?_;refine wpAnyH_done bC ?_ _
  (go_wp2_with (fail);go_meet;exact⟨rfl,rfl,lH hk1⟩)
 case rest=>
  obtain⟨rfl,rfl,HK1⟩:=hcut
  rename World=>w1
  clear r;have HB1:Hi (AH w1 sb j v now left e):=lH (HB.o.keeps HK1.o bA);have O:=(AH.lit HB1.o).rl;obtain⟨w2,G⟩:=eX (w1.setCell (A_ sb 20) (pE pK B));have HB2:Hi (AH w2 sb { j with role:=B } v now left e):=lH (by rw [<- G];exact AH.role HB1.o B);have HK2:Hi (Aa [sb] w w2):=lH ((HK1.o.mono bA).trans (by rw [<- G];exact Ae _ _ _ _));have T:=(AH.lit HB2.o).rl;by_cases h0:er=0
  ·subst h0
   go_wp2_with (fail)
   go_end0
   exact⟨rfl,by rw [HJ.o,if_neg bA];exact AH.phase HB2.o 3,HK2.o.trans (Ae _ _ _ _)⟩
  ·have f1:(er != 0)=true:=by simpa using h0
   have M:=lH h0;clear h0;go_wp2_with (fail);refine(FR sb { j with role:=B } v now left e j.req.id er HID.o D.o _ (HE.o _ (J.o.own HK2.o (fun y hy=>by obtain rfl:=Ag.1 hy;exact HSB.o))) HB2.o).mono ?_;rintro r w4 ⟨rfl,hb4,hk4⟩;have HB4:=lH hb4;have HK4:=lH (HK2.o.trans hk4);clear hb4 hk4;go_wp2_with (fail);exact bodyPost_ret (results_none rfl _ _ _) rfl ⟨rfl,by rw [HJ.o,if_pos M.o];exact HB4.o,HK4.o⟩
theorem fT(s t:ByteArray)(i k:Int)(x:ByteArray)(w:World):(binOp .eql 73 (pH #[Dz s,I_ i,Dz x]) (pH #[Dz t,I_ k,Dz x])).run prog w = .ok (pI (decide ((⟨s,i,x⟩:IA)=⟨t,k,x⟩))) w:=by
 rw [run_eql_struct,KD];rfl
def aJ(l:List IA)(who:ByteArray)(id:Int)(k:Nat):Prop:=∀j<k,∀a,l[j]? = some a->¬(a.who=who/\a.id=id)
theorem RD{α:Type}{p:α->Bool}: ∀ {l:List α} {k:Nat} {a:α},(∀j<k,∀b,l[j]? = some b->p b=false)->l[k]? = some a->p a=true->l.find? p=some a
 | x::l,0,a,_,h1,h2=>by
  simp only [Aj,Option.some.injEq] at h1;subst h1;rw [List.find?_cons,h2]
 | x::l,k+1,a,h0,h1,h2=>by
  rw [List.find?_cons,h0 0 bB x rfl];exact RD (fun j hj b hb=>h0 (j+1) (Nat.succ_lt_succ hj) b (by simpa using hb)) bR h2
 | [],_,_,_,h1,_=>by simp at h1
theorem QO{l:List IA}{B:ByteArray}{id:Int}{k:Nat}{a:IA}(h:aJ l B id k)(D:l[k]? = some a)(h1:a.who=B)(h2:a.id=id):Bf l B id=some a.text:=by
 unfold Bf;rw [RD (k:=k) (a:=a) (fun j hj b hb=>?_) D (by simp [h1,h2])]
 ·rfl
 ·have:=h j hj b hb
  rw [Bool.and_eq_false_iff];by_cases h3:b.who=B
  ·right;exact beq_eq_false_iff_ne.2 (fun h4=>this ⟨h3,h4⟩)
  ·left;exact beq_eq_false_iff_ne.2 h3
theorem Ol{l:List IA}{B:ByteArray}{id:Int}(h:aJ l B id l.length):Bf l B id=none:=by
 unfold Bf;rw [List.find?_eq_none.2]
 ·rfl
 ·intro a D
  obtain⟨j,hj,rfl⟩:=List.getElem_of_mem D;have:=h j hj _ (Aq hj);simp only [Af,beq_iff_eq];exact this
theorem K0(sb:Nat)(j:Bq)(v:CV)(c:BN)(now left:Int)(e:GJ)(w:World)(hm:Cg w v c)(h:AH w sb j v now left e):
  Calls prog 124 #[pG (some (A_ sb 0))] w fun r w'=>r = pJ (.tuple #[Dz ((Bf c.done j.req.who j.req.id).getD ⟨#[]⟩),pI (Bf c.done j.req.who j.req.id).isSome])/\Aa [] w w':=by
 have HB:=lH h;have HD:=lH hm.d;have HN:=lH hm.dn;have O:=hm.dl;obtain⟨l,hl⟩:=eX (c.done);rw [hl] at HD HN ⊢;obtain⟨n,hn⟩:=eX (v.dn);rw [hn] at HN O;obtain⟨R,hR⟩:=eX (Bf l j.req.who j.req.id);rw [hR];have HR:=lH hR;have r:=(AH.lit h).rl;rw [hn] at r;have ab:=lH hn;clear h hm hl hn hR;go_enter func124,ntmps124;go_wp2;clear r;go_loopw [13] (fun i wr=>∃k:Nat,k<=n/\i = pE pK k/\Hi (aJ l j.req.who j.req.id k)/\Hi (Aa [] w wr)) (fun i _=>n - (intOf i).toNat)
 case atStart=>exact⟨0,Ba _,rfl,lH (fun j hj=>by omega),lH (Aa.refl [] w)⟩
 case round=>
  obtain⟨k,hk,rfl,HA,HK⟩:=hrel;by_cases hlt:k<n
  ·obtain⟨g1,o1,y,G,hg1,hx1,hat1⟩:=(HD.o.keeps HK.o).at_k (k:=k) bO
   have Y:=hat1 0 _ rfl;have q1:=hat1 1 _ rfl;have q2:=hat1 2 _ rfl;rw [AT] at Y;have i1:(0:Int)<=(k:Int):=by omega
   have i2:(k:Int)<(n:Int):=by omega
   obtain⟨wa,D⟩:=eX (wr.alloc (.cells #[Dz y.who,pE pK y.id,Dz y.text] 73));have M:Aa [] wr wa:=by rw [<- D];exact(Aa.refl [] wr).alloc _
   have E:Hi (Blk wa wr 73 #[Dz y.who,pE pK y.id,Dz y.text]):=lH (by rw [<- D];exact Blk.new wr _ _);have B:=lH (HK.o.trans M);have HSA:Hi (AH wa sb j v now left e):=lH (HB.o.keeps B.o bA);have U:=lH hx1;have aa:=lH G;rw [G];clear hat1 hx1 M hg1;go_upto_region 4 with(fail)
   clear D Y q1 q2;have r:=(AH.lit HSA.o).rl;have T:=E.o.rl;go_cut [6] (fun x wc=>∃g,x = pG (some (A_ g 0))/\Hi (Blk wc g 73 #[Dz j.req.who,pE pK j.req.id,Dz y.text])/\Hi (Aa [] wa wc))
   case first=>
    refine C8 (b:=16) (S:=(Aa [] wa)) bC (by((try dsimp only);((try with_reducible refine Aa.drew ?_);(try with_reducible refine Aa.alloc ?_ _);with_reducible exact Aa.refl _ _))) (fun hHeld=>?_);refine tK 0 ?_;refine tK 1 ?_;refine tK 2 ?_;refine tK 3 ?_;refine tK 4 ?_;refine tK 5 ?_;refine tK 6 ?_;refine tK 7 ?_;refine tK 8 ?_;refine tK 9 ?_;refine tK 10 ?_;refine tK 11 ?_;refine tK 12 ?_;refine tK 13 ?_;refine tK 14 ?_;refine tC 15 fun K hK=>?_;go_simp
    (try clear rH);refine tP hK (by((try dsimp only);((try with_reducible refine Aa.drew ?_);(try with_reducible refine Aa.alloc ?_ _);with_reducible exact Aa.refl _ _))) fun rH hHeld=>?_;clear hK K
    refine tS fun K hK=>?_;go_simp
    (try clear rH);(try clear hHeld);refine tT hK fun hHeld=>?_;clear hK K
    refine wpAnyH_done bC ?_ _
    (go_wp2_with (fail);go_meet;exact⟨_,rfl,lH (by first | exact Blk.new _ _ _ | exact(((Blk.new wa.drew 73 #[Dz ⟨#[]⟩,pE pK 0,Dz ⟨#[]⟩]).set_ 0 (Dz j.req.who)).set_ 1 (pE pK j.req.id)).set_ 2 (Dz y.text)),lH (by first | exact((Aa.refl [] wa).drew).alloc _ | exact(((((Aa.refl [] wa).drew).alloc _).setCell (.inr bA) _).setCell (.inr bA) _).setCell (.inr bA) _)⟩)
   case rest=>
    obtain⟨g,rfl,HG,HKG⟩:=hcut
    rename World=>wc
    clear r T;have rg:=HG.o.rl;have T:=(E.o.keeps HKG.o bA).rl;have J:=fun W=>fT y.who j.req.who y.id j.req.id y.text W;by_cases hh:y.who=j.req.who/\y.id=j.req.id
    ·obtain rfl:R=some y.text:=by rw [<- HR.o];exact QO HA.o U.o hh.1 hh.2
     rw [hh.1,hh.2,decide_eq_true rfl] at J;rw [hh.1,hh.2] at T;clear hh;go_wp2_with (fail);go_ret2;exact⟨rfl,B.o.trans HKG.o⟩
    ·have X:decide ((⟨y.who,y.id,y.text⟩:IA)=⟨j.req.who,j.req.id,y.text⟩)=false:=decide_eq_false (fun e=>by injection e with e1 e2 _;exact hh ⟨e1,e2⟩)
     rw [X] at J;have N:Hi (aJ l j.req.who j.req.id (k+1)):=lH (fun i hi a F=>by
      rcases pP i k with h | h
      ·exact HA.o i h a F
      ·obtain rfl:i=k:=by omega
       rw [U.o] at F;injection F with F
       rw [<- F];exact hh)
     clear hh X;go_wp2_with (fail);go_roundw;case rel=>exact⟨k+1,by omega,by go_num,N,lH (B.o.trans HKG.o)⟩
     case measure=>simp [intOf];omega
  ·obtain rfl:k=n:=by omega
   obtain rfl:R=none:=by rw [<- HR.o];exact Ol (by rw [HN.o];exact HA.o)
   go_wp2;go_ret2;exact⟨rfl,HK.o⟩
end
section
open Go.RowKit Go.Shelf
structure SI(wb:World)(sb:Nat)(w:World)(v:CV)(c:BN):Prop where
 kw:Aa [] wb w
 lo:wb.heap.size+3≤sb
 m:Cg w v c
 no:DU (fun y=>y=sb∨y<wb.heap.size+3) v c
 nj:DW (fun y=>y=sb∨y<wb.heap.size+3) v.ja v.jn
theorem SI.keeps{wb w w':World}{sb:Nat}{v:CV}{c:BN}(h:SI wb sb w v c)(hk:Aa [] w w'):SI wb sb w' v c:=⟨h.kw.trans hk,h.lo,h.m.keeps hk,h.no,h.nj⟩
theorem SI.put{wb w w':World}{sb:Nat}{v u:CV}{c:BN}{j:Bq}{now left:Int}{e:GJ}(h:SI wb sb w v c)(hs:AH w sb j u now left e)(hk:Aa [sb] w w'):SI wb sb w' v c:=
 ⟨h.kw.own hk (fun y hy=>by obtain rfl:=Ag.1 hy;have:=h.lo;omega),h.lo,h.m.stay h.no h.nj hk (fun y hy=>.inl bU) (H9.blk hs bE bE),h.no,h.nj⟩
def Lz(wb:World)(sb:Nat)(w:World)(now left:Int)(R:Bq×BN×GJ):Ending->World->Prop:=fun r w'=>∃v',r = pJ (.tuple #[])/\AH w' sb R.1 v' now left R.2.2/\SI wb sb w' v' R.2.1/\Aa [sb] w w'
theorem NY{w:World}{a:Option Addr}{c:Nat}{xs:List ByteArray}(h:Cy w a c xs):Kv w a c xs:=
 ⟨h.le,h.nil,fun h0=>by
  obtain⟨g,off,cs,fz,ha,hb,hat⟩:=h.at_ (by intro e;rw [e] at h0;simp at h0);refine⟨g,off,ha,(Ai.1 hb).1,fun i hi j u hj=>?_⟩;cases j with
  | zero=>
   simp only [Fd,Aj,Option.some.injEq] at hj;rw [<- hj,pR,AT];exact hat i hi
  | succ j=>simp [Fd] at hj⟩
theorem Wf(l:List ByteArray):l.flatMap Fd=l.map Dz:=by
 induction l with
 | nil=>rfl
 | cons x l ih=>rw [List.flatMap_cons,ih];rfl
theorem Xd{w:World}{B n c:Nat}{a:Option Addr}{xs:List ByteArray}(h:w.ownsRow B 9 1 (pF a n c) xs.length (xs.flatMap Fd))(D:xs.length<=1000000)(hsz:∀x∈xs,x.size<=maxLen):Cy w a c xs:=by
 rw [Wf] at h;obtain⟨E,F,h1,h2⟩:=J0 h D hsz;injection h1 with e1 _ e3
 rw [e1,e3];exact h2
theorem Zd{p:Po}{cursor f n now:Int}{q:Po}{page:List ByteArray}{nx:Int}(h:qE p cursor f n now=(q,page,nx,0)):page.length<=64/\1<=cursor/\cursor<=1000000000000/\-1<=nx/\nx<=64:=by
 rcases Ps h with⟨_,_,_,h4⟩ | ⟨J,M,s,hl,hm,h2,_,h3,h4,F,G,_,E,h8,_⟩
 ·exact absurd rfl h4
 ·have hs:s∈p.l:=by rw [hl];simp
  have h10:=hm.ok.cur s hs;have B:=hm.ok.wh s hs;have D:=hm.ok.n2;simp only [Dd,Af,decide_eq_true_eq] at B;have hp:page.length<=s.items.length:=by rw [E];unfold oV;rw [Ax,B1];omega
  refine⟨by omega,by omega,by omega,?_,?_⟩;all_goals
   rw [h8];unfold oW IL
   repeat' split
   all_goals omega
theorem Zm{p:Po}{xs:List ByteArray}{now:Int}{q:Po}{cur err:Int}(h:IV p xs now=(q,cur,err)): -9223372036854775808<=err/\err<=9223372036854775807:=by
 unfold IV at h;split at h<;>cases h<;>decide
theorem Zc{p:Po}{cursor f n now:Int}{q:Po}{page:List ByteArray}{nx err:Int}(h:qE p cursor f n now=(q,page,nx,err)): -9223372036854775808<=err/\err<=9223372036854775807:=by
 unfold qE at h
 repeat' split at h
 all_goals (cases h;decide)
end
section
open Go.RowKit Go.Shelf
attribute [local go_sem] pN Lr Ls Lp Lq
attribute [local go_sem ↓] wp_at_zero wp_at_succ
theorem EO{P:Program}{B:Oper}{a:Act}{w:World}(ty:TypeId)(x:Operand)(ho:B.op = .load ty x)(b o:Nat)(hx:a.eval x = p_ b o)(cs:Array Value)(d:TypeDesc)(D:w.rangeAt b o cs.toList)
 (hu:P.underlying ty=some d)(E:d.isRow=true)(hi:(P.info? ty).map (·.size)=some cs.toList.length):(execOp a.eval B).run P w = .ok (.value (.agg cs)) w:=by
 unfold execOp;simp only [ho,hx,Instr.loadAt,Instr.sureAddr,Sem.run_bind,Sem.run_pure,Result.andThen_ok,run_loadVar_mid w b o ty cs.toList d D hu E hi]
theorem AH.reqs{w:World}{sb:Nat}{j:Bq}{v:CV}{now left:Int}{e:GJ}(h:AH w sb j v now left e):w.rangeAt sb 3 (reqA j.req).toList:=fun i u hu=>by
 have:=(AH.lit h).cell (3+i);rw [this];simp only [reqA] at hu
 match i,hu with
 | 0,hu=>exact hu
 | 1,hu=>exact hu
 | 2,hu=>exact hu
 | 3,hu=>exact hu
 | 4,hu=>exact hu
 | 5,hu=>exact hu
 | 6,hu=>exact hu
 | 7,hu=>exact hu
 | 8,hu=>exact hu
 | 9,hu=>exact hu
 | 10,hu=>exact hu
 | 11,hu=>exact hu
 | 12,hu=>exact hu
 | 13,hu=>exact hu
 | 14,hu=>exact hu
 | 15,hu=>exact hu
 | 16,hu=>exact hu
 | i+17,hu=>simp at hu
theorem Wt{j:Bq}{p P:Po}{xs:List ByteArray}{seq now cur err:Int}(h:(if j.req.cursor=0 then IV p xs now else(p,j.req.cursor,0))=(P,cur,err))(h0:¬err=0):Ft j p xs seq now=(j.refuses j.req.id err,p):=by
 unfold Ft;simp only [h];rw [if_pos h0]
theorem Wu{j:Bq}{p P Q:Po}{xs page:List ByteArray}{seq now cur nx err:Int}(h:(if j.req.cursor=0 then IV p xs now else(p,j.req.cursor,0))=(P,cur,0))(h2:qE P cur j.req.from_ j.req.count now=(Q,page,nx,err))(h0:¬err=0):Ft j p xs seq now=(j.refuses j.req.id err,p):=by
 unfold Ft;simp only [h,h2];rw [if_neg bA,if_pos h0]
theorem Wv{j:Bq}{p P Q:Po}{xs page:List ByteArray}{seq now cur nx:Int}(h:(if j.req.cursor=0 then IV p xs now else(p,j.req.cursor,0))=(P,cur,0))(h2:qE P cur j.req.from_ j.req.count now=(Q,page,nx,0)):
  Ft j p xs seq now=(j.answers (Ex (okT::pX j.req.id::pX seq::pX cur::(if 0<=nx then pX nx else qF)::page)),Q):=by
 unfold Ft;simp only [h,h2];rw [if_neg bA,if_neg bA];simp
theorem Ze{p:Po}{cursor f n now:Int}{q:Po}{page:List ByteArray}{nx:Int}(h:qE p cursor f n now=(q,page,nx,0)):q.l.length<=3:=by
 rcases Ps h with⟨_,_,_,h4⟩ | ⟨B,D,s,hl,hm,_,_,_,_,_,_,hq,_⟩
 ·exact absurd rfl h4
 ·have:=hm.ok.len
  rw [hl] at this;rw [hq];simp at this ⊢;omega
theorem Cg.pool{w:World}{v:CV}{c:BN}(h:Cg w v c){a:Option Addr}{n k:Nat}{V:List SV}{P:Po}(hP:BP w a k V P)(hn:V.length=n)(hl:n<=1000):Cg w { v with pa:=a,pn:=n,pc:=k,pv:=V,nx:=P.next } { c with pool:=P }:=
 { h with p:=hP,pn:=hn,pl:=hl,nx:=rfl }
theorem SI.pool{wb w:World}{sb:Nat}{v:CV}{c:BN}(h:SI wb sb w v c){a:Option Addr}{n k:Nat}{V:List SV}{P:Po}(hP:BP w a k V P)(hn:V.length=n)(hl:n<=1000):SI wb sb w { v with pa:=a,pn:=n,pc:=k,pv:=V,nx:=P.next } { c with pool:=P }:=
 ⟨h.kw,h.lo,h.m.pool hP hn hl,⟨h.no.o,h.no.r,h.no.d⟩,h.nj⟩
theorem AH.pool{w:World}{sb:Nat}{j:Bq}{v:CV}{now left:Int}{e:GJ}(h:AH w sb j v now left e)(a:Option Addr)(n k:Nat)(V:List SV)(x:Int):AH ((w.setCell (A_ sb 30) (pF a n k)).setCell (A_ sb 31) (I_ x)) sb j { v with pa:=a,pn:=n,pc:=k,pv:=V,nx:=x } now left e:=
 (Blk.set_ h 30 (pF a n k)).set_ 31 (I_ x)
theorem N1{w:World}{sb:Nat}{j:Bq}{v:CV}{now left:Int}{e:GJ}(h:AH w sb j v now left e):H9 w [sb]:=H9.blk h bE bE
theorem N0{w:World}{g:Nat}{cs:Array Value}(h:Blk w g 32 cs):H9 w [g]:=H9.blk h bE bE
theorem YP(sb:Nat)(j:Bq)(v:CV)(c:BN)(now left:Int)(e:GJ)(seq:Int)(hid : -9223372036854775808<=j.req.id/\j.req.id<=9223372036854775807)(hsq : -9223372036854775808<=seq/\seq<=9223372036854775807)(hnm:∀x∈Bz c.reg,x.size<=maxLen)
 (wb w:World)(eN:Nat->Addr)(hE:Ks wb)(hN:M1 wb eN)(hI:SI wb sb w v c)(h:AH w sb j v now left e):
  Calls prog 126 #[.pointer (some (A_ sb 0)),.int .i64 seq] w (Lz wb sb w now left ((Ft j c.pool (Bz c.reg) seq now).1,{ c with pool:=(Ft j c.pool (Bz c.reg) seq now).2 },e)):=by
 have HE:Hi (∀W,Aa [] wb W->Ks W):=lH fun W hk=>hE.keeps hk;have HN:Hi (∀W,Aa [] wb W->M1 W eN):=lH fun W hk=>M1.keep hN hk;have HI:=lH hI;have HB:=lH h;have HID:=lH hid;have HSQ:=lH hsq;have HNM:=lH hnm;have hnl:(Bz c.reg).length=v.ln:=by rw [<- hI.m.l];unfold Bz;exact List.length_map ..
 have hnz:v.ln<=1000:=by rw [<- hI.m.l];exact hI.m.r.sl
 have HNL:=lH (show(Bz c.reg).length=v.ln/\v.ln<=1000 from⟨hnl,hnz⟩);obtain⟨LC,hLC⟩:=eX (Ft j c.pool (Bz c.reg) seq now);rw [hLC];have HLC:=lH hLC;have HNA:Hi (∀W,Aa [] w W->Calls prog 167 #[.agg (R_ v.r v.gn v.un v.fn v.ln v.seq)] W fun x w'=>∃a k,x = .returned (.slice a v.ln k)/\Cy w' a k (Bz c.reg)/\Aa [] W w'):=lH fun W hk=>
  (Vr v.r c.reg v.gn v.un v.fn v.ln hI.m.lv hnz v.seq hI.m.q W (hI.m.r.l.keeps hk) (hI.m.r.t.keeps hk)).mono fun x w' ⟨a,k,h1,_,h3,h4⟩=>⟨a,k,h1,Xd h3 (by rw [hnl];omega) hnm,h4⟩
 have HRQ:Hi (∀W,Aa [] w W->W.rangeAt sb 3 (reqA j.req).toList):=lH fun W hk=>AH.reqs (AH.keeps HB.o hk bA);have HSB:Hi (sb<w.heap.size):=lH (Blk.lt h);have r:=(AH.lit h).rl;clear hE hN hI h hid hsq hnm hLC hnl hnz;go_enter func126,ntmps126;go_upto_region 0 with fail
 go_cut [4,5,6] (fun x y z wc=>∃pb qb,x = .pointer (some (A_ pb 0))/\y = .int .i64 j.req.cursor/\z = .pointer (some (A_ qb 0))/\Hi (Blk wc pb 32 #[.slice v.pa v.pn v.pc,.int .i64 v.nx])/\Hi (Blk wc qb 59 (reqA j.req))/\Hi (Aa [] w wc)/\Hi (w.heap.size<=pb/\pb≠qb/\w.heap.size<=qb))
 case first=>
  refine C8 (b:=20) (S:=(Aa [] w)) bC fY (fun hHeld=>?_);refine tK 0 ?_;refine tK 1 ?_;refine tK 2 ?_;refine tK 3 ?_;refine tK 4 ?_;refine tK 5 ?_;refine tK 6 ?_;refine tK 7 ?_;refine tK 8 ?_;refine tK 9 ?_;refine tK 10 ?_;refine tK 11 ?_;refine tK 12 ?_;refine tK 13 ?_;refine tK 14 ?_;refine tQ 15 ?_ (hy:=by(intro wS hSw;refine(EO (P:=prog) 59 _ bD sb 3 bD (reqA j.req) _ (HRQ.o wS hSw) underlying59 rfl (Cr _)).trans ?_;with_reducible rfl));refine I5 (rs:=[16,17]) bC bA ?_;refine Dm.cons rfl bE (fun K hK=>?_) ?_
  ·go_simp
   (try clear rH);refine tP hK fY fun rH hHeld=>?_;clear hK K
   refine tC 17 fun K hK=>?_;go_simp
   (try clear rH);refine tP hK fY fun rH hHeld=>?_;clear hK K
   refine tC 18 fun K hK=>?_;go_simp
   (try clear rH);refine tP hK fY fun rH hHeld=>?_;clear hK K
   refine tK 19 ?_;refine tS fun K hK=>?_
   (first | refine wp_store_mid 59 _ _ bD (w+1) 0 (reqA j.req) bD bD (Blk.there (Ar _ _ _ _ bA) 0 17 bE) (Cr _) (Dg _) ?_ | refine wp_store_mid 59 _ _ bD w 0 (reqA j.req) bD bD (Blk.there ((Ar _ _ _ _ bA).alloc _) 0 17 bE) (Cr _) (Dg _) ?_)
   (try clear rH);(try clear hHeld);refine tT hK fun hHeld=>?_;clear hK K
   refine wpAnyH_done bC ?_ _
   (go_wp2_with fail;go_meet;refine⟨_,_,rfl,rfl,rfl,lH ?_,lH ?_,lH ?_,lH ⟨by simp,by simp,by simp⟩⟩;(· refine Blk.keeps ?_ (Bb _ 0 _ _) bA;(repeat(with_reducible first | exact Blk.new _ _ _ | exact Ar _ _ _ _ bA | refine Blk.alloc ?_ _ | refine Blk.drew ?_)));(· refine Blk.putAll (cs:=aQ.k) ?_ rfl;(repeat(with_reducible first | exact Blk.new _ _ _ | exact Ar _ _ _ _ bA | refine Blk.alloc ?_ _ | refine Blk.drew ?_)));(· refine Aa.setCells (.inr bA) _ 0 ?_;repeat(with_reducible first | exact Aa.refl _ _ | refine Aa.drew ?_ | refine Aa.alloc ?_ _)))
  refine Dm.cons rfl bE (fun K hK=>?_) ?_
  ·go_simp
   (try clear rH);refine tP hK fY fun rH hHeld=>?_;clear hK K
   refine tC 16 fun K hK=>?_;go_simp
   (try clear rH);refine tP hK fY fun rH hHeld=>?_;clear hK K
   refine tC 18 fun K hK=>?_;go_simp
   (try clear rH);refine tP hK fY fun rH hHeld=>?_;clear hK K
   refine tK 19 ?_;refine tS fun K hK=>?_
   (first | refine wp_store_mid 59 _ _ bD (w+1) 0 (reqA j.req) bD bD (Blk.there (Ar _ _ _ _ bA) 0 17 bE) (Cr _) (Dg _) ?_ | refine wp_store_mid 59 _ _ bD w 0 (reqA j.req) bD bD (Blk.there ((Ar _ _ _ _ bA).alloc _) 0 17 bE) (Cr _) (Dg _) ?_)
   (try clear rH);(try clear hHeld);refine tT hK fun hHeld=>?_;clear hK K
   refine wpAnyH_done bC ?_ _
   (go_wp2_with fail;go_meet;refine⟨_,_,rfl,rfl,rfl,lH ?_,lH ?_,lH ?_,lH ⟨by simp,by simp,by simp⟩⟩;(· refine Blk.keeps ?_ (Bb _ 0 _ _) bA;(repeat(with_reducible first | exact Blk.new _ _ _ | exact Ar _ _ _ _ bA | refine Blk.alloc ?_ _ | refine Blk.drew ?_)));(· refine Blk.putAll (cs:=aQ.k) ?_ rfl;(repeat(with_reducible first | exact Blk.new _ _ _ | exact Ar _ _ _ _ bA | refine Blk.alloc ?_ _ | refine Blk.drew ?_)));(· refine Aa.setCells (.inr bA) _ 0 ?_;repeat(with_reducible first | exact Aa.refl _ _ | refine Aa.drew ?_ | refine Aa.alloc ?_ _)))
  exact Dm.nil
 case rest=>
  obtain⟨pb,qb,rfl,rfl,rfl,HPB,HQB,HK,HPQ⟩:=hcut
  rename World=>wc
  clear r;have HIC:=lH (HI.o.keeps HK.o);have HBC:Hi (AH wc sb j v now left e):=lH (AH.keeps HB.o HK.o bA);have r:=(AH.lit HBC.o).rl;have rp:=HPB.o.rl;have ne1:¬sb=pb:=by have:=HPQ.o.1;have:=HSB.o;omega
  have ne2:¬qb=pb:=by have:=HPQ.o.2.1;omega
  obtain⟨bc,hbc⟩:=eX ((j.req.cursor==0));have HBC:=lH hbc;go_upto_if 28 with fail
  clear hbc;go_cut [5,7] (fun x y wd=>∃a n k V P cur,x = .int .i64 cur/\y = .int .i64 0/\Hi ((if j.req.cursor=0 then IV c.pool (Bz c.reg) now else(c.pool,j.req.cursor,0))=(P,cur,0))/\Hi (V.length=n)/\Hi (BP wd a k V P)/\Hi (Blk wd pb 32 #[.slice a n k,.int .i64 P.next])/\Hi (Blk wd qb 59 (Q_ j.req))/\Hi (Aa [] w wd))
  case first=>
   cases bc;rotate_left
   ·have h0:j.req.cursor=0:=by simpa using HBC.o
    obtain⟨P,cur,err,hP⟩:∃P cur err,IV c.pool (Bz c.reg) now=(P,cur,err):=⟨_,_,_,rfl⟩;have HP1:Hi ((if j.req.cursor=0 then IV c.pool (Bz c.reg) now else(c.pool,j.req.cursor,0))=(P,cur,err)):=lH (by rw [if_pos h0];exact hP);have HER:=lH (Zm hP);have HPN:Hi (∀W a m,Aa [] wc W->Cy W a m (Bz c.reg)->Calls prog 166 #[.agg #[.slice v.pa v.pn v.pc,.int .i64 v.nx],.slice a v.ln m,.int .i64 now] W (OA W P cur err)):=lH fun W a m hk hs=>by
     rw [<- HI.o.m.nx];exact iC v.pa v.pc v.pv c.pool v.pn HI.o.m.pn a m v.ln (Bz c.reg) HNL.o.1 now W (HI.o.m.p.keeps (HK.o.trans hk)) hs eN (HN.o W (HI.o.kw.trans (HK.o.trans hk))) P cur err hP
    clear hP h0;go_upto_region 3 with fail
    go_cut [5,7] (fun x y wd=>∃a n k V,x = .int .i64 cur/\y = .int .i64 err/\Hi (V.length=n)/\Hi (BP wd a k V P)/\Hi (Blk wd pb 32 #[.slice a n k,.int .i64 P.next])/\Hi (Aa [pb] wc wd))
    case first=>
     refine wp_region_held_drew (S:=(Aa [pb] wc)) bC (by((try dsimp only);((try with_reducible refine Aa.drew ?_);(repeat with_reducible refine Aa.setCell ?_ (.inl bA) _);with_reducible (first | exact hkm2 | exact hkm1 | exact Aa.refl _ _)))) (fun hHeld=>?_)
     repeat' (first | exact rZ | refine rX ?_ | ((first | (refine rA 0 (fun K hK=>?_) ?_;go_simp) | (refine rA 6 (fun K hK=>?_) ?_;go_simp;(refine(HNA.o _ (HK.o.trans ((Aa.refl [] wc).drew))).mono ?_;rintro e1 w1 ⟨na,nk,rfl,hs1,hk1⟩;have hk1:=((Aa.refl [] wc).drew).trans hk1;have hkm1:=hk1.mono (S':=[pb]) bA;have rk:=(HPB.o.keeps hk1 bA).rl)) | (refine rA 11 (fun K hK=>?_) ?_;go_simp;(refine(HPN.o _ _ _ hk1 hs1).mono ?_;rintro e1 w2 ⟨a,n,k,V,rfl,hn,hp,hk2,hfr⟩;have hk2:=hk1.trans hk2;have hkm2:=hk2.mono (S':=[pb]) bA;have rk2:=(HPB.o.keeps hk2 bA).rl)) | (refine rA 16 (fun K hK=>?_) ?_;go_simp));(try clear rH);refine rP hK ((by((try dsimp only);((try with_reducible refine Aa.drew ?_);(repeat with_reducible refine Aa.setCell ?_ (.inl bA) _);with_reducible (first | exact hkm2 | exact hkm1 | exact Aa.refl _ _))))) fun rH hHeld=>?_;clear hK K) | (refine rK 1 ?_;refine rK 2 ?_;refine rK 3 ?_;refine rK 4 ?_;refine rK 5 ?_;refine rK 7 ?_;refine rK 8 ?_;refine rK 9 ?_;refine rK 10 ?_) | (refine rK 12 ?_;refine rK 13 ?_;refine rK 14 ?_;refine rK 15 ?_) | (refine rK 17 ?_;refine rK 18 ?_) | refine rB [0,6,11,16] ?_ | (refine wpAnyH_done bC ?_ _;(go_wp2_with fail;go_meet;exact⟨a,n,k,V,rfl,rfl,lH hn,lH (hp.off ((Ae _ pb 0 _).trans (Ae _ pb 1 _)) (N0 (HPB.o.keeps hk2 bA))),lH (((HPB.o.keeps hk2 bA).set_ 0 (.slice a n k)).set_ 1 (.int .i64 P.next)),lH ((hk2.mono bA).trans ((Ae _ pb 0 _).trans (Ae _ pb 1 _)))⟩)))
    case rest=>
     obtain⟨a,n,k,V,rfl,rfl,HVN,HPV,HPB2,HKD⟩:=hcut
     rename World=>wd
     clear r rp;have HKW:Hi (Aa [] w wd):=lH (HK.o.own HKD.o (fun y hy=>by obtain rfl:=List.mem_singleton.1 hy;exact HPQ.o.1));have HBD:Hi (AH wd sb j v now left e):=lH (AH.keeps HB.o HKW.o bA);have HQD:Hi (Blk wd qb 59 (Q_ j.req)):=lH (HQB.o.keeps HKD.o (by have:=HPQ.o.2.1;simp;omega));by_cases h1:err=0
     ·subst h1
      go_wp2_with fail;go_meet;exact⟨a,n,k,V,P,cur,rfl,rfl,HP1,HVN,HPV,HPB2,HQD,HKW⟩
     ·have f1:(err != 0)=true:=bR;obtain rfl:LC=(j.refuses j.req.id err,c.pool):=by rw [<- HLC.o];exact Wt HP1.o h1
      have rq:=HQD.o.rl;clear h1;go_wp2_with fail;refine(FR sb j v now left e j.req.id err HID.o HER.o _ (HE.o _ (HI.o.kw.trans HKW.o)) HBD.o).mono ?_;rintro r w4 ⟨rfl,hb4,hk4⟩;have HB4:=lH hb4;have HK4:=lH hk4;clear hb4 hk4;go_wp2_with fail;exact bodyPost_ret (results_none rfl _ _ _) rfl ⟨v,rfl,HB4.o,(HI.o.keeps HKW.o).put HBD.o HK4.o,(HKW.o.mono bA).trans HK4.o⟩
   ·have h0:¬j.req.cursor=0:=by simpa using HBC.o
    have H0:=lH h0;clear h0;go_wp2_with fail;go_meet;exact⟨v.pa,v.pn,v.pc,v.pv,c.pool,j.req.cursor,rfl,rfl,lH (if_neg H0.o),lH HI.o.m.pn,lH HIC.o.m.p,lH (by rw [HI.o.m.nx];exact HPB.o),lH HQB.o,HK⟩
  case rest=>
   obtain⟨a,n,k,V,P,cur,rfl,rfl,HP1,HVN,HPV,HPD,HQD,HKW⟩:=hcut
   rename World=>wd
   clear r rp;have HBD:Hi (AH wd sb j v now left e):=lH (AH.keeps HB.o HKW.o bA);obtain⟨Q,page,nx,err,hG⟩:∃Q page nx err,qE P cur j.req.from_ j.req.count now=(Q,page,nx,err):=⟨_,_,_,_,rfl⟩;have HG:=lH hG;have HER:=lH (Zc hG);have HPG:Hi (∀W,Aa [] wd W->Calls prog 168 #[.agg #[.slice a n k,.int .i64 P.next],.int .i64 cur,.int .i64 j.req.from_,.int .i64 j.req.count,.int .i64 now] W (Lv W Q page nx err)):=lH fun W hk=>
    dI a k V P n HVN.o cur j.req.from_ j.req.count now W (HPV.o.keeps hk) eN (HN.o W (HI.o.kw.trans (HKW.o.trans hk))) Q page nx err hG
   have r:=(AH.lit HBD.o).rl;have rp:=HPD.o.rl;have rq:=HQD.o.rl;clear hG;go_upto_region 6 with fail
   go_cut [7,8,9] (fun x y z we=>∃a n k V pa m pk,x = .int .i64 err/\y = .slice pa m pk/\z = .int .i64 nx/\Hi (V.length=n)/\Hi (BP we a k V Q)/\Hi (page.length=m)/\Hi (Cy we pa pk page)/\Hi (Blk we pb 32 #[.slice a n k,.int .i64 Q.next])/\Hi (Aa [pb] wd we))
   case first=>
    refine wp_region_held_drew (S:=(Aa [pb] wd)) bC lF (fun hHeld=>?_);refine rK 1 ?_;refine rK 2 ?_;refine rK 3 ?_;refine rK 4 ?_;refine rK 5 ?_;refine rK 6 ?_;refine rK 7 ?_;refine rK 8 ?_;refine rK 9 ?_;refine rC 0 fun K hK=>?_;go_simp
    (try clear rH);refine rP hK lF fun rH hHeld=>?_;clear hK K
    refine rC 10 fun K hK=>?_;go_simp
    (refine(HPG.o _ ((Aa.refl [] wd).drew)).mono ?_;rintro e1 w2 ⟨a,n,k,V,pa,m,pk,rfl,hn,hp,hm,hst,hk2,hfr,hfr2⟩;have hk2:=((Aa.refl [] wd).drew).trans hk2;have hkm2:=hk2.mono (S':=[pb]) bA;have rk2:=(HPD.o.keeps hk2 bA).rl)
    (try clear rH);refine rP hK lF fun rH hHeld=>?_;clear hK K
    refine rK 11 ?_;refine rK 12 ?_;refine rK 13 ?_;refine rK 14 ?_;refine rK 15 ?_;refine rC 16 fun K hK=>?_;go_simp
    (try clear rH);refine rP hK lF fun rH hHeld=>?_;clear hK K
    refine rK 17 ?_;refine rK 18 ?_;refine rK 19 ?_;refine wpAnyH_done bC ?_ _
    (go_wp2_with fail;go_meet;exact⟨a,n,k,V,pa,m,pk,rfl,rfl,rfl,lH hn,lH (hp.off ((Ae _ pb 0 _).trans (Ae _ pb 1 _)) (N0 (HPD.o.keeps hk2 bA))),lH hm,lH (hst.keepsS ((Ae _ pb 0 _).trans (Ae _ pb 1 _)) (N0 (HPD.o.keeps hk2 bA)).str),lH (((HPD.o.keeps hk2 bA).set_ 0 (.slice a n k)).set_ 1 (.int .i64 Q.next)),lH ((hk2.mono bA).trans ((Ae _ pb 0 _).trans (Ae _ pb 1 _)))⟩)
   case rest=>
    obtain⟨a,n,k,V,pa,m,pk,rfl,rfl,rfl,HVN,HPV,HM,HST,HPE,HKE⟩:=hcut
    rename World=>we
    clear r rp rq;have HKV:Hi (Aa [] w we):=lH (HKW.o.own HKE.o (fun y hy=>by obtain rfl:=List.mem_singleton.1 hy;exact HPQ.o.1));have HBE:Hi (AH we sb j v now left e):=lH (AH.keeps HB.o HKV.o bA);have HQE:Hi (Blk we qb 59 (Q_ j.req)):=lH (HQD.o.keeps HKE.o (by have:=HPQ.o.2.1;simp;omega));have rq:=HQE.o.rl;have rp:=HPE.o.rl;by_cases h1:err=0;rotate_left
    ·have f1:(err != 0)=true:=bR;obtain rfl:LC=(j.refuses j.req.id err,c.pool):=by rw [<- HLC.o];exact Wu HP1.o HG.o h1
     clear h1;go_wp2_with fail;refine(FR sb j v now left e j.req.id err HID.o HER.o _ (HE.o _ (HI.o.kw.trans HKV.o)) HBE.o).mono ?_;rintro r w4 ⟨rfl,hb4,hk4⟩;have HB4:=lH hb4;have HK4:=lH hk4;clear hb4 hk4;go_wp2_with fail;exact bodyPost_ret (results_none rfl _ _ _) rfl ⟨v,rfl,HB4.o,(HI.o.keeps HKV.o).put HBE.o HK4.o,(HKV.o.mono bA).trans HK4.o⟩
    ·subst h1
     have HLE:Hi (LC=(j.answers (Ex (okT::pX j.req.id::pX seq::pX cur::(if 0<=nx then pX nx else qF)::page)),Q)):=lH (by rw [<- HLC.o];exact Wv HP1.o HG.o);have HPF:=lH (Zd HG.o);have hn3:n<=1000:=by have:=HVN.o;have:=HPV.o.mt.len;have:=Ze HG.o;omega
     obtain⟨v2,hv2⟩:∃v2:CV,{ v with pa:=a,pn:=n,pc:=k,pv:=V,nx:=Q.next } = v2:=⟨_,rfl⟩;obtain⟨wf,hwf⟩:=eX ((we.setCell (A_ sb 30) (.slice a n k)).setCell (A_ sb 31) (.int .i64 Q.next));have hkf:Aa [sb] we wf:=by rw [<- hwf];exact(Ae _ sb 30 _).trans (Ae _ sb 31 _)
     have HBF:Hi (AH wf sb j v2 now left e):=lH (by rw [<- hwf,<- hv2];exact AH.pool HBE.o a n k V Q.next);have HSI:Hi (SI wb sb wf v2 { c with pool:=Q }):=lH (by rw [<- hv2];exact((HI.o.keeps HKV.o).put HBE.o hkf).pool (HPV.o.off hkf (N1 HBE.o)) HVN.o hn3);have HSF:Hi (Cy wf pa pk page):=lH (HST.o.keepsS hkf (N1 HBE.o).str);have HQF:Hi (Blk wf qb 59 (Q_ j.req)):=lH (HQE.o.keeps hkf (by have:=HPQ.o.2.2;have:=HSB.o;simp;omega));have HKF:Hi (Aa [sb] w wf):=lH ((HKV.o.mono bA).trans hkf);obtain⟨en,hen⟩:=eX ((if 0<=nx then pX nx else qF));have HEN:=lH hen;have r:=(AH.lit HBE.o).rl;clear hn3 hv2 hkf hen HPB HPD HPE HQB HQD HQE;obtain⟨bn,hbn⟩:=eX (decide (nx≥0));have HBN:=lH hbn;go_upto_if 81 with fail
     clear hbn;clear hwf r rp rq;go_cut [10] (fun x wg=>x = .string en/\Hi (Aa [] wf wg))
     case first=>
      cases bn;rotate_left
      ·have h2:0<=nx:=by simpa using HBN.o
       obtain rfl:en=pX nx:=by rw [<- HEN.o,if_pos h2]
       go_wp2_with fail;refine(G4 nx bB (by have:=HPF.o.2.2.2.2;omega) _ (HE.o _ HSI.o.kw).tab).mono ?_;rintro e1 w2 ⟨rfl,hk2⟩;have hk2:=lH hk2;go_wp2_with fail;go_meet;exact⟨rfl,hk2⟩
      ·have h2:¬0<=nx:=by simpa using HBN.o
       obtain rfl:en=qF:=by rw [<- HEN.o,if_neg h2]
       go_wp2_with fail;go_meet;exact⟨rfl,lH (Aa.refl _ _)⟩
     case rest=>
      obtain⟨rfl,HKG⟩:=hcut
      rename World=>wg
      have HBG:Hi (AH wg sb j v2 now left e):=lH (AH.keeps HBF.o HKG.o bA);have rq:=(HQF.o.keeps HKG.o bA).rl;obtain⟨wh,hwh⟩:=eX (wg.alloc (.cells #[.iface 9 (.string okT),.iface 3 (.int .i64 j.req.id),.iface 3 (.int .i64 seq),.iface 3 (.int .i64 cur),.iface 9 (.string en),.iface 64 (.slice pa m pk)] 20));have hkh:Aa [] wg wh:=by rw [<- hwh];exact(Aa.refl [] wg).alloc _
      have hV:QJ wh (some (A_ wg 0)) 6 [.iface 9 (.string okT),.iface 3 (.int .i64 j.req.id),.iface 3 (.int .i64 seq),.iface 3 (.int .i64 cur),.iface 9 (.string en),.iface 64 (.slice pa m pk)]:=by rw [<- hwh];exact MH wg _ 6 rfl 20
      have HS:=NP (some (A_ wg 0)) 6 6 _ [[okT],[pX j.req.id],[pX seq],[pX cur],[en],page] rfl bE (by have:=HPF.o.1;simp;omega) wh (HE.o _ (HSI.o.kw.trans (HKG.o.trans hkh))) hV
       ⟨.inl ⟨_,rfl,rfl⟩,.inr (.inl ⟨_,rfl,rfl,HID.o⟩),.inr (.inl ⟨_,rfl,rfl,HSQ.o⟩),.inr (.inl ⟨_,rfl,rfl,by have:=HPF.o.2.1;omega,by have:=HPF.o.2.2.1;omega⟩),.inl ⟨_,rfl,rfl⟩,.inr (.inr ⟨pa,m,pk,rfl,HM.o,NY (HSF.o.keeps (HKG.o.trans hkh))⟩),trivial⟩
      have HKH:=lH (HKG.o.trans hkh);have HBH:Hi (AH wh sb j v2 now left e):=lH (AH.keeps HBG.o hkh bA);have hew:okT=⟨#[111,107]⟩:=rfl;rw [hew] at hwh;clear hkh hV hew;go_wp2_with fail;clear hwh rq;refine HS.mono ?_;rintro r w1 ⟨rfl,hk1⟩;have HB1:Hi (AH w1 sb j v2 now left e):=lH (AH.keeps HBH.o hk1 bA);have HK1:=lH (HKH.o.trans hk1);clear hk1 HS;go_wp2_with fail;refine(GL sb j _ _ _ _ _ _ _ _ _ _ now left e _ _ HB1.o).mono ?_;rintro r w2 ⟨rfl,hb2,hk2⟩;have HB2:=lH hb2;have HK2:=lH hk2;clear hb2 hk2;go_wp2_with fail;rw [HLE.o,HEN.o];exact bodyPost_ret (results_none rfl _ _ _) rfl ⟨v2,rfl,HB2.o,(HSI.o.keeps HK1.o).put HB1.o HK2.o,(HKF.o.trans (HK1.o.mono bA)).trans HK2.o⟩
end
section
open Go.RowKit Go.Shelf
def Yc(j:Bq)(c:BN)(now:Int):CJ:=if(applyR c.reg j.role j.req.com now).2.err≠150 then(applyR c.reg j.role j.req.com now).1 else c.reg
def cB(j:Bq)(c:BN)(now:Int):Bq×Po:=
 if(applyR c.reg j.role j.req.com now).2.err≠0 then(j.refuses j.req.id (applyR c.reg j.role j.req.com now).2.err,c.pool)
 else if j.req.com.verb=9 then Ft j c.pool (Bz (Yc j c now)) (applyR c.reg j.role j.req.com now).2.seq now
 else(if Lh j.req.com.verb then { j.answers (Ex [okT,pX j.req.id,pX (applyR c.reg j.role j.req.com now).2.seq,pX (applyR c.reg j.role j.req.com now).2.slot,pX (applyR c.reg j.role j.req.com now).2.gen,pX (applyR c.reg j.role j.req.com now).2.version,pX (applyR c.reg j.role j.req.com now).2.state]) with phase:=4,slot:=(applyR c.reg j.role j.req.com now).2.slot,gen:=(applyR c.reg j.role j.req.com now).2.gen }
  else j.answers (Ex [okT,pX j.req.id,pX (applyR c.reg j.role j.req.com now).2.seq,pX (applyR c.reg j.role j.req.com now).2.slot,pX (applyR c.reg j.role j.req.com now).2.gen,pX (applyR c.reg j.role j.req.com now).2.version,pX (applyR c.reg j.role j.req.com now).2.state]),c.pool)
theorem Rd{j:Bq}{c:BN}{now:Int}{t:ByteArray}(h:Bf c.done j.req.who j.req.id=some t):commitC j c now=(j.answers t,c):=by unfold commitC;rw [h]
theorem Rc{j:Bq}{c:BN}{now:Int}(h:Bf c.done j.req.who j.req.id=none):
  commitC j c now=((cB j c now).1,{ c with reg:=Yc j c now,pool:=(cB j c now).2,done:=Do (c.done++[⟨j.req.who,j.req.id,(cB j c now).1.reply⟩]) }):=by
 unfold commitC;rw [h];rfl
theorem aZ{j:Bq}{c:BN}{now:Int}(h:CE c.reg):CE (Yc j c now):=by
 unfold Yc;split
 ·rename_i h0;exact MI h _ _ _ h0
 ·exact h
theorem Wz{r:CJ}(h:CE r):∀x∈Bz r,x.size<=maxLen:=fun x hx=>by
 have:=((Mk h).2 x hx).1;have h3:x.size=x.data.toList.length:=by rw [BX];rfl
 unfold maxLen;omega
theorem AH.reg{w:World}{sb:Nat}{j:Bq}{v:CV}{now left:Int}{e:GJ}(h:AH w sb j v now left e)(rv:B6)(gn un fn ln:Nat)(q:Int):
  AH (((((w.setCell (A_ sb 25) (pF rv.s.ga gn rv.s.gc)).setCell (A_ sb 26) (pF rv.s.ua un rv.s.uc)).setCell (A_ sb 27) (pF rv.s.fa fn rv.s.fc)).setCell (A_ sb 28) (pF rv.la ln rv.lc)).setCell (A_ sb 29) (I_ q)) sb j { v with r:=rv,gn:=gn,un:=un,fn:=fn,ln:=ln,seq:=q } now left e:=
 ((((Blk.set_ h 25 (pF rv.s.ga gn rv.s.gc)).set_ 26 (pF rv.s.ua un rv.s.uc)).set_ 27 (pF rv.s.fa fn rv.s.fc)).set_ 28 (pF rv.la ln rv.lc)).set_ 29 (I_ q)
theorem Aa.two{a b:Nat}{w w1 w2 w3:World}(h:Aa [] w w1)(h1:Aa [a] w1 w2)(h2:Aa [b] w2 w3):Aa [a,b] w w3:=((h.mono bA).trans (h1.mono bA)).trans (h2.mono bA)
theorem AH.done{w:World}{sb:Nat}{j:Bq}{v:CV}{now left:Int}{e:GJ}(h:AH w sb j v now left e)(a:Option Addr)(n k:Nat):AH (w.setCell (A_ sb 33) (pF a n k)) sb j { v with da:=a,dn:=n,dc:=k } now left e:=Blk.set_ h 33 (pF a n k)
theorem AH.sweep{w:World}{sb:Nat}{j:Bq}{v:CV}{now left:Int}{e:GJ}(h:AH w sb j v now left e)(s g:Int):AH (((w.setCell (A_ sb 1) (I_ 4)).setCell (A_ sb 22) (I_ s)).setCell (A_ sb 23) (I_ g)) sb { j with phase:=4,slot:=s,gen:=g } v now left e:=
 ((Blk.set_ h 1 (I_ 4)).set_ 22 (I_ s)).set_ 23 (I_ g)
theorem SI.reg{wb w:World}{sb:Nat}{v:CV}{c:BN}(h:SI wb sb w v c){rv:B6}{R:CJ}(hm:CH w rv R)(hn:CL (fun y=>y=sb\/y<wb.heap.size+3) rv R){gn un fn ln:Nat}{q:Int}(hq:q=R.seq)(hg:R.slots.gens.length=gn)(hu:R.slots.used.length=un)(hf:R.slots.free.length=fn)(hl:R.l.length=ln):
  SI wb sb w { v with r:=rv,gn:=gn,un:=un,fn:=fn,ln:=ln,seq:=q } { c with reg:=R }:=
 ⟨h.kw,h.lo,{ h.m with r:=hm,g:=hg,u:=hu,f:=hf,l:=hl,q:=hq.symm },⟨h.no.o,hn,h.no.d⟩,h.nj⟩
theorem SI.done{wb w:World}{sb:Nat}{v:CV}{c:BN}(h:SI wb sb w v c){a:Option Addr}{n k:Nat}{d:List IA}(hd:O8 w a k d)(hn:d.length=n)(hl:n<=900)(hq:DW (fun y=>y=sb\/y<wb.heap.size+3) a n):SI wb sb w { v with da:=a,dn:=n,dc:=k } { c with done:=d }:=
 ⟨h.kw,h.lo,{ h.m with d:=hd,dn:=hn,dl:=hl },⟨h.no.o,h.no.r,hq⟩,h.nj⟩
theorem CH.stayO{w W':World}{v:B6}{r:CJ}{B:Nat}{S:List Nat}(h:CH w v r)(hn:CL (· < B) v r)(hk:Aa S w W')(hS:∀y∈S,y<B\/w.heap.size<=y):CH W' v r:=
 h.stay (Q:=fun y=>y<B\/w.heap.size<=y) (hn.and2 (h.later (Q:=fun y=>w.heap.size<=y) (fun _ hy=>hy)) (fun _ hy=>hy)) hk hS
theorem QN{W:World}{B n k:Nat}{a:Option Addr}{xs:List IA}(h:W.ownsRow B 73 3 (pF a n k) n (xs.flatMap Cu))(hn:xs.length=n)(hl:n<=900)(N:B<=W.heap.size){g:Nat}{x:IA}(hx:AR Cu 3 W (some (A_ g 0)) 1 [x])(M:TypeId):
  ∃g' k' w',(BI #[34,34] M #[pF a n k,pF (some (A_ g 0)) 1 1]).run prog W = .ok (pF (some (A_ g' 0)) (n+1) k') w'/\w'.ownsRow B 73 3 (pF (some (A_ g' 0)) (n+1) k') (n+1) ((xs++[x]).flatMap Cu)/\(∀w0,Aa [] w0 W->w0.heap.size<=B->Aa [] w0 w'):=by
 obtain⟨O,z,D,E,F,G,J⟩:=Ck Gx;subst hn;obtain⟨v',w',h1,h2,h3⟩:=AR.app (c:=1) prog (t:=34) underlying34 D E F rfl G bE DL Kc h N hx bG J M;rw [show(xs++[x]).length=xs.length+1 by simp] at h2;obtain⟨g',k',rfl,hb,hg⟩:=QC h2;exact⟨g',k',w',h1,h2,fun w0 hk hs=>hk.grown h3 (fun y hy=>.inr (A8 hs (h.lt y hy).1))⟩
theorem Rs:Lu prog 34 73 3 (pH #[Dz ⟨#[]⟩,I_ 0,Dz ⟨#[]⟩]):=⟨by kernel_rfl,by kernel_rfl,by kernel_rfl,fun W=>by kernel_rfl,fun W=>by kernel_rfl,by kernel_rfl,by
 intro u hu;simp only [Value.cells,Ac,Ab,or_false] at hu;rcases hu with rfl | rfl | rfl<;>rfl⟩
theorem Yl{w:World}{B m g k:Nat}{xs:List IA}(hm:xs.length=m)(hp:0<m)(h:w.ownsRow B 73 3 (pF (some (A_ g 0)) m k) m (xs.flatMap Cu)):
  ∃o rc,(∀W,(AV 34 (pF (some (A_ g 0)) m k) (some (I_ ((m - 8:Nat):Int))) none none).run prog W = .ok (pF (some (A_ g o)) (m - (m - 8)) rc) W)/\O8 w (some (A_ g o)) rc (Do xs):=by
 have hS:O8 w (some (A_ g 0)) k xs:=AR.row (xs:=xs) DL (by rw [hm];exact h);have D:=hS.le;have hne:¬k=m - 8:=bB;refine⟨0+(m - 8)*3,k - (m - 8),fun W=>(Rs.s_l W g 0 m k (m - 8) bB bB).trans (by rw [if_neg hne]),?_⟩;unfold Do;rw [hm];refine⟨by rw [B1];omega,(fun e=>by cases e),fun _=>?_⟩;obtain⟨E,off,e,hg,hat⟩:=hS.at_ bB;injection e with e
 injection e with e1 e2 _
 subst e1;subst e2;refine⟨g,0+(m - 8)*3,rfl,hg,fun i hi j u hj=>?_⟩;rw [List.getElem_drop] at hj;have:=hat (m - 8+i) (by rw [B1] at hi;omega) j u hj
 rwa [show 0+(m - 8+i)*3+j=0+(m - 8)*3+i*3+j by omega] at this
end
end Go.Proofs.YtjieiikpolahfaaGreatDoor
