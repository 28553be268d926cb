/- Steps. -/
import Derived.Test.YtncebikgoleolaaGreatDoorKai
import Derived.Test.YtncebikgoleolaaGreatDoorKas
import Derived.Deep.DeepCutAuto
set_option maxRecDepth 100000
set_option maxHeartbeats 8000000
set_option linter.all false
namespace Go.Proofs.YtncebikgoleolaaGreatDoor
open Tryz
open _root_.Go renaming undef→UD
open _root_.And renaming intro→Bl
open _root_.Array renaming getElem?_eq_some_iff→Ai,getElem?_setIfInBounds→Bj,replicate_succ→Bt,replicate_zero→Bu
open _root_.Bool renaming and_assoc→EJ,and_eq_true→Af,eq_iff_iff→DI,false_and→Ep
open Ending renaming returned→pJ
open Exit renaming noGoto_normal→AY
open Fence renaming wide→Bx
open Instr renaming findNow→B0,lookup→Ed,slice→AV
open IntKind renaming i64→pK
open Lib renaming atoiAll→vI,toList_data→C9
open _root_.List renaming append_assoc→CC,append_toArray→BD,cons_append→AL,findIdx?_eq_some_iff_getElem→Dx,forall_mem_cons→AF,getD_eq_getElem?_getD→AO,getElem?_cons_succ→Ao,getElem?_cons_zero→Aj,getElem?_eq_getElem→Aq,getElem?_eq_some_iff→Ad,getElem?_map→qH,getElem?_toArray→An,length_append→Al,length_cons→Av,length_nil→D4,length_range→AP,length_singleton→Bp,map_append→pO,map_cons→CR,mem_append→AQ,mem_cons_of_mem→Ca,mem_cons→Ac,mem_singleton→Ag,nil_append→BH,not_mem_nil→Ab,push_toArray→Cd,range_succ→B3,range→AC,setIfInBounds_toArray→Ap,set_cons_succ→AB,set_cons_zero→AA,size_toArray→Cz,take_append_drop→Dn,take_of_length_le→Ak,take_succ_eq_append_getElem→BJ
open _root_.Nat renaming add_zero→AT,le_refl→Aw,lt_of_lt_of_le→BS,lt_or_ge→pP,reduceAdd→pL,reduceSub→pM,zero_add→AW,zero_le→Ba
open Oper renaming semAt_some→pN
open Result renaming andThen→Bg
open Value renaming agg→pH,bool→pI,int→pE,pointer→pG,slice→pF,string→Dz
open World renaming block_lt_of_cell?→Be,setRow_alloc_new→pQ,size_alloc→Eo
section
open Go.RowKit Go.Shelf
attribute [local go_sem] pN Lr Ls Lp Lq
attribute [local go_sem ↓] wp_at_zero wp_at_succ
def Vo(w:World):Prop:=(∃ev,w.cell? ⟨9,0,none⟩=some ev/\(ev = .nilIface\/∃te pe,ev = .iface te pe))/\(∃ev,w.cell? ⟨10,0,none⟩=some ev/\(ev = .nilIface\/∃te pe,ev = .iface te pe))
theorem Vo.keeps{w w':World}(h:Vo w)(hk:Aa [] w w'):Vo w':=by
 obtain⟨⟨e,h1,h2⟩,⟨f,h3,h4⟩⟩:=h;exact⟨⟨e,(hk.cell (p:=A_ 9 0) (Be w _ h1) bA).trans h1,h2⟩,⟨f,(hk.cell (p:=A_ 10 0) (Be w _ h3) bA).trans h3,h4⟩⟩
structure Vn(E:Nat→Addr)(w:World):Prop where
 a:Vm E w
 es:Vo w
theorem Vn.keeps{E:Nat->Addr}{w w':World}(h:Vn E w)(hk:Aa [] w w'):Vn E w':=⟨h.a.keeps hk,h.es.keeps hk⟩
theorem XL(s:ByteArray)(hs:s.size<=1000)(w:World)(D:Vo w):Calls prog 183 #[Dz s] w fun e w'=>∃n ev,e = pJ (.tuple #[pE pK n,ev])/\((vI s.data.toList = .ok n/\ev = .nilIface)\/((∀m,vI s.data.toList≠.ok m)/\∃t p,ev = .iface t p))/\Aa [] w w':=by
 obtain⟨⟨ev,h1,h2⟩,⟨B,h3,h4⟩⟩:=D;cases hR:vI s.data.toList with
 | ok v=>
  refine(strconv_Atoi_ok s bB v hR w).mono ?_;rintro e w' ⟨rfl,h⟩;refine⟨v,.nilIface,rfl,.inl ⟨rfl,rfl⟩,?_⟩;rcases h with rfl | ⟨t,rfl⟩
  ·exact Aa.refl [] _
  ·exact Aa.of_below (Joins.below_bytesWorld w w 5 t (Aw _)) []
 | range=>
  refine(strconv_Atoi_range s bB hR B w h3 h4).mono ?_;rintro e w' ⟨N,rfl,_,_,hb⟩;exact⟨_,_,rfl,.inr ⟨(fun m h=>by cases h),_,_,rfl⟩,Aa.of_below hb []⟩
 | _=>
  refine(strconv_Atoi_syntax s bB hR ev w h1 h2).mono ?_;rintro e w' ⟨N,rfl,_,_,hb⟩;exact⟨_,_,rfl,.inr ⟨(fun m h=>by cases h),_,_,rfl⟩,Aa.of_below hb []⟩
def Mz(q:QK)(l e:Value):Array Value:=#[Dz q.who,pE pK q.id,pE pK q.com.verb,Dz q.com.name,pE pK q.com.want,pE pK q.com.at_,pI q.com.rule.allow,pE pK q.com.rule.addr,pE pK q.com.rule.bits,pE pK q.com.rule.from_,pE pK q.com.rule.to_,Dz q.com.key,pE pK q.com.n,pE pK q.com.m,pE pK q.count,pE pK q.cursor,pE pK q.from_,l,e]
def Ii(b:Bool):Value:=if b then .iface 123 (pH #[pE pK 193]) else .nilIface
def CB(w:World)(rb:Nat)(p:Pr):Prop:=∃a c,Blk w rb 300 (Mz p.q (pF a p.l.length c) (Ii p.bad))/\Kv w a c p.l/\(0<p.l.length->∀g o,a=some ⟨g,o,none⟩->g≠rb)/\(∀s∈p.l,s.size<=64/\IZ s.data.toList)
theorem M5:Lu prog 41 9 1 (Dz ⟨#[]⟩):=⟨by kernel_rfl,by kernel_rfl,by kernel_rfl,fun W=>by kernel_rfl,fun W=>by kernel_rfl,by kernel_rfl,by intro u hu;simp [Value.cells] at hu;subst hu;rfl⟩
theorem FD(rb:Nat)(p:Pr)(w:World)(h:CB w rb p):Calls prog 156 #[pG (some (A_ rb 0))] w fun e w'=>e = pJ (Dz p.next.1)/\CB w' rb p.next.2/\Aa [rb] w w':=by
 obtain⟨a,c,hb,hl,hne,hg⟩:=h;have q:=hb.rl;simp only [Mz] at q;cases hp:p.l with
 | nil=>
  have HN:Hi (p.next=(⟨#[]⟩,{ p with bad:=true })):=lH (by unfold Pr.next;rw [hp]);rw [hp] at q;have N:Hi (CB (w.setCell (A_ rb 18) (Ii true)) rb { p with bad:=true }):=lH ⟨a,c,hb.set_ 18 _,hl.keepsN (Ae w rb 18 _) (fun h0 g o e=>by simpa using hne h0 g o e),hne,hg⟩;have HK:=lH (Ae w rb 18 (Ii true));simp only [Ii,if_true] at N HK;clear hb hl hne hg;go_enter func156,ntmps156;go_wp2_with fail;go_ret;exact⟨by rw [HN.o];rfl,by rw [HN.o];exact N.o,HK.o⟩
 | cons s l=>
  have HN:Hi (p.next=(s,{ p with l:=l })):=lH (by unfold Pr.next;rw [hp]);rw [hp] at hl hg q hb;obtain⟨g,off,rfl,hlt,U⟩:=hl.at_ bA;have X:=U 0 bA 0 (Dz s) rfl;simp only [Nat.zero_mul,AT] at X;obtain⟨M,O,D,G⟩:=AR.drop_run M5 (fun W=>by kernel_rfl) hl 1 bA;obtain⟨n,hn⟩:=eX l.length;rw [show(s::l).length=n+1 by rw [Av,hn]] at D q hb;rw [show n+1 - 1=n by omega] at D;have F:∀W,(AV 41 (pF (some (A_ g off)) (n+1) c) (some (I_ 1)) none none).run prog W = .ok (pF M n O) W:=D;have E:∀T o,M=some (A_ T o)->T≠rb:=by
   intro T o e;have B:=run_slice_l (P:=prog) w 41 (some (A_ g off)) (n+1) c M5.ht' .i64 1 bB bB;rw [F w,M5.el,M5.sz] at B;simp only [sliced,Bg] at B;injection B with B
   injection B with B
   rw [e] at B;have J:=hne (by rw [hp];simp) g off rfl;split at B
   ·injection B with B;injection B with B;rw [B];exact J
   ·simp only [Option.map_some,BR] at B
    injection B with B;injection B with B;rw [B];exact J
  have N:Hi (CB (w.setCell (A_ rb 17) (pF M n O)) rb { p with l:=l }):=lH ⟨M,O,by rw [hn];exact hb.set_ 17 _,G.keepsN (Ae w rb 17 _) (fun _ g o e=>by simpa using E g o e),fun _=>E,fun x hx=>hg x (Ca _ hx)⟩;have HK:=lH (Ae w rb 17 (pF M n O));have i1:(((n+1:Nat):Int)==0)=false:=by simp;omega
  have i2:(0:Int)<((n+1:Nat):Int):=bB;clear hb hl hne hg U G E D hlt hn;go_enter func156,ntmps156;go_wp2_with fail;go_ret;exact⟨by rw [HN.o];rfl,by rw [HN.o];exact N.o,HK.o⟩
theorem aU{l:List UInt8}{n:Int}(h:vI l = .ok n): -9223372036854775808<=n/\n<=9223372036854775807:=by
 unfold vI at h;split at h
 ·cases h
 ·simp only [] at h
  split at h
  ·cases h
  ·cases h
  ·rename_i u hu
   split at h
   ·cases h
   ·split at h
    ·cases h
    ·injection h with h
     subst h;split<;>omega
structure Bs(E:Nat→Addr)(v w:World)(rb:Nat):Prop where
 kw:Aa [] v w
 ge:v.heap.size≤rb
 env:Vn E v
theorem Bs.go{E:Nat->Addr}{v w w':World}{rb:Nat}(h:Bs E v w rb)(hk:Aa [rb] w w'):Bs E v w' rb:=⟨h.kw.own hk (fun y hy=>by simp only [Ac,Ab,or_false] at hy;have:=h.ge;omega),h.ge,h.env⟩
theorem Bs.en{E:Nat->Addr}{v w:World}{rb:Nat}(h:Bs E v w rb):Vn E w:=h.env.keeps h.kw
theorem CB.keep{w w':World}{B:Nat}{p:Pr}(h:CB w B p)(hk:Aa [] w w'):CB w' B p:=by
 obtain⟨a,c,h1,h2,h3,h4⟩:=h;exact⟨a,c,h1.keeps hk bA,h2.keeps hk,h3,h4⟩
theorem Ph{w:World}{B:Nat}{p:Pr}(h:CB w B p):p.next.1.size<=64/\IZ p.next.1.data.toList:=by
 obtain⟨a,c,_,_,_,h4⟩:=h;unfold Pr.next;cases hp:p.l with
 | nil=>exact⟨by show(0:Nat)<=64;omega,by show IZ [];exact⟨by simp,rfl⟩⟩
 | cons s l=>exact h4 s (by rw [hp];simp)
theorem CB.bad{w:World}{B:Nat}{p:Pr}(h:CB w B p):CB (w.setCell (A_ B 18) (Ii true)) B { p with bad:=true }:=by
 obtain⟨a,c,hb,hl,hne,hg⟩:=h;exact⟨a,c,hb.set_ 18 _,hl.keepsN (Ae w B 18 _) (fun h0 g o e=>by simpa using hne h0 g o e),hne,hg⟩
theorem CB.rl{w:World}{B:Nat}{p:Pr}(h:CB w B p):∃a c,(∀i,w.cell? (A_ B i)=(Mz p.q (pF a p.l.length c) (Ii p.bad))[i]?)/\(∀i,w.frozen? (A_ B i)=false)/\B<w.heap.size:=by
 obtain⟨a,c,hb,_⟩:=h;exact⟨a,c,hb.rl⟩
theorem GP(E:Nat->Addr)(v:World)(M:Nat)(p:Pr)(least B:Int)(w:World)(hB:Bs E v w M)(h:CB w M p):Calls prog 157 #[pG (some (A_ M 0)),I_ least,I_ B] w fun e w'=>e = pJ (I_ (p.number least B).1)/\CB w' M (p.number least B).2/\Aa [M] w w':=by
 have N:=FD M p w h;have hgd:=Ph h;obtain⟨s,p2,hp⟩:∃s p2,p.next=(s,p2):=⟨_,_,rfl⟩;obtain⟨V,hV⟩:=eX (p.number least B);rw [hV];unfold Pr.number at hV;rw [hp] at N hgd hV;simp only [] at N hgd hV;have HB:=lH hB;obtain⟨R,hR⟩:=eX (Ny s least B);rw [hR] at hV;have HV:=lH hV;have HR:=lH hR;clear hp h hB hV hR;go_enter func157,ntmps157;go_wp2_with fail
 with_reducible refine N.mono ?_
 rintro e w1 ⟨rfl,ab,hk1⟩;have HB1:=lH (HB.o.go hk1);have ac:=XL s bB w1 HB1.o.en.es;have HK1:=lH hk1;have ad:=lH ab;clear hk1 ab;go_wp2_with fail
 with_reducible refine ac.mono ?_
 rintro e w2 ⟨n,ev,rfl,hn,hk2⟩;have HB2:=lH (HB1.o.go (hk2.mono bA));have HK2:=lH (HK1.o.trans (hk2.mono bA));have O:=lH (ad.o.keep hk2);clear hk2;obtain⟨a,c,q⟩:=O.o.rl;simp only [Mz] at q;have F:=O.o.bad;have J:=HK2.o.trans (Ae w2 M 18 (Ii true));simp only [Ii,if_true] at F J;have F:=lH F;have J:=lH J;rcases hn with⟨T,rfl⟩ | ⟨hno,t,q2,rfl⟩
 ·have aa:=aU T
  have U:=G4 n aa.1 aa.2 w2 HB2.o.en.a.tab;obtain⟨x,hx⟩:=eX (E2 n);rw [hx] at U;obtain⟨d,hd⟩:=eX ((x.toList==s.toList));have HD:Hi (decide (str (itoaL n)=s)=d):=lH (by
   rw [<- hd,<- hx,C9,C9,DI,decide_eq_true_iff,beq_iff_eq];constructor
   ·intro h;rw [<- h];rfl
   ·intro h;apply ByteArray.ext;show(itoaL n).toArray=s.data;rw [<- E7 (itoaL n)];rw [show(str (itoaL n)).data.toList=s.data.toList from h])
  have Y:=lH T;clear T hx;go_wp2_with fail
  with_reducible refine U.mono ?_
  rintro e w3 ⟨rfl,hk3⟩;have X:=lH (HK2.o.trans (hk3.mono bA));have HR3:=lH (O.o.keep hk3);obtain⟨a3,c3,q3⟩:=HR3.o.rl;simp only [Mz] at q3;have D:=HR3.o.bad;have G:=X.o.trans (Ae w3 M 18 (Ii true));simp only [Ii,if_true] at D G;have D:=lH D;have G:=lH G;clear hk3 q F J;by_cases hgood:d=true/\least<=n/\n<=B
  ·obtain⟨rfl,h1,h2⟩:=hgood
   have HN:Hi (V=(n,p2)):=lH (by
    have:R=some n:=by
     rw [<- HR.o];unfold Ny;rw [Y.o];simp only [];rw [if_pos ⟨of_decide_eq_true HD.o,h1,h2⟩]
    rw [<- HV.o,this])
   have f1:¬n<least:=bB;have f2:¬B<n:=bB;clear h1 h2;go_wp2_with fail;go_ret;exact⟨by rw [HN.o];rfl,by rw [HN.o];exact HR3.o,X.o⟩
  ·have HN:Hi (V=(0,{ p2 with bad:=true })):=lH (by
    have:R=none:=by
     rw [<- HR.o];unfold Ny;rw [Y.o];simp only [];rw [if_neg];rintro⟨h1,h2,h3⟩;exact hgood ⟨by rw [<- HD.o];exact decide_eq_true h1,h2,h3⟩
    rw [<- HV.o,this])
   have af:d=false\/(d=true/\n<least)\/(d=true/\¬n<least/\B<n):=by
    cases d
    ·exact .inl rfl
    ·right
     by_cases h:n<least
     ·exact .inl ⟨rfl,h⟩
     ·refine .inr ⟨rfl,h,?_⟩
      by_cases h2:B<n
      ·exact h2
      ·exact absurd ⟨rfl,by omega,by omega⟩ hgood
   clear hgood;rcases af with rfl | ⟨rfl,f1⟩ | ⟨rfl,f1,f2⟩
   all_goals
    go_wp2_with fail;go_ret;exact⟨by rw [HN.o];rfl,by rw [HN.o];exact D.o,G.o⟩
 ·have HN:Hi (V=(0,{ p2 with bad:=true })):=lH (by
   have:R=none:=by
    rw [<- HR.o];unfold Ny;split
    ·rename_i m hm;exact absurd hm (hno m)
    ·rfl
   rw [<- HV.o,this])
  clear hno;go_wp2_with fail;go_ret;exact⟨by rw [HN.o];rfl,by rw [HN.o];exact F.o,J.o⟩
theorem Ju(E:Nat->Addr)(v:World)(B:Nat)(p:Pr)(w:World)(D:Bs E v w B)(h:CB w B p):Calls prog 214 #[pG (some (A_ B 0))] w fun e w'=>e = pJ (I_ p.any.1)/\CB w' B p.any.2/\Aa [B] w w':=by
 have HN:=GP E v B p 0 1000000000000 w D h;clear h D;go_enter func214,ntmps214;go_wp2_with fail
 with_reducible refine HN.mono ?_
 rintro e w1 ⟨rfl,h1,h2⟩;have H:=lH (Bl h1 h2);clear h1 h2;go_wp2_with fail;go_ret;exact⟨rfl,H.o.1,H.o.2⟩
theorem CB.set{w:World}{B:Nat}{p:Pr}(h:CB w B p)(i:Nat)(u:Value)(q:QK)(hq:∀l e,(Mz p.q l e).setIfInBounds i u=Mz q l e):CB (w.setCell (A_ B i) u) B { p with q:=q }:=by
 obtain⟨a,c,hb,hl,hne,hg⟩:=h;refine⟨a,c,?_,hl.keepsN (Ae w B i u) (fun h0 g o e=>by simpa using hne h0 g o e),hne,hg⟩;have:=hb.set_ i u
 rwa [hq] at this
theorem WO(E:Nat->Addr)(v:World)(B:Nat)(p:Pr)(w:World)(G:Bs E v w B)(h:CB w B p):Calls prog 185 #[pG (some (A_ B 0))] w fun e w'=>e = pJ (.tuple #[])/\CB w' B p.name/\Aa [B] w w':=by
 have HN:=FD B p w h;obtain⟨s,p2,hp⟩:∃s p2,p.next=(s,p2):=⟨_,_,rfl⟩;have F:Hi (p.name = { p2 with q:={ p2.q with com:={ p2.q.com with name:=s } } }):=lH (by unfold Pr.name;rw [hp];rfl);rw [hp] at HN;simp only [] at HN;clear h G hp;go_enter func185,ntmps185;go_wp2_with fail
 with_reducible refine HN.mono ?_
 rintro e w1 ⟨rfl,h1,h2⟩;obtain⟨a,c,q⟩:=h1.rl;simp only [Mz] at q;have D:=lH (h1.set 3 (Dz s) { p2.q with com:={ p2.q.com with name:=s } } (fun _ _=>rfl));have HK:=lH (h2.trans (Ae w1 B 3 (Dz s)));clear h1 h2;go_wp2_with fail
 go_end0
 exact⟨rfl,by rw [F.o];exact D.o,HK.o⟩
theorem WU(E:Nat->Addr)(v:World)(B:Nat)(p:Pr)(w:World)(D:Bs E v w B)(h:CB w B p):Calls prog 186 #[pG (some (A_ B 0))] w fun e w'=>e = pJ (.tuple #[])/\CB w' B p.want/\Aa [B] w w':=by
 have HN:=Ju E v B p w D h;obtain⟨s,p2,hp⟩:∃s p2,p.any=(s,p2):=⟨_,_,rfl⟩;have G:Hi (p.want = { p2 with q:={ p2.q with com:={ p2.q.com with want:=s } } }):=lH (by unfold Pr.want;rw [hp];rfl);rw [hp] at HN;simp only [] at HN;clear h D hp;go_enter func186,ntmps186;go_wp2_with fail
 with_reducible refine HN.mono ?_
 rintro e w1 ⟨rfl,h1,h2⟩;obtain⟨a,c,q⟩:=h1.rl;simp only [Mz] at q;have F:=lH (h1.set 4 (I_ s) { p2.q with com:={ p2.q.com with want:=s } } (fun _ _=>rfl));have HK:=lH (h2.trans (Ae w1 B 4 (I_ s)));clear h1 h2;go_wp2_with fail
 go_end0
 exact⟨rfl,by rw [G.o];exact F.o,HK.o⟩
theorem Z7(E:Nat->Addr)(v:World)(B:Nat)(p:Pr)(w:World)(G:Bs E v w B)(h:CB w B p):Calls prog 187 #[pG (some (A_ B 0))] w fun e w'=>e = pJ (.tuple #[])/\CB w' B p.key/\Aa [B] w w':=by
 have HN:=FD B p w h;obtain⟨s,p2,hp⟩:∃s p2,p.next=(s,p2):=⟨_,_,rfl⟩;have F:Hi (p.key = { p2 with q:={ p2.q with com:={ p2.q.com with key:=s } } }):=lH (by unfold Pr.key;rw [hp];rfl);rw [hp] at HN;simp only [] at HN;clear h G hp;go_enter func187,ntmps187;go_wp2_with fail
 with_reducible refine HN.mono ?_
 rintro e w1 ⟨rfl,h1,h2⟩;obtain⟨a,c,q⟩:=h1.rl;simp only [Mz] at q;have D:=lH (h1.set 11 (Dz s) { p2.q with com:={ p2.q.com with key:=s } } (fun _ _=>rfl));have HK:=lH (h2.trans (Ae w1 B 11 (Dz s)));clear h1 h2;go_wp2_with fail
 go_end0
 exact⟨rfl,by rw [F.o];exact D.o,HK.o⟩
theorem iH(E:Nat->Addr)(v:World)(B:Nat)(p:Pr)(w:World)(D:Bs E v w B)(h:CB w B p):Calls prog 188 #[pG (some (A_ B 0))] w fun e w'=>e = pJ (.tuple #[])/\CB w' B p.n/\Aa [B] w w':=by
 have HN:=Ju E v B p w D h;obtain⟨s,p2,hp⟩:∃s p2,p.any=(s,p2):=⟨_,_,rfl⟩;have G:Hi (p.n = { p2 with q:={ p2.q with com:={ p2.q.com with n:=s } } }):=lH (by unfold Pr.n;rw [hp];rfl);rw [hp] at HN;simp only [] at HN;clear h D hp;go_enter func188,ntmps188;go_wp2_with fail
 with_reducible refine HN.mono ?_
 rintro e w1 ⟨rfl,h1,h2⟩;obtain⟨a,c,q⟩:=h1.rl;simp only [Mz] at q;have F:=lH (h1.set 12 (I_ s) { p2.q with com:={ p2.q.com with n:=s } } (fun _ _=>rfl));have HK:=lH (h2.trans (Ae w1 B 12 (I_ s)));clear h1 h2;go_wp2_with fail
 go_end0
 exact⟨rfl,by rw [G.o];exact F.o,HK.o⟩
theorem iG(E:Nat->Addr)(v:World)(B:Nat)(p:Pr)(w:World)(D:Bs E v w B)(h:CB w B p):Calls prog 189 #[pG (some (A_ B 0))] w fun e w'=>e = pJ (.tuple #[])/\CB w' B p.m/\Aa [B] w w':=by
 have HN:=Ju E v B p w D h;obtain⟨s,p2,hp⟩:∃s p2,p.any=(s,p2):=⟨_,_,rfl⟩;have G:Hi (p.m = { p2 with q:={ p2.q with com:={ p2.q.com with m:=s } } }):=lH (by unfold Pr.m;rw [hp];rfl);rw [hp] at HN;simp only [] at HN;clear h D hp;go_enter func189,ntmps189;go_wp2_with fail
 with_reducible refine HN.mono ?_
 rintro e w1 ⟨rfl,h1,h2⟩;obtain⟨a,c,q⟩:=h1.rl;simp only [Mz] at q;have F:=lH (h1.set 13 (I_ s) { p2.q with com:={ p2.q.com with m:=s } } (fun _ _=>rfl));have HK:=lH (h2.trans (Ae w1 B 13 (I_ s)));clear h1 h2;go_wp2_with fail
 go_end0
 exact⟨rfl,by rw [G.o];exact F.o,HK.o⟩
theorem CB.rule{w:World}{B:Nat}{p:Pr}(h:CB w B p)(r:EX):CB (((((w.setCell (A_ B 6) (pI r.allow)).setCell (A_ B 7) (I_ r.addr)).setCell (A_ B 8) (I_ r.bits)).setCell (A_ B 9) (I_ r.from_)).setCell (A_ B 10) (I_ r.to_)) B { p with q:={ p.q with com:={ p.q.com with rule:=r } } }:=by
 obtain⟨a,c,hb,hl,hne,hg⟩:=h;have hk:Aa [B] w (((((w.setCell (A_ B 6) (pI r.allow)).setCell (A_ B 7) (I_ r.addr)).setCell (A_ B 8) (I_ r.bits)).setCell (A_ B 9) (I_ r.from_)).setCell (A_ B 10) (I_ r.to_)):=(((((Aa.refl [B] w).setCell (.inl bA) _).setCell (.inl bA) _).setCell (.inl bA) _).setCell (.inl bA) _).setCell (.inl bA) _;exact⟨a,c,((((hb.set_ 6 _).set_ 7 _).set_ 8 _).set_ 9 _).set_ 10 _,hl.keepsN hk (fun h0 g o e=>by simpa using hne h0 g o e),hne,hg⟩
theorem Nr(w:World)(rb:Nat)(v0 v1 v2 v3 v4:Value):Aa [rb] w (((((w.setCell (A_ rb 6) v0).setCell (A_ rb 7) v1).setCell (A_ rb 8) v2).setCell (A_ rb 9) v3).setCell (A_ rb 10) v4):=(((((Aa.refl [rb] w).setCell (.inl bA) _).setCell (.inl bA) _).setCell (.inl bA) _).setCell (.inl bA) _).setCell (.inl bA) _
theorem fU(p:Pr):0<=p.any.1/\p.any.1<=1000000000000:=by
 unfold Pr.any Pr.number Ny;split
 ·rename_i n hn
  split at hn
  ·split at hn
   ·rename_i h
    injection hn with hn
    subst hn;exact h.2
   ·cases hn
  ·cases hn
 ·exact⟨Int.le_refl 0,by show(0:Int)<=1000000000000;omega⟩
theorem Vi(s:ByteArray)(l:List UInt8):(s.toList==l)=decide (s=str l):=by
 rw [C9,DI,beq_iff_eq,decide_eq_true_iff];constructor
 ·intro h;apply ByteArray.ext;show s.data=l.toArray;rw [<- h]
 ·intro h;rw [h];rfl
theorem Um(E:Nat->Addr)(v:World)(B:Nat)(p:Pr)(w:World)(hB:Bs E v w B)(h:CB w B p):Calls prog 190 #[pG (some (A_ B 0))] w fun e w'=>e = pJ (.tuple #[])/\CB w' B p.rules/\Aa [B] w w':=by
 have HN:=FD B p w h;obtain⟨s,p2,hp⟩:∃s p2,p.next=(s,p2):=⟨_,_,rfl⟩;obtain⟨n,p3,O⟩:∃s p3,p2.any=(s,p3):=⟨_,_,rfl⟩;have hn:=fU p2;rw [O] at hn;obtain⟨pa,aa⟩:=eX p.at_;have T:pa = { p3 with q:={ p3.q with com:={ p3.q.com with at_:=n } } }:=by rw [<- aa];unfold Pr.at_;rw [hp,O];rfl
 obtain⟨V,hV⟩:=eX p.rules;rw [hV];unfold Pr.rules at hV;rw [aa,hp] at hV;rw [hp] at HN;simp only [] at HN hV hn;obtain⟨b1,hb1⟩:=eX ((s.toList==[105,110,115,101,114,116]));obtain⟨b2,hb2⟩:=eX ((s.toList==[114,101,109,111,118,101]));have h1:decide (s=M7)=b1:=by rw [<- hb1,Vi];rfl
 have h2:decide (s=M8)=b2:=by rw [<- hb2,Vi];rfl
 have HV:=lH hV;have HB:=lH hB;have ao:=lH O;have X:=lH T;have H1:=lH h1;have H2:=lH h2;clear h hB hp O aa T hV h1 h2;go_enter func190,ntmps190;go_wp2_with fail
 with_reducible refine HN.mono ?_
 rintro e w1 ⟨rfl,ak,hk1⟩;have HB1:=lH (HB.o.go hk1);have ah:=Ju E v B p2 w1 HB1.o ak;rw [ao.o] at ah;have HK1:=lH hk1;clear ak hk1;go_wp2_with fail
 with_reducible refine ah.mono ?_
 rintro e w2 ⟨rfl,ac,hk2⟩;obtain⟨wz,hwz⟩:=eX (w2.setCell (A_ B 5) (I_ n));have J:Hi (CB wz B pa):=lH (by rw [<- hwz,X.o];exact ac.set 5 (I_ n) { p3.q with com:={ p3.q.com with at_:=n } } (fun _ _=>rfl));have N:Hi (Aa [B] w wz):=lH (by rw [<- hwz];exact(HK1.o.trans hk2).trans (Ae w2 B 5 _));have ay:=lH (HB.o.go N.o);obtain⟨a2,c2,q2⟩:=ac.rl;simp only [Mz] at q2;obtain⟨az,cz,qz⟩:=J.o.rl;rw [X.o] at qz;simp only [Mz] at qz;clear ac hk2;cases b1 with
 | true=>
  have hs:s=M7:=of_decide_eq_true H1.o;have U:=FD B pa wz J.o;have hgd:=Ph J.o;obtain⟨x,px,ab⟩:∃s p2,pa.next=(s,p2):=⟨_,_,rfl⟩;rw [ab] at U hgd;simp only [] at U hgd;obtain⟨r,e9,ad⟩:∃r e,NL x.data.toList=(r,e):=⟨_,_,rfl⟩;have ap:=lH ad;have HW:Hi (V = { (if e9=0 then px else { px with bad:=true }) with q:={ (if e9=0 then px else { px with bad:=true } : Pr).q with com:={ (if e9=0 then px else { px with bad:=true } : Pr).q.com with rule:=r } } }):=lH (by
   rw [<- HV.o,if_pos hs,ab];simp only [];rw [ad];rfl)
  clear hs ab ad;go_wp2_with fail;clear hwz
  with_reducible refine U.mono ?_
  rintro e w3 ⟨rfl,al,hk3⟩;have ag:=lH (N.o.trans hk3);have an:=lH (HB.o.go ag.o);have HR3:=lH al;have D:=SW x bB w3 E an.o.en.a;unfold Gh at D;rw [ap.o] at D;simp only [] at D;clear al hk3 qz q2;go_wp2_with fail
  with_reducible refine D.mono ?_
  rintro e w4 ⟨rfl,hk4⟩;obtain⟨w5,hw5⟩:=eX (w4.alloc (.cells (L_ r) 59));have Y:Hi (CB w5 B px):=lH (by rw [<- hw5];exact HR3.o.keep (hk4.alloc _));have HK5:Hi (Aa [B] w w5):=lH (by rw [<- hw5];exact ag.o.trans ((hk4.mono bA).alloc _));have ai:Hi (Blk w5 w4 59 (L_ r)):=lH (by rw [<- hw5];exact Blk.new _ _ _);have x5:=ai.o.rl;have hne:Hi (w4.heap.size≠B):=lH (by have:=HR3.o;obtain⟨_,_,hb,_⟩:=this;have:=hb.lt;have:=hk4.size;omega);obtain⟨a5,c5,q5⟩:=Y.o.rl;simp only [Mz] at q5;clear hk4;by_cases he:e9=0
  ·subst he
   have G:=Y.o.rule r;have HKF:=HK5.o.trans (Nr w5 B (pI r.allow) (I_ r.addr) (I_ r.bits) (I_ r.from_) (I_ r.to_));have G:=lH G;have HKF:=lH HKF;go_wp2_with fail;first | go_end0 | (refine bodyPost_ret (results_none rfl _ _ _) rfl ?_)
   exact⟨rfl,by rw [HW.o];simpa using G.o,HKF.o⟩
  ·have f1:(e9 != 0)=true:=by simpa using he
   have F:=Y.o.bad;have hk6:=Ae w5 B 18 (Ii true);obtain⟨w6,am⟩:=eX (w5.setCell (A_ B 18) (Ii true));rw [am] at F hk6;have x6:=(ai.o.keeps hk6 (by simpa using hne.out)).rl;obtain⟨a6,c6,q6⟩:=F.rl;simp only [Mz] at q6;have G:=lH (F.rule r);have HKF:=lH ((HK5.o.trans hk6).trans (Nr w6 B (pI r.allow) (I_ r.addr) (I_ r.bits) (I_ r.from_) (I_ r.to_)));simp only [Ii,if_true] at am;have HE:=lH he;clear F hk6 he;go_wp2_with fail;first | go_end0 | (refine bodyPost_ret (results_none rfl _ _ _) rfl ?_)
   exact⟨rfl,by rw [HW.o,if_neg HE.o];exact G.o,HKF.o⟩
 | false=>
  have hs:¬s=M7:=of_decide_eq_false H1.o;cases b2 with
  | true=>
   have M:s=M8:=of_decide_eq_true H2.o;have HW:Hi (V = { pa with q:={ pa.q with com:={ pa.q.com with at_:=-n - 1 } } }):=lH (by
    rw [<- HV.o,if_neg hs,if_pos M,X.o];rfl)
   have G:=lH (J.o.set 5 (I_ (-n - 1)) { pa.q with com:={ pa.q.com with at_:=-n - 1 } } (fun _ _=>rfl));have HKF:=lH (N.o.trans (Ae wz B 5 (I_ (-n - 1))));have e1:IntKind.i64.wrap (-n - 1) = -n - 1:=IntWalk.i64_in _ bB;have e2:IntKind.i64.wrap (-n) = -n:=IntWalk.i64_in _ bB;clear hs M;go_wp2_with fail;first | go_end0 | (refine bodyPost_ret (results_none rfl _ _ _) rfl ?_)
   exact⟨rfl,by rw [HW.o];exact G.o,HKF.o⟩
  | false=>
   have M:¬s=M8:=of_decide_eq_false H2.o;have HW:Hi (V = { pa with bad:=true }):=lH (by rw [<- HV.o,if_neg hs,if_neg M]);have G:=J.o.bad;have HKF:=N.o.trans (Ae wz B 18 (Ii true));simp only [Ii,if_true] at G HKF;have G:=lH G;have HKF:=lH HKF;clear hs M;go_wp2_with fail;first | go_end0 | (refine bodyPost_ret (results_none rfl _ _ _) rfl ?_)
   exact⟨rfl,by rw [HW.o];exact G.o,HKF.o⟩
theorem WR(E:Nat->Addr)(v:World)(B:Nat)(p:Pr)(w:World)(hB:Bs E v w B)(h:CB w B p):Calls prog 191 #[pG (some (A_ B 0))] w fun e w'=>e = pJ (.tuple #[])/\CB w' B p.page/\Aa [B] w w':=by
 have HN:=GP E v B p 1 3 w hB h;obtain⟨n,p2,hp⟩:∃s p2,p.number 1 3=(s,p2):=⟨_,_,rfl⟩;obtain⟨V,hV⟩:=eX p.page;rw [hV];unfold Pr.page at hV;rw [hp] at HN hV;simp only [] at HN hV;obtain⟨p1,M⟩:∃p1:Pr,({ p2 with q:={ p2.q with count:=n } } : Pr)=p1:=⟨_,rfl⟩;rw [M] at hV;have HV:=lH hV;have HP1:=lH M;have HB:=lH hB;clear h hB hp hV M;go_enter func191,ntmps191;go_wp2_with fail
 with_reducible refine HN.mono ?_
 rintro e w1 ⟨rfl,T,hk1⟩;obtain⟨wz,hwz⟩:=eX (w1.setCell (A_ B 14) (I_ n));have J:Hi (CB wz B p1):=lH (by rw [<- hwz,<- HP1.o];exact T.set 14 (I_ n) { p2.q with count:=n } (fun _ _=>rfl));have D:Hi (Aa [B] w wz):=lH (by rw [<- hwz];exact hk1.trans (Ae w1 B 14 _));have aa:=lH (HB.o.go D.o);obtain⟨a2,c2,q2⟩:=T.rl;simp only [Mz] at q2;obtain⟨az,cz,qz⟩:=J.o.rl;simp only [Mz] at qz;obtain⟨m,hm⟩:=eX p1.l.length;rw [hm] at qz;clear T hk1;by_cases h0:m=0
 ·have HW:Hi (V=p1):=lH (by rw [<- HV.o,if_pos (by rw [show p2.l=p1.l by rw [<- HP1.o],hm];exact h0)])
  subst h0;go_wp2_with fail
  go_end0
  exact⟨rfl,by rw [HW.o];exact J.o,D.o⟩
 ·have f1:(0:Int)<(m:Int):=bB;have F:=GP E v B p1 1 1000000000000 wz aa.o J.o;obtain⟨b,p3,N⟩:∃s p2,p1.number 1 1000000000000=(s,p2):=⟨_,_,rfl⟩;obtain⟨c,p4,O⟩:∃s p2,p3.any=(s,p2):=⟨_,_,rfl⟩;rw [N] at F;simp only [] at F;have HW:Hi (V = { p4 with q:={ p4.q with cursor:=b,from_:=c } }):=lH (by
   rw [<- HV.o,if_neg (by rw [show p2.l=p1.l by rw [<- HP1.o],hm];exact h0)];simp only [];rw [N];simp only [];rw [O])
  have ab:=lH O;clear h0 N O hm;go_wp2_with fail;clear hwz
  with_reducible refine F.mono ?_
  rintro e w3 ⟨rfl,Y,hk3⟩;have X:=lH (D.o.trans hk3);have G:=Ju E v B p3 w3 (HB.o.go X.o) Y;rw [ab.o] at G;simp only [] at G;clear Y hk3 qz q2;go_wp2_with fail
  with_reducible refine G.mono ?_
  rintro e w4 ⟨rfl,U,hk4⟩;obtain⟨a4,c4,q4⟩:=U.rl;simp only [Mz] at q4;have HF:=lH ((U.set 15 (I_ b) { p4.q with cursor:=b } (fun _ _=>rfl)).set 16 (I_ c) { p4.q with cursor:=b,from_:=c } (fun _ _=>rfl));have HKF:=lH (((X.o.trans hk4).trans (Ae w4 B 15 (I_ b))).trans (Ae _ B 16 (I_ c)));clear U hk4;go_wp2_with fail
  go_end0
  exact⟨rfl,by rw [HW.o];exact HF.o,HKF.o⟩
def kP(l:List Nat):Array Value:=(l.map fun f=>Value.func (.func f) #[] #[]).toArray
def KM(verb:Int):List (Nat×(Pr->Pr)):=
 if verb=1 then [(185,Pr.name),(187,Pr.key),(188,Pr.n)] else if verb=4 then [(185,Pr.name),(186,Pr.want),(188,Pr.n)]
 else if verb=6 then [(185,Pr.name),(186,Pr.want),(187,Pr.key),(188,Pr.n),(189,Pr.m)]
 else if verb=7 then [(185,Pr.name),(186,Pr.want),(190,Pr.rules)] else if verb=9 then [(191,Pr.page)] else [(185,Pr.name),(186,Pr.want)]
theorem T5(B:Int):(KM B).map (·.2)=partsR B:=by
 unfold KM partsR
 repeat' split
 all_goals rfl
def Ug(k:Int)(g n b:Nat):MapEntry:={ key:=pE pK k,val:=pF (some ⟨g,0,none⟩) n n,born:=b }
theorem Hs(W:World)(m:Nat)(D:Array MapEntry)(c:Nat)(k:Int)(B:Array Value)(n:Nat)(hm:W.heap[m]? = some (.map D c))(hf:B0 (.int .i64) (I_ k) D.toList 0=some none):
  ∃W',(Instr.mapUpdate 331 (.map (some m)) (I_ k) (pF (some (A_ W 0)) n n)).run prog (W.alloc (.cells B 330)) = .ok () W'/\W'.heap[m]? = some (.map (D.push (Ug k W n c)) (c+1))/\Blk W' W 330 B/\Aa [m] W W':=by
 have hlt:m<W.heap.size:=(Ai.1 hm).1;have F:(W.alloc (.cells B 330)).heap[m]? = some (.map D c):=(Below.heap_alloc W _ m hlt).trans hm;have E:m<(W.alloc (.cells B 330)).heap.size:=(Ai.1 F).1;have hr:=DA (P:=prog) (t:=331) (val:=pF (some (A_ W 0)) n n) underlying331 underlying3 F (key:=I_ k) bS hf;have hk:Aa [m] (W.alloc (.cells B 330)) { (W.alloc (.cells B 330)) with heap:=(W.alloc (.cells B 330)).heap.setIfInBounds m (.map (D.push { key:=I_ k,val:=pF (some (A_ W 0)) n n,born:=c }) (c+1)) }:=
  ⟨rfl,rfl,rfl,by simp,fun i _ hn=>by
   show((W.alloc (.cells B 330)).heap.setIfInBounds m _)[i]? = _;rw [Bj,if_neg (fun e=>hn (by simp [e]))]⟩
 refine⟨_,hr,?_,(Blk.new W _ B).keeps hk bG,((Aa.refl [m] W).alloc _).trans hk⟩;show((W.alloc (.cells B 330)).heap.setIfInBounds m _)[m]? = _;rw [Bj,if_pos rfl,if_pos E];rfl
theorem WE(B:Int)(w:World):Calls prog 160 #[pE pK B] w fun e w'=>∃g n,e = pJ (pF (some (A_ g 0)) n n)/\(KM B).length=n/\Blk w' g 330 (kP ((KM B).map (·.1)))/\Aa [] w w':=by
 obtain⟨W0,ae⟩:=eX (w.alloc (.map #[] 0));have O:W0.heap[w.heap.size]? = some (.map #[] 0):=by rw [<- ae];exact heap_alloc_new w _
 have hk0:Aa [] w W0:=by rw [<- ae];exact(Aa.refl [] w).alloc _
 have aa:W0.heap.size=w.heap.size+1:=by rw [<- ae];simp
 have ak:=fun W=>run_makeMap (P:=prog) 331 W;obtain⟨W1,al,T,hb1,hk1⟩:=Hs W0 w #[] 0 1 #[.func (.func 185) #[] #[],.func (.func 187) #[] #[],.func (.func 188) #[] #[]] 3 O bD;obtain⟨W2,am,U,hb2,hk2⟩:=Hs W1 w _ 1 4 #[.func (.func 185) #[] #[],.func (.func 186) #[] #[],.func (.func 188) #[] #[]] 3 T bD;obtain⟨W3,an,X,M,hk3⟩:=Hs W2 w _ 2 6 #[.func (.func 185) #[] #[],.func (.func 186) #[] #[],.func (.func 187) #[] #[],.func (.func 188) #[] #[],.func (.func 189) #[] #[]] 5 U bD;obtain⟨W4,ao,Y,hb4,hk4⟩:=Hs W3 w _ 3 7 #[.func (.func 185) #[] #[],.func (.func 186) #[] #[],.func (.func 190) #[] #[]] 3 X bD;obtain⟨W5,ap,J,N,hk5⟩:=Hs W4 w _ 4 9 #[.func (.func 191) #[] #[]] 1 Y bD;have hs1:=hk1.size;have ab:=hk2.size;have ac:=hk3.size;have ad:=hk4.size;have D:=(((hb1.keeps hk2 bG).keeps hk3 bG).keeps hk4 bG).keeps hk5 bG;have E:=((hb2.keeps hk3 bG).keeps hk4 bG).keeps hk5 bG;have F:=(M.keeps hk4 bG).keeps hk5 bG;have G:=hb4.keeps hk5 bG;have hK:Aa [] w W5:=hk0.own ((((hk1.trans hk2).trans hk3).trans hk4).trans hk5) bF;have HK:=lH hK;have hl:∀(k:Int) (g n i:Nat),B0 (.int .i64) (I_ k) (((((#[].push (Ug 1 W0 3 0)).push (Ug 4 W1 3 1)).push (Ug 6 W2 5 2)).push (Ug 7 W3 3 3)).push (Ug 9 W4 1 4)).toList 0=some (some (i,pF (some (A_ g 0)) n n))->(Ed 331 (.map (some w)) (I_ k) true).run prog W5 = .ok (.tuple #[pF (some (A_ g 0)) n n,pI true]) W5:=
  fun k g n i hf=>(DD underlying331 underlying3 J bS hf).1
 have HH:Hi (∀g n,(∃W',W'=W5/\(KM B).length=n/\Blk W' g 330 (kP ((KM B).map (·.1))))->∃g n',pJ (pF (some (A_ g 0)) n n)=pJ (pF (some (A_ g 0)) n' n')/\True):=lH (fun g n _=>⟨g,n,rfl,trivial⟩);clear HH;by_cases h1:B=1
 ·subst h1
  have hlk:=hl 1 W0 3 0 bD;have HB:=lH D;clear O T U X Y J hb1 hb2 M hb4 N D E F G hk0 hk1 hk2 hk3 hk4 hk5 hl hK aa hs1 ab ac ad;go_enter func160,ntmps160;go_wp2_with fail;go_ret;exact⟨_,_,rfl,rfl,HB.o,HK.o⟩
 by_cases h4:B=4
 ·subst h4
  have hlk:=hl 4 W1 3 1 bD;have HB:=lH E;clear O T U X Y J hb1 hb2 M hb4 N D E F G hk0 hk1 hk2 hk3 hk4 hk5 hl hK aa hs1 ab ac ad;go_enter func160,ntmps160;go_wp2_with fail;go_ret;exact⟨_,_,rfl,rfl,HB.o,HK.o⟩
 by_cases h6:B=6
 ·subst h6
  have hlk:=hl 6 W2 5 2 bD;have HB:=lH F;clear O T U X Y J hb1 hb2 M hb4 N D E F G hk0 hk1 hk2 hk3 hk4 hk5 hl hK aa hs1 ab ac ad;go_enter func160,ntmps160;go_wp2_with fail;go_ret;exact⟨_,_,rfl,rfl,HB.o,HK.o⟩
 by_cases h7:B=7
 ·subst h7
  have hlk:=hl 7 W3 3 3 bD;have HB:=lH G;clear O T U X Y J hb1 hb2 M hb4 N D E F G hk0 hk1 hk2 hk3 hk4 hk5 hl hK aa hs1 ab ac ad;go_enter func160,ntmps160;go_wp2_with fail;go_ret;exact⟨_,_,rfl,rfl,HB.o,HK.o⟩
 by_cases h9:B=9
 ·subst h9
  have hlk:=hl 9 W4 1 4 bD;have HB:=lH N;clear O T U X Y J hb1 hb2 M hb4 N D E F G hk0 hk1 hk2 hk3 hk4 hk5 hl hK aa hs1 ab ac ad;go_enter func160,ntmps160;go_wp2_with fail;go_ret;exact⟨_,_,rfl,rfl,HB.o,HK.o⟩
 have hz:(zeroValue 305).run prog W5 = .ok (pF none 0 0) W5:=bC;have hlk:=(EW underlying331 underlying3 J (key:=I_ B) bS (by simp [Ug,B0,Instr.sameNow,beq_eq_false_iff_ne.2 h1,beq_eq_false_iff_ne.2 h4,beq_eq_false_iff_ne.2 h6,beq_eq_false_iff_ne.2 h7,beq_eq_false_iff_ne.2 h9]) hz).1;have HF:Hi (KM B = [(185,Pr.name),(186,Pr.want)]):=lH (by unfold KM;rw [if_neg h1,if_neg h4,if_neg h6,if_neg h7,if_neg h9]);clear O T U X Y J hb1 hb2 M hb4 N D E F G hk0 hk1 hk2 hk3 hk4 hk5 hl hK aa hs1 ab ac ad h1 h4 h6 h7 h9 hz;go_enter func160,ntmps160;go_wp2_with fail;go_ret;exact⟨_,_,rfl,by rw [HF.o];rfl,by rw [HF.o];exact Blk.new _ _ _,HK.o.alloc _⟩
def Ia(E:Nat->Addr)(x:Nat×(Pr->Pr)):Prop:=(∀(W:World) args,(callFunc x.1 args).run prog W = .ok (.enter x.1 args) W)/\∀(v:World) (rb:Nat) (p:Pr) (w:World),Bs E v w rb->CB w rb p->Calls prog x.1 #[pG (some ⟨rb,0,none⟩)] w fun e w'=>e = pJ (.tuple #[])/\CB w' rb (x.2 p)/\Aa [rb] w w'
theorem gP(E:Nat->Addr)(F:Int):∀x∈KM F,Ia E x:=by
 have D:Ia E (185,Pr.name):=⟨fun W B=>enters_of func185 bC rfl B W,fun v M p w J h=>WO E v M p w J h⟩;have G:Ia E (186,Pr.want):=⟨fun W B=>enters_of func186 bC rfl B W,fun v M p w J h=>WU E v M p w J h⟩;have O:Ia E (187,Pr.key):=⟨fun W B=>enters_of func187 bC rfl B W,fun v M p w J h=>Z7 E v M p w J h⟩;have hn:Ia E (188,Pr.n):=⟨fun W B=>enters_of func188 bC rfl B W,fun v M p w J h=>iH E v M p w J h⟩;have hm:Ia E (189,Pr.m):=⟨fun W B=>enters_of func189 bC rfl B W,fun v M p w J h=>iG E v M p w J h⟩;have N:Ia E (190,Pr.rules):=⟨fun W B=>enters_of func190 bC rfl B W,fun v M p w J h=>Um E v M p w J h⟩;have T:Ia E (191,Pr.page):=⟨fun W B=>enters_of func191 bC rfl B W,fun v M p w J h=>WR E v M p w J h⟩;unfold KM;by_cases h1:F=1
 ·rw [if_pos h1];exact AF.2 ⟨D,AF.2 ⟨O,AF.2 ⟨hn,fun _ h=>by cases h⟩⟩⟩
 rw [if_neg h1];by_cases h4:F=4
 ·rw [if_pos h4];exact AF.2 ⟨D,AF.2 ⟨G,AF.2 ⟨hn,fun _ h=>by cases h⟩⟩⟩
 rw [if_neg h4];by_cases h6:F=6
 ·rw [if_pos h6];exact AF.2 ⟨D,AF.2 ⟨G,AF.2 ⟨O,AF.2 ⟨hn,AF.2 ⟨hm,fun _ h=>by cases h⟩⟩⟩⟩⟩
 rw [if_neg h6];by_cases h7:F=7
 ·rw [if_pos h7];exact AF.2 ⟨D,AF.2 ⟨G,AF.2 ⟨N,fun _ h=>by cases h⟩⟩⟩
 rw [if_neg h7];by_cases h9:F=9
 ·rw [if_pos h9];exact AF.2 ⟨T,fun _ h=>by cases h⟩
 rw [if_neg h9];exact AF.2 ⟨D,AF.2 ⟨G,fun _ h=>by cases h⟩⟩
theorem Z3(E:Nat->Addr)(v:World)(B T:Nat)(p:Pr)(L:List (Nat×(Pr->Pr)))(n:Nat)(hn:L.length=n)(h10:n<=10)(J:∀x∈L,Ia E x)(w:World)(U:Bs E v w B)(h:CB w B p)(hf:Blk w T 330 (kP (L.map (·.1))))(hne:T≠B):
  Calls prog 159 #[pG (some (A_ B 0)),pF (some (A_ T 0)) n n] w fun e w'=>e = pJ (.tuple #[])/\CB w' B (L.foldl (fun p x=>x.2 p) p)/\Aa [B] w w':=by
 have HB:=lH U;have X:=lH hf;have HN:=lH hn;have O:=lH J;have G:Hi (CB w B ((L.take 0).foldl (fun p x=>x.2 p) p)):=lH h;clear U hf hn J h;go_enter func159,ntmps159;go_wp2_with fail;go_loopw [8] (fun i wr=>∃k:Nat,i = I_ k/\k<=n/\Hi (CB wr B ((L.take k).foldl (fun p x=>x.2 p) p))/\Hi (Aa [B] w wr)) (fun i _=>n - (intOf i).toNat)
 case atStart=>exact⟨0,rfl,Ba _,G,lH (Aa.refl _ _)⟩
 case round=>
  clear G;obtain⟨k,rfl,hk,HR,HK⟩:=hrel;by_cases hlt:k<n
  ·have D:k<L.length:=by rw [HN.o];exact hlt
   obtain⟨x,hx⟩:=eX (L[k]);have F:=O.o x kG;have q:=(X.o.keeps HK.o aV).rl;have hq:(kP (L.map (·.1)))[k]? = some (.func (.func x.1) #[] #[]):=by
    unfold kP;simp only [An,qH,Aq D,Option.map_some,hx]
   have i1:(0:Int)<=(k:Int):=bB;have i2:(k:Int)<(n:Int):=bB;have HC:=F.2 v B _ wr (HB.o.go HK.o) HR.o;have HS:Hi ((L.take (k+1)).foldl (fun p x=>x.2 p) p=x.2 ((L.take k).foldl (fun p x=>x.2 p) p)):=lH (by rw [BJ D,List.foldl_append,hx];rfl);have HE:=lH F.1;clear F D hx;go_wp2_with fail;rw [HE.o,Oper.upon_enter];refine HC.mono ?_;rintro e w3 ⟨rfl,M,hk3⟩;have HR3:=lH M;have N:=lH (HK.o.trans hk3);clear M hk3 HC q hq;go_wp2_with fail;go_roundw;case rel=>exact⟨k+1,by go_num,by omega,by rw [HS.o];exact HR3,N⟩
   case measure=>simp [intOf];omega
  ·obtain rfl:k=n:=bB;rw [Ak bL] at HR;go_wp2_with fail
   go_end0
   exact⟨rfl,HR.o,HK.o⟩
def reqA(q:QK):Array Value:=(Q_ q)
theorem Dg(q:QK):(reqA q).all (·.oneCell')=true:=by simp [reqA,Value.oneCell']
theorem Cr(q:QK):(prog.info? 63).map (·.size)=some (reqA q).size:=by
 have:(prog.info? 63).map (·.size)=some 17:=bC;exact this
structure MC(E:Nat→Addr)(w:World):Prop where
 r:Vn E w
 v:Er w
theorem MC.keeps{E:Nat->Addr}{w w':World}(h:MC E w)(hk:Aa [] w w'):MC E w':=⟨h.r.keeps hk,h.v.keeps hk bA⟩
theorem Ti(E:Nat->Addr)(s:ByteArray)(hs:s.size<=1000000)(w:World)(hE:MC E w)(k:Int)(B:Ce s.data.toList = .error k):
  Calls prog 117 #[Dz s] w fun e w'=>e = pJ (.tuple #[pH (reqA (E1 s).1),I_ (E1 s).2])/\Aa [] w w':=by
 obtain⟨w0,hw0⟩:=eX (w.alloc (.cells aQ.k 63));have HK0:Hi (Aa [] w w0):=lH aX;have HB0:Hi (Blk w0 w 63 (reqA req0)):=lH jX;have HE:Hi (∀W,Aa [] w W->MC E W):=lH fun W hW=>hE.keeps hW;have HSP:=Gr s hs w0 (HE.o w0 HK0.o).r.a.et;obtain⟨V,hV⟩:=eX (E1 s);rw [hV];unfold E1 at hV;unfold Ic at HSP;clear hE;rw [B] at HSP hV;have HN:Hi (V=(req0,k)):=lH hV.symm;have hk0:(k != 0)=true:=by simpa using JG B
 clear hV B;simp only [] at HSP;go_enter func117,ntmps117;go_wp2_with fail;refine HSP.mono ?_;rintro x w1 ⟨rfl,hk1⟩;have HK1:=lH (HK0.o.trans hk1);have HB1:=lH (HB0.o.keeps hk1 bA);clear hk1 hw0;go_wp2_with (refine wpList_store_row bD 63 _ _ bD w (reqA req0) bD bD 63 (reqA req0) HB1.o (Cr _) rfl (Dg _) ?_);refine bodyPost_ret (v:=.tuple #[pH (reqA req0),I_ k]) ?_ rfl ⟨by rw [HN.o],?_⟩
 ·exact AS rfl _ _ w 63 (reqA req0) _ (I_ k) rfl rfl (HB1.o.row _) underlying63 rfl (Cr _)
 ·exact HK1.o.own (Br _ _ _) bF
def jobA(j:Bq):Array Value:=#[pE pK j.conn,pE pK j.phase,Dz j.line,Dz j.req.who,pE pK j.req.id,pE pK j.req.com.verb,Dz j.req.com.name,pE pK j.req.com.want,pE pK j.req.com.at_,pI j.req.com.rule.allow,pE pK j.req.com.rule.addr,pE pK j.req.com.rule.bits,pE pK j.req.com.rule.from_,pE pK j.req.com.rule.to_,Dz j.req.com.key,pE pK j.req.com.n,pE pK j.req.com.m,pE pK j.req.count,pE pK j.req.cursor,pE pK j.req.from_,pE pK j.role,Dz j.reply,pE pK j.slot,pE pK j.gen]
theorem D2(q:Bq):(prog.info? 67).map (·.size)=some (jobA q).size:=by
 have:(prog.info? 67).map (·.size)=some 24:=bC;exact this
theorem Gp(q:Bq):(jobA q).all (·.oneCell')=true:=by simp [jobA,Value.oneCell']
def RS(lv:List Bq)(k:Nat):Array Value:=#[pE pK (k:Int),pH (jobA (lv.getD k job0))]
theorem RU(B D E F G J M N O:Value)(ja:Option Addr)(ln jc:Nat)(w:World):Calls prog 27 #[pH #[B,D,E,F,G,J,M,N,pF ja ln jc,O]] w fun e w'=>e = pJ (.func (.func 57) #[] #[pG (some (A_ w 0))])/\w.alloc (.cells #[B,D,E,F,G,J,M,N,pF ja ln jc,O] 36)=w':=by
 go_enter func27,ntmps27;go_wp2;go_ret;exact⟨rfl,rfl⟩
def jC(pb:Nat)(la:Option Addr)(lc ln:Nat)(lv:List Bq)(A:World):Prop:=A.cell? ⟨pb,8,none⟩=some (pF la ln lc)/\AR encJob 24 A la lc lv
theorem JC{A:World}{g o:Nat}{v:Bq}(h:∀j u,(encJob v)[j]? = some u->A.cell? (A_ g (o+j))=some u):A.rangeAt g o (jobA v).toList:=h
theorem YB(n l pb:Nat)(la:Option Addr)(lc ln:Nat)(lv:List Bq)(hln:lv.length=ln)(N:ln<=1000)(J X:List Nat->World->Prop)(W:World)(Y:PG [] J)(hV:∀z A,J z A->jC pb la lc ln lv A)
 (hY:∀pre x W1,J pre W1->pre++[x] <+: AC ln->YieldAt Bx (n - 1) prog l (RS lv x) W1 fun e W'=>
   (e = pJ (pI true)/\J (pre++[x]) W')\/(e = pJ (pI false)/\X (pre++[x]) W'))
 (h0:J [] W):
  CallsIn Bx n prog 57 #[.func (.yield l) #[] #[],p_ pb 0] W fun e W'=>(∃v,e = pJ v)/\
   (J (AC ln) W'\/(∃pre,pre <+: AC ln/\X pre W')):=by
 have HV:=lH hV;have HY:=lH hY;have HST:=lH Y;have HLN:=lH hln;have F:Hi (J (AC 0) W):=lH (by simpa using h0);obtain⟨M,_⟩:=hV _ _ h0;clear hV hY h0 Y hln;have U:Fence.wide.depth.isSome=true->1<=n:=by intro h;cases h
 refine callsIn_of_wp func57 rfl trivial ?_ rfl;simp only [ntmps57,Cz,Av,D4,pL,pM,Bt,Bu,Cd,BD,BH,AL];gi_wp2;refine BW (wpIn_seq (wpIn_label ?_));gi_wp2
 gi_loopw [8] (fun i wr=>∃k:Nat,i = I_ k/\k<=ln/\Hi (J (AC k) wr)) (fun i _=>ln - (intOf i).toNat)
 case atStart=>exact⟨0,rfl,Ba _,F⟩
 case round=>
  obtain⟨k,rfl,hk,B⟩:=hrel;clear M;by_cases hlt:k<ln
  ·have i1:(0:Int)<=(k:Int):=bB;have i2:(k:Int)<(ln:Int):=bB;obtain⟨M,hS⟩:=HV.o _ _ B.o;obtain⟨g1,o1,v,rfl,hg1,hx1,hat1⟩:=hS.at_k (k:=k) (by rw [HLN.o];exact hlt);have HQ:=lH (JC hat1);have hk0:=(Aa.refl [] wr).alloc (.cells (jobA v) 67);have D:=HST.o _ _ _ B.o hk0;have hgd:lv.getD k job0=v:=by rw [AO,hx1];rfl
   have E:=Dq (HY.o _ _ _ D (BZ hlt));rw [<- B3] at E;obtain⟨ad,tmps,assign,body,hy,hR⟩:=E;simp only [RS,hgd] at hy;have HB2:=lH (Blk.new wr 67 (jobA v));clear hS hat1 hx1 hg1 hk0 D hgd;gi_wp2_with (first | (refine Fy bD 67 _ bD g1 (o1+k*24) bD (jobA v) _ HQ.o underlying67 rfl (D2 v) ?_) | (refine Fi bD 67 _ _ bD wr (jobA v) bD bD 67 _ (Blk.new wr _ _) (D2 v) rfl (Gp v) ?_;rw [pQ]) | (refine Fy bD 67 _ bD wr 0 bD (jobA v) _ (HB2.o.rng 0 _ (fun j u hj=>by rw [AW];simpa using hj)) underlying67 rfl (D2 v) ?_));refine⟨U,?_⟩;refine hR.mono ?_;rintro e W3 ⟨g,rfl,T,hF⟩;clear hR hy M HQ HB2;cases g with
   | false=>
    have O:=lH (hF.out rfl);clear T hF;gi_wp2;try rw [AY]
    go_end0
    exact⟨⟨_,rfl⟩,.inr ⟨_,by rw [B3];exact BZ hlt,O.out⟩⟩
   | true=>
    have G:=lH (T.out rfl);clear T hF;gi_wp2;go_roundw;case rel=>exact⟨k+1,by go_num,by omega,G⟩
    case measure=>simp [intOf];omega
  ·obtain rfl:k=ln:=bB;gi_wp2;try rw [AY]
   go_end0
   exact⟨⟨_,rfl⟩,.inl B.o⟩
theorem RW(n pb:Nat)(la:Option Addr)(lc ln:Nat)(lv:List Bq)(hln:lv.length=ln)(h1000:ln<=1000):
  QL Bx n prog 57 #[pG (some (A_ pb 0))] (RS lv) (AC ln) (jC pb la lc ln lv):=fun l J Jx W hJ _ hV hY h0=>
 YB n l pb la lc ln lv hln h1000 J Jx W hJ hV hY h0
structure jD(w:World)(x0 x1 x2 x3 x4 x5 x6 x7 x9:Value)(ja:Option Addr)(ln jc:Nat)(conn:Int)(A:World):Prop where
 nb:Blk A (w.heap.size+1) 3 #[pE pK conn]
 c4:Blk A (w.heap.size+1+1) 3 #[pE pK 0]
 c5:Blk A (w.heap.size+1+1+1) 4 #[pI false]
 pb:Blk A (w.heap.size+1+1+1+1) 36 #[x0,x1,x2,x3,x4,x5,x6,x7,pF ja ln jc,x9]
 kw:Aa [] w A
theorem jD.keeps{w:World}{x0 x1 x2 x3 x4 x5 x6 x7 x9:Value}{ja:Option Addr}{ln jc:Nat}{conn:Int}{A A':World}{S:List Nat}(h:jD w x0 x1 x2 x3 x4 x5 x6 x7 x9 ja ln jc conn A)(hk:Aa S A A')(hS:∀y∈S,w.heap.size+4<y):jD w x0 x1 x2 x3 x4 x5 x6 x7 x9 ja ln jc conn A':=
 have hn:∀y,y<=w.heap.size+4->y∉S:=fun y hy hm=>by have:=hS y hm;omega
 ⟨h.nb.keeps hk (hn _ bB),h.c4.keeps hk (hn _ bB),h.c5.keeps hk (hn _ bB),h.pb.keeps hk (hn _ bB),h.kw.own hk bM⟩
structure kY(w:World)(k:Nat)(A:World):Prop where
 c4:Blk A (w.heap.size+1+1) 3 #[pE pK (k:Int)]
 c5:Blk A (w.heap.size+1+1+1) 4 #[pI true]
 kw:Aa [] w A
theorem kY.keeps{w:World}{k:Nat}{A A':World}{S:List Nat}(h:kY w k A)(hk:Aa S A A')(hS:∀y∈S,w.heap.size+3<y):kY w k A':=
 have hn:∀y,y<=w.heap.size+3->y∉S:=fun y hy hm=>by have:=hS y hm;omega
 ⟨h.c4.keeps hk (hn _ bB),h.c5.keeps hk (hn _ bB),h.kw.own hk bM⟩
def kV(js:List Bq)(conn:Int)(k:Nat):Prop:=∀j<k,∀t,js[j]? = some t->t.conn≠conn
theorem So{js:List Bq}{conn:Int}(h:kV js conn js.length):BF js conn=none:=by
 unfold BF;rw [List.findIdx?_eq_none_iff];intro x hx;obtain⟨i,hi,rfl⟩:=List.getElem_of_mem hx;exact beq_eq_false_iff_ne.2 (h i hi _ (Aq hi))
theorem WI{js:List Bq}{conn:Int}{k:Nat}{u:Bq}(h:kV js conn k)(hu:js[k]? = some u)(B:u.conn=conn):BF js conn=some k:=by
 unfold BF;obtain⟨hk,hu⟩:=Ad.1 hu;rw [Dx];refine⟨hk,by rw [hu,B];simp,fun j hj=>?_⟩;have:=h j hj _ (Aq bB);simpa using this
theorem JX(T U X Y x4 x5 x6 x7 x9:Value)(ja:Option Addr)(ln jc:Nat)(js:List Bq)(hln:js.length=ln)(O:ln<=1000)(conn:Int)(w:World)(hl:Kt w ja jc js):
  Calls prog 35 #[pH #[T,U,X,Y,x4,x5,x6,x7,pF ja ln jc,x9],I_ conn] w fun x w'=>x = pJ (.tuple #[pE pK (((BF js conn).getD 0:Nat):Int),pI (BF js conn).isSome])/\Aa [] w w':=by
 have ah:=fun W=>RU T U X Y x4 x5 x6 x7 x9 ja ln jc W;refine(callsIn_wide (n:=9)).1 ?_;have HL:=lH hl;have HLN:=lH hln;have ak:=lH ah;clear hl hln ah;refine callsIn_of_wp_marks func35 rfl trivial ?_ rfl;simp only [ntmps35,Cz,Av,D4,pL,pM,Bt,Bu,Cd,BD,BH,AL];gi_wp2_with fail;refine⟨trivial,(callsIn_wide.2 (ak.o _)).mono ?_⟩;rintro e w1 ⟨rfl,hw1⟩;gi_wp2_with fail;have hsz:w1.heap.size=w.heap.size+5:=by rw [<- hw1];simp
 have af:jD w T U X Y x4 x5 x6 x7 x9 ja ln jc conn w1:=by
  have hk:Aa [] w w1:=by rw [<- hw1];exact(((((Aa.refl [] w).alloc _).alloc _).alloc _).alloc _).alloc _
  refine⟨?_,?_,?_,?_,hk⟩<;>rw [<- hw1]
  ·exact(((Ar _ _ _ _ bA).alloc _).alloc _).alloc _
  ·exact((Ar _ _ _ _ bA).alloc _).alloc _
  ·exact(Ar _ _ _ _ bA).alloc _
  ·exact Ar _ _ _ _ bA
 have ai:=lH af;clear af hw1;refine Cc rfl bB (gf:=57) (lb:=#[pG (some (A4 w 0))]) rfl trivial (enters_of func57 bC rfl) (RW 8 (w+1+1+1+1) ja jc ln js HLN.o O) (fun _=>rfl)
  (fun D A=>kV js conn D.length/\jD w T U X Y x4 x5 x6 x7 x9 ja ln jc conn A) (fun _ A=>∃k,BF js conn=some k/\kY w k A)
  (fun D A A' h hk=>⟨h.1,h.2.keeps hk bF⟩)
  (fun D A A' h hk=>by
   obtain⟨k,h1,h2⟩:=h;exact⟨k,h1,h2.keeps hk bF⟩)
  (fun D A h=>⟨h.2.pb.cell 8,HL.o.keeps h.2.kw⟩) ⟨fun j hj=>by simp at hj,ai.o⟩
  (fun k W=>(fun u:Bq=>(({ tmps:=#[pH #[T,U,X,Y,x4,x5,x6,x7,pF ja ln jc,x9],I_ conn,p_ w 0,p1 w 0,p2 w 0,p3 w 0,I_ (k:Int),p_ W 0,pH #[T,U,X,Y,x4,x5,x6,x7,pF ja ln jc,x9],
     .func (.func 57) #[] #[pG (some (A4 w 0))],I_ (k:Int),pH (jobA u),UD,UD,UD,UD,UD],defers:=[] } : Act),W.alloc (.cells (jobA u) 67))) (js.getD k job0))
  (fun k W=>(Aa.refl [] W).alloc _) ?assign ?body ?done ?stop
 case assign=>
  intro l k W K hK;simp only [RS];dsimp only at hK;generalize js.getD k job0=u at hK ⊢;gi_wp2_with (refine Fi bD 67 _ _ bD W (jobA u) bD bD 67 _ (Blk.new W _ _) (D2 u) rfl (Gp u) ?_;rw [pQ]);exact hK
 case body=>
  rintro l D k W W2 ⟨hN,hI⟩ G N hk2;obtain⟨rfl,hkn⟩:=E8 G;obtain⟨u,hu⟩:∃u,js[k]? = some u:=⟨_,Aq iV⟩;have hgd:js.getD k job0=u:=by rw [AO,hu];rfl
  dsimp only at hk2 ⊢;rw [hgd] at hk2 ⊢;rw [AP] at hN;have au:W.heap.size<=W2.heap.size:=by have:=hk2.size;rw [Eo] at this;omega
  have B:=(hI.keeps ((Aa.refl [] W).alloc (.cells (jobA u) 67)) bA).keeps hk2 bF;have hb:=(Blk.new W 67 (jobA u)).keeps hk2 bI;have d2:W2.cell? (A_ W 0)=some (I_ u.conn):=hb.cell 0;have q1:=B.nb.ce 0;have q4:=B.c4.ce 0;have q5:=B.c5.ce 0;have f4:=B.c4.frozen 0;have f5:=B.c5.frozen 0;have J:=lH B;have HU:=lH hu;have HN:=lH hN;clear hI G hk2 B hb hgd hu hN;by_cases hnm:u.conn=conn
  ·have ap:(u.conn==conn)=true:=by simpa using hnm
   have E:Hi (BF js conn=some k):=lH (WI HN.o HU.o hnm);clear hnm;gi_wp2;have hk3:Aa [w.heap.size+1+1,w.heap.size+1+1+1] W2 ((W2.setCell (A2 w 0) (I_ (k:Int))).setCell (A3 w 0) (pI true)):=((Aa.refl _ W2).setCell (p:=A2 w 0) (.inl bA) _).setCell (p:=A3 w 0) (.inl bA) _;refine⟨hk3.size,fun y hy=>hk3.block y gB iT,k,E.o,?_,?_,J.o.kw.own hk3 bF⟩
   ·exact(J.o.c4.set_ 0 (I_ (k:Int))).far bA _
   ·exact(J.o.c5.far bA _).set_ 0 (pI true)
  ·have ap:(u.conn==conn)=false:=by simpa using hnm
   have aj:Hi (kV js conn (AC k++[k]).length):=lH (by
    rw [Al,AP,Bp];intro j hj t F;rcases pP j k with h | h
    ·exact HN.o j h t F
    ·obtain rfl:j=k:=bB;rw [HU.o] at F;injection F with F
     rw [<- F];exact hnm)
   clear hnm;gi_wp2;exact⟨Aw _,fun _ _=>rfl,aj.o,J.o⟩
 case done=>
  rintro W ⟨hN,hI⟩ N hK;rw [AP] at hN;have E:Hi (BF js conn=none):=lH (So (by rw [HLN.o];exact hN));have q4:=hI.c4.ce 0;have q5:=hI.c5.ce 0;have f4:=hI.c4.frozen 0;have f5:=hI.c5.frozen 0;have HI:=lH hI;clear hI hN;gi_wp2;obtain⟨WF,M⟩:=eX ((W.setCell (A2 w 0) (I_ 0)).setCell (A3 w 0) (pI false));have hk3:Aa [w.heap.size+1+1,w.heap.size+1+1+1] W WF:=by rw [<- M];exact((Aa.refl _ W).setCell (p:=A2 w 0) (.inl bA) _).setCell (p:=A3 w 0) (.inl bA) _
  have d2:Blk WF (w+1+1) 3 #[pE pK 0]:=by rw [<- M];exact(HI.o.c4.set_ 0 (I_ 0)).far bA _
  have d3:Blk WF (w+1+1+1) 4 #[pI false]:=by rw [<- M];exact(HI.o.c5.far bA _).set_ 0 (pI false)
  rw [M];have ao:WF.heap[w1.heap.size]? = some (.deferred (some [])):=(hk3.block _ bB bI).trans hK;refine⟨by simp,.inl ⟨_,_,rfl,run_takeDeferred ao,?_⟩⟩;have hk4:=AG (S:=[w1.heap.size]) WF (.deferred none) (l:=w1.heap.size) bA;have e2:=(d2.keeps hk4 bG).ce 0;have e3:=(d3.keeps hk4 bG).ce 0;refine⟨.tuple #[pE pK 0,pI false],by simp [results,results35,go_sem,e2,e3],?_⟩;rw [E.o];exact⟨rfl,(HI.o.kw.own hk3 bF).own hk4 bF⟩
 case stop=>
  rintro D W G ⟨k,ag,hX⟩ N hK;have HX:=lH hX;have E:=lH ag;clear hX ag;gi_wp2;refine⟨by simp,.inl ⟨_,_,rfl,run_takeDeferred hK,?_⟩⟩;have hk4:=AG (S:=[w1.heap.size]) W (.deferred none) (l:=w1.heap.size) bA;have e2:=(HX.o.c4.keeps hk4 bG).ce 0;have e3:=(HX.o.c5.keeps hk4 bG).ce 0;refine⟨.tuple #[pE pK (k:Int),pI true],by simp [results,results35,go_sem,e2,e3],?_⟩;rw [E.o];exact⟨rfl,HX.o.kw.own hk4 bF⟩
theorem Pu{js:List Bq}{conn:Int}{k:Nat}(h:BF js conn=some k):k<js.length:=by
 unfold BF at h;exact(Dx.1 h).1
structure CV where
 oa:Option Addr
 on:Nat
 oc:Nat
 r:B6
 gn:Nat
 un:Nat
 fn:Nat
 ln:Nat
 seq:Int
 pa:Option Addr
 pn:Nat
 pc:Nat
 pv:List SV
 nx:Int
 ja:Option Addr
 jn:Nat
 jc:Nat
 da:Option Addr
 dn:Nat
 dc:Nat
def ctlA(v:CV):Array Value:=#[pF v.oa v.on v.oc,pF v.r.s.ga v.gn v.r.s.gc,pF v.r.s.ua v.un v.r.s.uc,pF v.r.s.fa v.fn v.r.s.fc,pF v.r.la v.ln v.r.lc,pE pK v.seq,pF v.pa v.pn v.pc,pE pK v.nx,pF v.ja v.jn v.jc,pF v.da v.dn v.dc]
def O9(j:Bq):Prop:=j.line.size<=1000000/\-9223372036854775808<=j.req.com.at_/\j.req.com.at_<=9223372036854775807
structure Cg(w:World)(v:CV)(c:BN):Prop where
 o:IE w v.oa v.oc c.ops
 on:c.ops.length=v.on
 ol:v.on≤1000
 os:∀o∈c.ops,o.name.size≤maxLen
 r:CH w v.r c.reg
 g:c.reg.slots.gens.length=v.gn
 u:c.reg.slots.used.length=v.un
 f:c.reg.slots.free.length=v.fn
 l:c.reg.l.length=v.ln
 q:c.reg.seq=v.seq
 p:BP w v.pa v.pc v.pv c.pool
 pn:v.pv.length=v.pn
 pl:v.pn≤1000
 nx:c.pool.next=v.nx
 j:Kt w v.ja v.jc c.jobs
 jn:c.jobs.length=v.jn
 jl:v.jn≤900
 js:∀j∈c.jobs,O9 j
 d:O8 w v.da v.dc c.done
 dn:c.done.length=v.dn
 dl:v.dn≤900
theorem Cg.keeps{w w':World}{v:CV}{c:BN}(h:Cg w v c)(hk:Aa [] w w'):Cg w' v c:={ h with o:=h.o.keeps hk,r:=h.r.keeps hk,p:=h.p.keeps hk,j:=h.j.keeps hk,d:=h.d.keeps hk }
theorem Cg.lv{w:World}{v:CV}{c:BN}(h:Cg w v c):v.r.lv.length=v.ln:=by rw [h.r.t.len];exact h.l
def JB(met:List Int)(j:Bq):Bool:=Gn j&&!met.contains j.conn
theorem Nn:∀(A B:List Bq) (met:List Int),EB met (A++B)=(EB met A&&EB (met++A.map (·.conn)) B)
 | [],B,met=>by simp [EB]
 | a::A,B,met=>by
  simp only [AL,EB,CR];rw [Nn A B,CC];simp only [EJ];rfl
theorem Pf{L:List Bq}{k:Nat}{j:Bq}(h:L[k]? = some j):EB [] (L.take (k+1))=(EB [] (L.take k)&&JB ((L.take k).map (·.conn)) j):=by
 rw [A0 h,Nn];simp [EB,JB]
theorem YC{L:List Bq}{k:Nat}{j:Bq}(h:L[k]? = some j)(hb:JB ((L.take k).map (·.conn)) j=false):EB [] L=false:=by
 have h3:=Pf h;rw [hb,Bool.and_false] at h3;have:=Nn (L.take (k+1)) (L.drop (k+1)) [];rw [Dn,h3,Ep] at this;exact this
theorem iI{w:World}{b:Nat}{met:List Int}(h:DV (pE .i64) w b met)(k:Int):(Ed 98 (.map (some b)) (I_ k) false).run prog w = .ok (pI (decide (k∈met))) w:=
 h.look KQ underlying98 underlying3 bC k
theorem eG{w:World}{b:Nat}{met:List Int}(h:DV (pE .i64) w b met)(k:Int)(hn:k∉met):∃o,(Instr.mapUpdate 98 (.map (some b)) (I_ k) (pI true)).run prog w = .ok () (w.putObj b o)/\DV (pE .i64) (w.putObj b o) b (met++[k]):=
 h.update KQ underlying98 underlying3 k hn
structure eW(w:World)(v:CV)(met:List Int)(A:World):Prop where
 b0:Blk A w.heap.size 36 #[pF v.oa v.on v.oc,pF v.r.s.ga v.gn v.r.s.gc,pF v.r.s.ua v.un v.r.s.uc,pF v.r.s.fa v.fn v.r.s.fc,pF v.r.la v.ln v.r.lc,pE pK v.seq,pF v.pa v.pn v.pc,pE pK v.nx,pF v.ja v.jn v.jc,pF v.da v.dn v.dc]
 b1:Blk A (w.heap.size+1) 4 #[pI false]
 mp:DV (pE .i64) A (w.heap.size+1+1) met
 mx:Blk A (w.heap.size+1+1+1) 98 #[.map (some (w.heap.size+1+1))]
 pb:Blk A (w.heap.size+1+1+1+1) 36 #[pF v.oa v.on v.oc,pF v.r.s.ga v.gn v.r.s.gc,pF v.r.s.ua v.un v.r.s.uc,pF v.r.s.fa v.fn v.r.s.fc,pF v.r.la v.ln v.r.lc,pE pK v.seq,pF v.pa v.pn v.pc,pE pK v.nx,pF v.ja v.jn v.jc,pF v.da v.dn v.dc]
 kw:Aa [] w A
theorem eW.keeps{w:World}{v:CV}{met:List Int}{A A':World}{S:List Nat}(h:eW w v met A)(hk:Aa S A A')(hS:∀y∈S,w.heap.size+4<y):eW w v met A':=
 have hn:∀y,y<=w.heap.size+4->y∉S:=fun y hy hm=>by have:=hS y hm;omega
 ⟨h.b0.keeps hk (hn _ bB),h.b1.keeps hk (hn _ bB),h.mp.keeps hk (hn _ bB),h.mx.keeps hk (hn _ bB),h.pb.keeps hk (hn _ bB),h.kw.own hk bM⟩
theorem Ij(v:CV)(c:BN)(b:Bool)(hb:JY c=b)(w:World)(h:Cg w v c):
  Calls prog 8 #[pH #[pF v.oa v.on v.oc,pF v.r.s.ga v.gn v.r.s.gc,pF v.r.s.ua v.un v.r.s.uc,pF v.r.s.fa v.fn v.r.s.fc,pF v.r.la v.ln v.r.lc,pE pK v.seq,pF v.pa v.pn v.pc,pE pK v.nx,pF v.ja v.jn v.jc,pF v.da v.dn v.dc]] w fun x w'=>x = pJ (pI b)/\Aa [] w w':=by
 have a2:=lH (fun W=>RU (pF v.oa v.on v.oc) (pF v.r.s.ga v.gn v.r.s.gc) (pF v.r.s.ua v.un v.r.s.uc) (pF v.r.s.fa v.fn v.r.s.fc) (pF v.r.la v.ln v.r.lc) (pE pK v.seq) (pF v.pa v.pn v.pc) (pE pK v.nx) (pF v.da v.dn v.dc) v.ja v.jn v.jc W);obtain⟨b1,hb1⟩:=eX (EB [] c.jobs);obtain⟨b2,hb2⟩:=eX (decide (c.done.length<=8));obtain⟨b3,ad⟩:=eX (G9 c.ops);obtain⟨b4,hb4⟩:=eX (I1 c.reg);obtain⟨b5,ae⟩:=eX (Ej c.pool);have HB:Hi ((b1&&b2&&b3&&b4&&b5)=b):=lH (by rw [<- hb,<- hb1,<- hb2,<- ad,<- hb4,<- ae];rfl);have HO:=lH (fun W (hk:Aa [] w W)=>Kg v.oa v.oc c.ops v.on h.on (by have:=h.ol;omega) h.os b3 ad W (h.o.keeps hk));have HR:=lH (fun W (hk:Aa [] w W)=>Kd v.r c.reg v.gn v.un v.fn v.ln h.g h.u h.f h.lv v.seq h.q b4 hb4 W (h.r.keeps hk));have HP:=lH (fun W (hk:Aa [] w W)=>Nx v.pa v.pc v.pv c.pool v.pn h.pn W (h.p.keeps hk) b5 ae);rw [h.nx] at HP;have HL:=lH h.j;have HLN:=lH h.jn;have ac:v.jn<=1000:=by have:=h.jl;omega
 have ax:decide ((v.dn:Int)<=8)=b2:=by rw [<- hb2,h.dn];congr 1;exact propext ⟨fun h=>by omega,fun h=>by omega⟩
 have HD:=lH ax;have HJ:=lH hb1;obtain⟨js,hjs⟩:=eX (c.jobs);rw [hjs] at HL HLN HJ;clear h hb hb1 hb2 ad hb4 ae ax hjs;refine(callsIn_wide (n:=9)).1 ?_;refine callsIn_of_wp_marks func8 rfl trivial ?_ rfl;simp only [ntmps8,Cz,Av,D4,pL,pM,Bt,Bu,Cd,BD,BH,AL];have bb:=fun W=>run_makeMap (P:=prog) 98 W;gi_wp2_with (fail);refine⟨trivial,(callsIn_wide.2 (a2.o _)).mono ?_⟩;rintro e w1 ⟨rfl,hw1⟩;gi_wp2_with (fail);have hsz:w1.heap.size=w.heap.size+5:=by rw [<- hw1];simp
 have av:eW w v [] w1:=by
  have hk:Aa [] w w1:=by rw [<- hw1];exact(((((Aa.refl [] w).alloc _).alloc _).alloc _).alloc _).alloc _
  refine⟨?_,?_,?_,?_,?_,hk⟩<;>rw [<- hw1]
  ·exact((((Blk.new w _ _).alloc _).alloc _).alloc _).alloc _
  ·exact(((Ar _ _ _ _ bA).alloc _).alloc _).alloc _
  ·have:=DV.new (kv:=pE .i64) ((w.alloc (.cells #[pF v.oa v.on v.oc,pF v.r.s.ga v.gn v.r.s.gc,pF v.r.s.ua v.un v.r.s.uc,pF v.r.s.fa v.fn v.r.s.fc,pF v.r.la v.ln v.r.lc,pE pK v.seq,pF v.pa v.pn v.pc,pE pK v.nx,pF v.ja v.jn v.jc,pF v.da v.dn v.dc] 36)).alloc (.cells #[pI false] 4))
   simp only [Eo] at this;exact(this.keeps ((Aa.refl [] _).alloc _) bA).keeps ((Aa.refl [] _).alloc _) bA
  ·exact(Ar _ _ _ _ bA).alloc _
  ·exact Ar _ _ _ _ bA
 have a0:=lH av;clear av hw1 bb;refine Cc rfl bB (gf:=57) (lb:=#[pG (some (A4 w 0))]) rfl trivial (enters_of func57 bC rfl) (RW 8 (w+1+1+1+1) v.ja v.jc v.jn js HLN.o ac) (fun _=>rfl)
  (fun B A=>EB [] (js.take B.length)=true/\eW w v ((js.take B.length).map (·.conn)) A) (fun _ A=>b1=false/\Blk A (w+1) 4 #[pI false]/\Aa [] w A)
  (fun B A A' h hk=>⟨h.1,h.2.keeps hk bF⟩)
  (fun B A A' h hk=>⟨h.1,h.2.1.keeps hk bI,h.2.2.own hk bF⟩)
  (fun B A h=>⟨h.2.pb.cell 8,HL.o.keeps h.2.kw⟩) ⟨rfl,a0.o⟩
  (fun k W=>(fun u:Bq=>(({ tmps:=#[pH #[pF v.oa v.on v.oc,pF v.r.s.ga v.gn v.r.s.gc,pF v.r.s.ua v.un v.r.s.uc,pF v.r.s.fa v.fn v.r.s.fc,pF v.r.la v.ln v.r.lc,pE pK v.seq,pF v.pa v.pn v.pc,pE pK v.nx,pF v.ja v.jn v.jc,pF v.da v.dn v.dc],pG (some (A_ w 0)),pG (some (A1 w 0)),pG (some (A3 w 0)),UD,pG (some (A_ W 0)),.map (some (w+1+1)),pH #[pF v.oa v.on v.oc,pF v.r.s.ga v.gn v.r.s.gc,pF v.r.s.ua v.un v.r.s.uc,pF v.r.s.fa v.fn v.r.s.fc,pF v.r.la v.ln v.r.lc,pE pK v.seq,pF v.pa v.pn v.pc,pE pK v.nx,pF v.ja v.jn v.jc,pF v.da v.dn v.dc],.func (.func 57) #[] #[pG (some (A4 w 0))],pE pK (k:Int),pH (jobA u),UD,UD,UD,UD,UD,UD,UD,UD,UD,UD,UD,UD,UD,UD,UD,UD,UD,UD,UD,UD,UD,UD,UD,UD,UD,UD,UD,UD,UD,UD,UD],defers:=[] } : Act),W.alloc (.cells (jobA u) 67))) (js.getD k job0))
  (fun k W=>(Aa.refl [] W).alloc _) ?assign ?body ?done ?stop
 case assign=>
  intro l k W K hK;simp only [RS];dsimp only at hK;generalize js.getD k job0=u at hK ⊢;gi_wp2_with (refine Fi bD 67 _ _ bD W (jobA u) bD bD 67 _ (Blk.new W _ _) (D2 u) rfl (Gp u) ?_;rw [pQ]);exact hK
 case body=>
  rintro l B k W W2 ⟨hN,hI⟩ T aa hk2;obtain⟨rfl,hkn⟩:=E8 T;obtain⟨u,hu⟩:∃u,js[k]? = some u:=⟨_,Aq iV⟩;have hgd:js.getD k job0=u:=by rw [AO,hu];rfl
  dsimp only at hk2 ⊢;rw [hgd] at hk2 ⊢;rw [AP] at hN hI;have bi:W.heap.size<=W2.heap.size:=by have:=hk2.size;rw [Eo] at this;omega
  have aw:=(hI.keeps ((Aa.refl [] W).alloc (.cells (jobA u) 67)) bA).keeps hk2 bF;have hb:=(Blk.new W 67 (jobA u)).keeps hk2 bI;have ar:w1.heap.size+1<W2.heap.size:=by omega
  obtain⟨y1,af⟩:=eX (Gn u);obtain⟨y2,ag⟩:=eX (decide (u.conn∈(js.take k).map (·.conn)));have HST:Hi (JB ((js.take k).map (·.conn)) u=(y1&&!y2)):=lH (by
   unfold JB;rw [af,List.contains_eq_mem,ag])
  have ah:=Wl u y1 af W2;have a1:=lH aw;have az:=lH hb;have HRB:=lH (hb.rng 0 (jobA u) (fun j x hx=>by rw [AW];simpa using hx));have HU:=lH hu;have HN:=lH hN;have HY2:=lH ag;clear hI T hk2 aw hb hgd hu hN af ag;gi_wp2_with (refine Fy bD 67 _ bD W 0 bD (jobA u) _ HRB.o underlying67 rfl (D2 u) ?_);refine⟨trivial,(callsIn_wide.2 ah).mono ?_⟩;rintro e W3 ⟨rfl,hk3⟩;clear ah HRB;have J:=a1.o.keeps hk3 bA;have d0:W3.cell? (A_ W 0)=some (pE pK u.conn):=(az.o.keeps hk3 bA).cell 0;have m0:=J.mx.ce 0;have q0:=J.b1.ce 0;have qf:=J.b1.frozen 0;have hlk:=iI J.mp u.conn;rw [HY2.o] at hlk;have E:=lH J;have ai:=lH hk3;clear J hk3;have HBD:Hi (JB ((js.take k).map (·.conn)) u=false->∀a,Jw w1 (fun B A=>EB [] (js.take B.length)=true/\eW w v ((js.take B.length).map (·.conn)) A) (fun _ A=>b1=false/\Blk A (w+1) 4 #[pI false]/\Aa [] w A) (AC k++[k]) W2 .ret a (W3.setCell (A1 w 0) (pI false))):=lH (fun h a=>I3 ai.o (Ae W3 (w+1) 0 (pI false)) ar bG bG ⟨by rw [<- HJ.o];exact YC HU.o h,by simpa using E.o.b1.set_ 0 (pI false),E.o.kw.own (Ae _ _ _ _) bF⟩);cases y1 with
  | false=>
   have HX:=lH (HBD.o kB);clear hlk;gi_wp2;exact HX.o _
  | true=>
   cases y2 with
   | true=>
    have HX:=lH (HBD.o kB);gi_wp2;exact HX.o _
   | false=>
    obtain⟨o,bo,Y⟩:=eG E.o.mp u.conn (by have:=HY2.o;simpa using this);have HX:Hi (∀a,Jw w1 (fun B A=>EB [] (js.take B.length)=true/\eW w v ((js.take B.length).map (·.conn)) A) (fun _ A=>b1=false/\Blk A (w+1) 4 #[pI false]/\Aa [] w A) (AC k++[k]) W2 .normal a (W3.putObj (w+1+1) o)):=lH (by
     intro a;have hp:=Ec W3 (w+1+1) o;refine FJ ai.o hp ar bG bG ?_;rw [Al,AP,Bp,Pf HU.o,HN.o,HST.o,A0 HU.o,pO];exact⟨rfl,E.o.b0.keeps hp bI,E.o.b1.keeps hp bI,Y,E.o.mx.keeps hp bI,E.o.pb.keeps hp bI,E.o.kw.own hp bF⟩)
    clear Y HBD;gi_wp2;exact HX.o _
 case done=>
  rintro W ⟨hN,hI⟩ aa hK;rw [AP,Ak lM] at hN;obtain rfl:b1=true:=by rw [<- HJ.o];exact hN
  have q:=hI.b0.rl;have q4:=hI.b1.ce 0;have f4:=hI.b1.frozen 0;have HI:Hi (∀G,Aa [] W G->eW w v ((js.take (AC v.jn).length).map (·.conn)) G):=lH (fun G hk=>hI.keeps hk bA);have HK:=lH hK;have a3:=lH hI.kw;have F:Hi (∀G,Aa [] W G->∀x,x=b->(G.setCell (A1 w 0) (pI x)).heap[w1.heap.size]? = some (.deferred (some []))/\((G.setCell (A1 w 0) (pI x)).putObj w1 (.deferred none)).cell? (A1 w 0)=some (pI x)/\Aa [] w ((G.setCell (A1 w 0) (pI x)).putObj w1 (.deferred none))):=lH (by
   rintro G hk x rfl;have au:=HI.o G hk;have hk3:=Ae G (w+1) 0 (pI x);have d2:Blk (G.setCell (A1 w 0) (pI x)) (w+1) 4 #[pI x]:=by simpa using au.b1.set_ 0 (pI x)
   have hk4:=AG (S:=[w1.heap.size]) (G.setCell (A1 w 0) (pI x)) (.deferred none) (l:=w1.heap.size) bA;have O:=(d2.keeps hk4 bG).ce 0;have:=hk.size;exact⟨(((hk.mono bA).trans hk3).block _ bB bI).trans HK.o,O,(au.kw.own hk3 bF).own hk4 bF⟩)
  clear hI hN hK hsz;cases b2 with
  | false=>
   have ba:¬(v.dn:Int)<=8:=by have:=HD.o;simpa using this
   gi_wp2_with (fail);refine⟨trivial,?_⟩;gi_wp2_with (fail);refine⟨trivial,?_⟩;gi_wp2_with (fail);refine⟨trivial,?_⟩;gi_wp2_with (fail);have D:false=b:=by rw [<- HB.o];rfl
   have hE:=F.o W (Aa.refl [] W) false D;subst D;refine⟨by simp,.inl ⟨_,_,rfl,run_takeDeferred hE.1,?_⟩⟩;have O:=hE.2.1;exact⟨pI false,by simp [results,results8,go_sem,O],rfl,hE.2.2⟩
  | true=>
   have ba:(v.dn:Int)<=8:=by have:=HD.o;simpa using this
   gi_wp2_with (fail);refine⟨trivial,(callsIn_wide.2 (HO.o W a3.o)).mono ?_⟩;rintro e X1 ⟨rfl,hx1⟩;have HX1:=lH hx1;have M:=HI.o X1 hx1;have q:=M.b0.rl;have q4:=M.b1.ce 0;have f4:=M.b1.frozen 0;have aj:=lH M.kw;clear M hx1;cases b3 with
   | false=>
    gi_wp2_with (fail);refine⟨trivial,?_⟩;gi_wp2_with (fail);refine⟨trivial,?_⟩;gi_wp2_with (fail);have D:false=b:=by rw [<- HB.o];rfl
    have hE:=F.o X1 HX1.o false D;subst D;refine⟨by simp,.inl ⟨_,_,rfl,run_takeDeferred hE.1,?_⟩⟩;have O:=hE.2.1;exact⟨pI false,by simp [results,results8,go_sem,O],rfl,hE.2.2⟩
   | true=>
    gi_wp2_with (fail);refine⟨trivial,(callsIn_wide.2 (HR.o X1 aj.o)).mono ?_⟩;rintro e X2 ⟨rfl,hx2⟩;have HX2:=lH (HX1.o.trans hx2);have N:=HI.o X2 HX2.o;have q:=N.b0.rl;have q4:=N.b1.ce 0;have f4:=N.b1.frozen 0;have ak:=lH N.kw;clear N hx2;cases b4 with
    | false=>
     gi_wp2_with (fail);refine⟨trivial,?_⟩;gi_wp2_with (fail);have D:false=b:=by rw [<- HB.o];rfl
     have hE:=F.o X2 HX2.o false D;subst D;refine⟨by simp,.inl ⟨_,_,rfl,run_takeDeferred hE.1,?_⟩⟩;have O:=hE.2.1;exact⟨pI false,by simp [results,results8,go_sem,O],rfl,hE.2.2⟩
    | true=>
     gi_wp2_with (fail);refine⟨trivial,(callsIn_wide.2 (HP.o X2 ak.o)).mono ?_⟩;rintro e X3 ⟨rfl,ay⟩;have an:=lH (HX2.o.trans ay);have ab:=HI.o X3 an.o;have q4:=ab.b1.ce 0;have f4:=ab.b1.frozen 0;clear ab ay;gi_wp2_with (fail);have D:b5=b:=by rw [<- HB.o];rfl
     have hE:=F.o X3 an.o b5 D;subst D;refine⟨by simp,.inl ⟨_,_,rfl,run_takeDeferred hE.1,?_⟩⟩;have O:=hE.2.1;exact⟨pI b5,by simp [results,results8,go_sem,O],rfl,hE.2.2⟩
 case stop=>
  rintro B W T ⟨U,X,hkw⟩ aa hK;obtain rfl:b=false:=by rw [<- HB.o,U];rfl
  have al:=lH X;have HKW:=lH hkw;have HSZ:=lH hsz;clear U X hkw hsz;gi_wp2;have hsz:=HSZ.o;refine⟨by simp,.inl ⟨_,_,rfl,run_takeDeferred hK,?_⟩⟩;have hk4:=AG (S:=[w1.heap.size]) W (.deferred none) (l:=w1.heap.size) bA;have O:=(al.o.keeps hk4 bG).ce 0;exact⟨pI false,by simp [results,results8,go_sem,O],rfl,HKW.o.own hk4 bF⟩
inductive oL|mk (A:CV)
abbrev C_:=oL.mk
instance(A:CV):CoeDep oL (C_ A) (Array Value):=⟨#[.slice A.oa A.on A.oc,.slice A.r.s.ga A.gn A.r.s.gc,.slice A.r.s.ua A.un A.r.s.uc,.slice A.r.s.fa A.fn A.r.s.fc,.slice A.r.la A.ln A.r.lc,pE pK A.seq,.slice A.pa A.pn A.pc,pE pK A.nx,.slice A.ja A.jn A.jc,.slice A.da A.dn A.dc]⟩
end
section
open Go.RowKit Go.Shelf
theorem AD(v:CV):(prog.info? 36).map (·.size)=some (ctlA v).size:=by
 have:(prog.info? 36).map (·.size)=some 10:=bC;exact this
theorem Bc(v:CV):(ctlA v).all (·.oneCell')=true:=by simp [ctlA,Value.oneCell']
def H9(w:World)(S:List Nat):Prop:=∀y∈S,∃cs t fz,w.heap[y]? = some (.cells cs t fz)/\t≠43/\t≠9
theorem H9.str{w:World}{S:List Nat}(h:H9 w S):ID w S:=fun k hk cs fz e=>by
 obtain⟨cs',t,fz',h1,_,h3⟩:=h k hk;rw [h1] at e;injection e with e;injection e with _ e _
 exact h3 e
theorem H9.snap{w:World}{S:List Nat}(h:H9 w S):∀k∈S,∀(cs:Array Value) (fz:Nat×Nat),w.heap[k]?≠some (Obj.cells cs 43 fz):=fun k hk cs fz e=>by
 obtain⟨cs',t,fz',h1,h2,_⟩:=h k hk;rw [h1] at e;injection e with e;injection e with _ e _
 exact h2 e
theorem H9.blk{w:World}{g:Nat}{t:TypeId}{cs:Array Value}(h:Blk w g t cs)(h1:t≠43)(h2:t≠9):H9 w [g]:=fun y hy=>by
 obtain rfl:=Ag.1 hy;exact⟨cs,t,(0,0),h,h1,h2⟩
theorem BP.off{w w':World}{a:Option Addr}{c:Nat}{V:List SV}{p:Po}{S:List Nat}(h:BP w a c V p)(hk:Aa S w w')(ho:H9 w S):BP w' a c V p:=
 ⟨h.le,h.small,h.row.keepsS hk ho.snap,h.mt.keepsS hk ho.str⟩
structure DU(Q:Nat→Prop)(v:CV)(c:BN):Prop where
 o:DW Q v.oa v.on
 r:CL Q v.r c.reg
 d:DW Q v.da v.dn
theorem Cg.later{w:World}{v:CV}{c:BN}{Q:Nat->Prop}(h:Cg w v c)(hQ:∀y,Q y->w.heap.size<=y):DU Q v c/\DW Q v.ja v.jn:=
 ⟨⟨h.o.no h.on hQ,h.r.later hQ,h.d.no h.dn hQ⟩,h.j.no h.jn hQ⟩
theorem Cg.jobs{w w':World}{v:CV}{c:BN}{S:List Nat}{Q:Nat->Prop}(h:Cg w v c)(hn:DU Q v c)(hk:Aa S w w')(hS:∀y∈S,Q y)(ho:H9 w S){ja:Option Addr}{jn jc:Nat}{js:List Bq}(hj:Kt w' ja jc js)(hjn:js.length=jn)(hjl:jn<=900)(hjs:∀j∈js,O9 j):
  Cg w' { v with ja:=ja,jn:=jn,jc:=jc } { c with jobs:=js }:=
 { on:=h.on,ol:=h.ol,os:=h.os,g:=h.g,u:=h.u,f:=h.f,l:=h.l,q:=h.q,pn:=h.pn,pl:=h.pl,nx:=h.nx,dn:=h.dn,dl:=h.dl,o:=h.o.keepsN hk (fun h0 g o e hm=>hn.o (by rw [<- h.on];exact h0) g o e (hS g hm)),r:=h.r.stay hn.r hk hS,p:=h.p.off hk ho,d:=h.d.keepsN hk (fun h0 g o e hm=>hn.d (by rw [<- h.dn];exact h0) g o e (hS g hm)),j:=hj,jn:=hjn,jl:=hjl,js:=hjs }
theorem Cg.stay{w w':World}{v:CV}{c:BN}{S:List Nat}{Q:Nat->Prop}(h:Cg w v c)(hn:DU Q v c)(hj:DW Q v.ja v.jn)(hk:Aa S w w')(hS:∀y∈S,Q y)(ho:H9 w S):Cg w' v c:=
 h.jobs hn hk hS ho (h.j.keepsN hk (fun h0 g o e hm=>hj (by rw [<- h.jn];exact h0) g o e (hS g hm))) h.jn h.jl h.js
theorem Ey{w:World}{B:Nat}{e:TypeId}{sz n n2:Nat}{a:Option Addr}{c:Nat}{xs:List Value}{Q:Nat->Prop}(h:w.ownsRow B e sz (pF a n c) n2 xs)(hQ:∀g,(pF a n c).ownBlock=some g->¬Q g):DW Q a n:=fun _ g o e hq=>hQ g (by rw [e];rfl) hq
def TU(c:BN):BN:={ c with reg:=Hx c.reg (-1) }
theorem ZP(r:CJ):Hx r (-1)=r:=by
 unfold Hx;by_cases h:I1 r=true
 ·rw [if_pos h]
  have B:∀t∈r.l,0<=t.deadline:=fun t B=>by
   unfold I1 at h;simp only [Af] at h;have:=Oa h.2 t B;unfold Gq FG at this;simp only [Af,decide_eq_true_eq] at this;exact this.1.2.1.1.2
  generalize r.l=L at B;induction L with
  | nil=>rfl
  | cons t L ih=>
   rw [List.foldl_cons];have:GS (-1) r t=r:=by
    unfold GS;have:=B t bA;rw [if_pos bB]
   rw [this];exact ih (fun u hu=>B u (by simp [hu]))
 ·rw [if_neg h]
theorem UY(c:BN):TU c=c:=by unfold TU;rw [ZP]
structure fL(w:World)(v:CV)(c:BN)(a1:Option Addr)(c1:Nat)(a2:Option Addr)(c2:Nat)(a3:Option Addr)(c3:Nat)(pv:Value)(V:List SV)(wc:World):Prop where
 b0:Blk wc w.heap.size 36 #[pF a1 v.on c1,pF v.r.s.ga v.gn v.r.s.gc,pF v.r.s.ua v.un v.r.s.uc,pF v.r.s.fa v.fn v.r.s.fc,pF v.r.la v.ln v.r.lc,pE pK v.seq,pv,pE pK v.nx,pF a2 v.jn c2,pF a3 v.dn c3]
 b1:Blk wc (w.heap.size+1) 36 Hh.k
 o:wc.ownsRow (w.heap.size+2) 40 2 (pF a1 v.on c1) v.on (c.ops.flatMap Eg)
 j:wc.ownsRow (w.heap.size+2) 67 24 (pF a2 v.jn c2) v.jn (c.jobs.flatMap encJob)
 d:wc.ownsRow (w.heap.size+2) 97 3 (pF a3 v.dn c3) v.dn (c.done.flatMap Cu)
 p:Da wc (w.heap.size+2) pv V
 m:Mt wc V c.pool.l
 kw:Aa [] w wc
theorem DW.mono{Q Q':Nat->Prop}{a:Option Addr}{n:Nat}(h:DW Q' a n)(hQ:∀y,Q y->Q' y):DW Q a n:=fun h0 g o e hq=>h h0 g o e (hQ g hq)
theorem CL.mono{Q Q':Nat->Prop}{v:B6}{r:CJ}(h:CL Q' v r)(hQ:∀y,Q y->Q' y):CL Q v r:=
 ⟨h.g.mono hQ,h.u.mono hQ,h.f.mono hQ,h.l.mono hQ,fun u hu=>⟨(h.t u hu).1.mono hQ,(h.t u hu).2.mono hQ⟩⟩
theorem Yd{w wc wd:World}{v:CV}{c:BN}{Y O a3 T:Option Addr}{c1 c2 c3 M k:Nat}{J:List SV}(h:Cg w v c)(B:fL w v c Y c1 O c2 a3 c3 (pF T k M) J wc)(af:k<=M)(F:J.length=k)(hk:k<=1000)
 {v2:B6}{gn un fn ln:Nat}{seq:Int}(hq:seq=(Hx c.reg (-1)).seq)(hg:(Hx c.reg (-1)).slots.gens.length=gn)(hu:(Hx c.reg (-1)).slots.used.length=un)(hf:(Hx c.reg (-1)).slots.free.length=fn)(hl:(Hx c.reg (-1)).l.length=ln)
 (hm:CH wd v2 (Hx c.reg (-1)))(hn:CL (· < wc.heap.size) v2 (Hx c.reg (-1)))(D:Aa [] wc wd)(N:World)(hF:Aa [w.heap.size,w.heap.size+1] wd N):
  let v':CV:=⟨Y,v.on,c1,v2,gn,un,fn,ln,seq,T,k,M,J,v.nx,O,v.jn,c2,a3,v.dn,c3⟩
  Cg N v' (TU c)/\N.ownsRow w 67 24 (.slice v'.ja v'.jn v'.jc) v'.jn (c.jobs.flatMap encJob)/\(∀g,(pF v'.ja v'.jn v'.jc).ownBlock=some g->DU (· = g) v' (TU c))/\DU (· < w.heap.size) v' (TU c)/\Aa [] w N:=by
 intro v';have hz:=B.kw.size;have ag:=B.b1.lt;have X:=Ah B.o D bA;have G:=Ah B.j D bA;have U:=Ah B.d D bA;have hp:BP wd T M J c.pool:=⟨by omega,by omega,by
  obtain⟨a',c',e1,_,hr⟩:=(B.p.keeps D).row;rw [F] at e1;injection e1 with e1 _ _
  rw [e1];exact hr,B.m.keeps D⟩
 have hM:Cg wd v' (TU c):=
  { on:=h.on,ol:=h.ol,os:=h.os,pn:=F,pl:=hk,nx:=h.nx,jn:=h.jn,jl:=h.jl,js:=h.js,dn:=h.dn,dl:=h.dl,o:=AR.row (xs:=c.ops) Fc (by rw [h.on];exact X),r:=hm,g:=hg,u:=hu,f:=hf,l:=hl,q:=hq.symm,p:=hp,j:=AR.row (xs:=c.jobs) Dc (by rw [h.jn];exact G),d:=AR.row (xs:=c.done) DL (by rw [h.dn];exact U) }
 have hQ:DU (fun y=>y=w.heap.size\/y=w.heap.size+1) v' (TU c):=
  ⟨Ey X (fun g hg e=>by have:=(X.lt g hg).1;omega),hn.mono (fun y hy=>by show y<wc.heap.size;omega),Ey U (fun g hg e=>by have:=(U.lt g hg).1;omega)⟩
 have hJ:DW (fun y=>y=w.heap.size\/y=w.heap.size+1) O v.jn:=Ey G (fun g hg e=>by have:=(G.lt g hg).1;omega);have hoff:H9 wd [w.heap.size,w.heap.size+1]:=fun y hy=>by
  rcases Ac.1 hy with rfl | hy
  ·exact⟨_,_,_,B.b0.keeps D bA,by decide,by decide⟩
  ·obtain rfl:=Ag.1 hy
   exact⟨_,_,_,B.b1.keeps D bA,by decide,by decide⟩
 have hS:∀y∈[w.heap.size,w.heap.size+1],y=w.heap.size\/y=w.heap.size+1:=fun y hy=>by simpa using hy
 refine⟨hM.stay hQ hJ hF hS hoff,Bw (Ah G hF (fun g hg hm=>by have:=(G.lt g hg).1;have:=hS g hm;omega)) bB,fun g E=>⟨?_,?_,?_⟩,⟨Ey B.o (fun g hg e=>by have:=(B.o.lt g hg).1;omega),hn.mono gD,Ey B.d (fun g hg e=>by have:=(B.d.lt g hg).1;omega)⟩,(B.kw.trans D).own hF bF⟩
 ·exact Ey B.o (fun x hx e=>FP B.o B.j bE x g hx E e)
 ·exact hn.mono (fun y hy=>by rw [hy];exact(B.j.lt g E).2)
 ·exact Ey B.d (fun x hx e=>FP B.d B.j bE x g hx E e)
end
section
open Go.RowKit Go.Shelf
attribute [local go_sem] pN Lr Ls Lp Lq
attribute [local go_sem ↓] wp_at_zero wp_at_succ
structure GY(w:World)(v:CV)(c:BN):Prop where
 o:IE w v.oa v.oc c.ops
 on:c.ops.length=v.on
 ol:v.on≤9223372036854775807
 os:∀o∈c.ops,o.name.size≤maxLen
 r:Lw w v.r c.reg
 g:c.reg.slots.gens.length=v.gn
 u:c.reg.slots.used.length=v.un
 f:c.reg.slots.free.length=v.fn
 l:v.r.lv.length=v.ln
 ll:v.ln≤9223372036854775807
 q:c.reg.seq=v.seq
 p:Ib w v.pa v.pv c.pool.l
 pn:v.pv.length=v.pn
 nx:c.pool.next=v.nx
 j:Kt w v.ja v.jc c.jobs
 jn:c.jobs.length=v.jn
 jl:v.jn≤9223372036854775807
 js:∀j∈c.jobs,-9223372036854775808≤j.req.com.at_∧j.req.com.at_≤9223372036854775807
 d:O8 w v.da v.dc c.done
 dn:c.done.length=v.dn
 dl:v.dn≤9223372036854775807
theorem GY.keeps{w w':World}{v:CV}{c:BN}(h:GY w v c)(hk:Aa [] w w'):GY w' v c:={ h with o:=h.o.keeps hk,r:=h.r.keeps hk,p:=h.p.keeps hk,j:=h.j.keeps hk,d:=h.d.keeps hk }
theorem gW(j:Bq):(jobA j)[2]? = some (Dz j.line):=rfl
theorem gX(j:Bq):(jobA j)[3]? = some (Dz j.req.who):=rfl
theorem cS(j:Bq):(jobA j)[21]? = some (Dz j.reply):=rfl
attribute [local go_sem] gW gX cS
theorem Tn(c:FW):(prog.info? 61).map (·.size)=some (comA c).size:=by
 show _=some 12;kernel_rfl
def uR(B:Nat)(v:CV):Prop:=∀x∈v.pv,SO B x
theorem uR.down{B B':Nat}{v:CV}(h:uR B v)(hb:B'<=B):uR B' v:=fun x hx=>Fr.down (h x hx) hb
theorem Rh(v:CV)(c:BN)(w:World)(h:Cg w v c):
  Calls prog 36 #[pH (C_ v)] w fun e w'=>∃v',e = pJ (pH (ctlA v'))/\Cg w' v' c/\v'.jn=v.jn/\w'.ownsRow w 67 24 (.slice v'.ja v'.jn v'.jc) v'.jn (c.jobs.flatMap encJob)/\(∀g,(pF v'.ja v'.jn v'.jc).ownBlock=some g->DU (· = g) v' c)/\DU (· < w.heap.size) v' c/\uR w v'/\Aa [] w w':=by
 obtain⟨w0,hw0⟩:=eX ((w.alloc (.cells (C_ v) 36)).alloc (.cells Hh.k 36));have hk0:Aa [] w w0:=by rw [<- hw0];exact((Aa.refl [] w).alloc _).alloc _
 have ar:w0.heap.size=w.heap.size+2:=by rw [<- hw0];simp
 have hb0:Blk w0 w 36 (C_ v):=by rw [<- hw0];exact(Blk.new w _ _).alloc _
 have hb1:Blk w0 (w+1) 36 Hh.k:=by rw [<- hw0];exact Ar _ _ _ _ bA
 have HB0:=lH hb0;have HB1:=lH hb1;have HK0:=lH hk0;have HS0:=lH ar;have HR:=lH (h.p.keeps hk0).row;have HM:=lH (h.p.keeps hk0).mt;have HN:=lH h.pn;have bl:=h.pl;have H:=lH h;have q:=hb0.rl;obtain⟨V,hV⟩:=eX v.pv;obtain⟨L,hL⟩:=eX c.pool.l;obtain⟨n,hn⟩:=eX v.pn;obtain⟨pa,aq⟩:=eX v.pa;rw [hV] at HR HM HN;rw [hL] at HM;rw [hn] at HN bl;rw [aq] at HR;have HV:=lH hV;have HL:=lH hL;have cw:=lH hn;rw [hn,aq] at q hw0 ⊢;clear h hk0 ar hb0 hb1 hV hL hn aq;go_enter func36,ntmps36;go_wp2;clear hw0 q;go_loopw [3,10] (fun u i wr=>∃(k:Nat) (G:List SV),k<=n/\i = I_ k/\G.length=k/\Hi (Da wr w0 u G)/\Hi (Mt wr G (L.take k))/\Hi (Below w0 w0 wr)/\Hi (∀x∈G,SO w x)) (fun _ i _=>n - (intOf i).toNat)
 case atStart=>exact⟨0,[],Ba _,rfl,rfl,lH (.inl ⟨rfl,rfl⟩),lH trivial,lH (Below.refl _ w0),lH (fun x hx=>by cases hx)⟩
 case round=>
  obtain⟨k,G,hk,rfl,bs,HS,HT,HB,HF⟩:=hrel;have HVK:=lH bs;clear bs;by_cases hlt:k<n
  ·have hk1:k<V.length:=by rw [HN.o];exact hlt
   have hkL:k<L.length:=by rw [<- HM.o.len];exact hk1
   have hm:=HM.o.get k hk1 hkL;obtain⟨g,off,cx,cz,rfl,B,hat⟩:=HR.o gC;have hg:=(Ai.1 B).1;clear B;obtain⟨y,hy⟩:=eX (V[k]);obtain⟨s,au⟩:=eX (L[k]);have q1:=hat k hk1;rw [hy] at q1 hm;rw [au] at hm;obtain⟨p0,p1,p2⟩:=q1;have hkw:=Aa.of_below HB.o [];rw [<- hkw.cell (by exact hg) bA] at p0 p1 p2;have i1:(0:Int)<=(k:Int):=bB;have i2:(k:Int)<(n:Int):=bB;have hb:=Blk.new wr 43 (N_ y);have d1:=hb.cell 1;have hk0:=(Aa.refl [] wr).alloc (.cells (N_ y) 43);have HST:=lH (hm.2.2.2.keeps (hkw.trans hk0));have aw:=lH hm.2.2.1;have ay:=lH hm;have b4:Hi (L[k]? = some s):=lH (by rw [Aq hkL,au]);have bx:=lH hb;have ax:=lH hk0;clear hat hy au hm hkw hb hk0 hk1 hkL;go_wp2_with fail;refine(Gy y.ia y.ic s.items y.il aw.o.symm _ HST.o).mono ?_;rintro r w2 ⟨a',c',rfl,hst,ao,hfr⟩;have b2:=lH (hfr.down (B':=w.heap.size) (by have:=HB.o.size;have:=HS0.o;simp;omega));clear hfr;have a5:=lH hst;have hb2:=bx.o.keeps ao bA;have e0:=hb2.cell 0;have e1:=hb2.cell 1;have e2:=hb2.cell 2;have f1:=hb2.frozen 1;have HB2:=lH (hb2.set_ 1 (.slice a' y.il c'));have HK2:=lH ((ax.o.trans ao).setCell (p:=A_ wr 1) (.inr (Aw _)) (.slice a' y.il c'));have F:=lH (Aa.setCell (S:=[wr.heap.size]) (Aa.refl _ w2) (p:=A_ wr 1) (.inl bA) (.slice a' y.il c'));have b6:Hi (ID w2 [wr.heap.size]):=lH (fun k hk cs fz h=>by
    simp at hk;subst hk;have h':w2.heap[wr.heap.size]? = some (.cells (N_ y) 43 (0,0)):=hb2;rw [h'] at h;injection h with h;injection h with _ h3 _
    exact absurd h3 bE)
   clear hst ao hb2 d1 p0 p1 p2;obtain⟨x,hx⟩:∃x:SV,x=⟨y.cur,a',y.il,c',y.used⟩:=⟨_,rfl⟩;have hx1:Oh (w2.setCell (A_ wr 1) (.slice a' y.il c')) x s:=by
    rw [hx];exact⟨ay.o.1,ay.o.2.1,aw.o,a5.o.keepsS F.o b6.o⟩
   have hk4:=(Aa.refl [] (w2.setCell (A_ wr 1) (.slice a' y.il c'))).alloc (.cells x.arr 43);have hsz:w0.heap.size<=wr.heap.size:=HB.o.size;have bq:=(HS.o.keeps HK2.o).keeps hk4;obtain⟨v9,w9,E,bp,hk9⟩:=bq.push mB (by have:=HK2.o.size;simp [World.setCell] at this ⊢;omega) _ x (Blk.new (w2.setCell (A_ wr 1) (.slice a' y.il c')) 43 x.arr) 30;have bi:Mt w9 (G++[x]) (L.take (k+1)):=by
    rw [DS b4.o];exact((HT.o.keeps HK2.o).keeps hk4 |>.strK hk9).app ⟨(hx1.keeps hk4).strK hk9,trivial⟩
   have ba:Below w0 w0 w9:=(HB.o.trans ((HK2.o.trans hk4).below hsz bA)).trans hk9.low;rw [hx] at E;simp only [SV.arr] at E;rw [show(w2.setCell (A_ wr 1) (.slice a' y.il c')).heap.size=w2.heap.size by simp [World.setCell]] at E;have b9:=lH bp;have ak:=lH bi;have bw:=lH ba;have g0:=HB2.o.cell 0;have g1:=HB2.o.cell 1;have g2:=HB2.o.cell 2;simp only [Ap,AB,AA,An,Aj,Ao] at g0 g1 g2;have X:(G++[x]).length=k+1:=by rw [Al,HVK.o];rfl
   have b3:=lH X;have bz:Hi (∀z∈G++[x],SO w z):=lH (fun z hz=>by
    rcases AQ.1 hz with hz | hz
    ·exact HF.o z hz
    ·obtain rfl:=Ag.1 hz
     rw [hx];exact b2.o)
   clear hx1 hk4 bq bp hk9 bi ba X hx;go_wp2_with (at_builtin;refine wpList_append_run _ rfl _ _ 30 rfl rfl rfl E ?_);go_roundw;case rel=>exact⟨k+1,G++[x],by omega,by go_num,b3.o,b9,ak,bw,bz⟩
   case measure=>simp [intOf];omega
  ·obtain rfl:k=n:=bB;have ht:L.take k=L:=Ak (by rw [<- HM.o.len,HN.o];exact Aw _);have hm:=HT.o;rw [ht] at hm;have ak:=lH hm;clear ht hm;have hkw:=Aa.of_below HB.o [];obtain⟨a6,c6,hu,bf,_⟩:=HS.o.row;rw [HVK.o] at hu;subst hu;have hb:=HB0.o.keeps hkw bA;have q:=hb.rl;obtain⟨w3,ac⟩:=eX (wr.setCell (A_ w 6) (pF a6 (k:Nat) c6));have hk3:Aa [w.heap.size] wr w3:=by rw [<- ac];exact Ae _ _ _ _
   have c7:w.heap.size<w0.heap.size:=HB0.o.lt;have aj:Hi (Blk w3 w 36 #[pF v.oa v.on v.oc,pF v.r.s.ga v.gn v.r.s.gc,pF v.r.s.ua v.un v.r.s.uc,pF v.r.s.fa v.fn v.r.s.fc,pF v.r.la v.ln v.r.lc,I_ v.seq,pF a6 k c6,I_ v.nx,pF v.ja v.jn v.jc,pF v.da v.dn v.dc]):=lH (by rw [<- ac];exact hb.set_ 6 (pF a6 k c6));have av:=lH ((HB1.o.keeps hkw bA).keeps hk3 bA);have hoff:H9 wr [w.heap.size]:=H9.blk hb bE bE;have b8:Hi (Da w3 w0 (pF a6 k c6) G):=lH (by
    rcases HS.o with⟨h1,h2⟩ | ⟨g,off,cap,h1,h2,h3,h4,h5,h6⟩
    ·exact .inl ⟨h1,h2⟩
    ·have B:=hk3.block g h3.lt bG
     exact .inr ⟨g,off,cap,h1,h2,h3.same B,h4,h5,h6.same B⟩)
   have b5:=lH (ak.o.keepsS hk3 hoff.str);have F:Hi (Aa [] w w3):=lH ((HK0.o.trans hkw).own hk3 bF);have ai:w3.heap.size=wr.heap.size:=by rw [<- ac];simp [World.setCell]
   clear hkw hb hk3 hoff;go_upto_region 9 with fail
   clear ac q;go_cut [3] (fun x wc=>∃J O M T N U,Hi (fL w v c J O M T N U (pF a6 k c6) G wc))
   case first=>
    have bo:w0.heap.size<=w3.heap.size:=by have:=HB.o.size;have h1:=ai;omega
    clear ai;have a4:=lH bo;have r3:=aj.o.rl;have HFIN:Hi (∀w4 w5 w6 J O M T N U,Aa [] w3 w4->w4.ownsRow w3 40 2 (pF J v.on O) v.on (c.ops.flatMap Eg)->Aa [] w4 w5->w5.ownsRow w4 67 24 (pF M v.jn T) v.jn (c.jobs.flatMap encJob)->Aa [] w5 w6->w6.ownsRow w5 97 3 (pF N v.dn U) v.dn (c.done.flatMap Cu)->
      fL w v c J O M T N U (pF a6 k c6) G (((w6.setCell (A_ w 0) (pF J v.on O)).setCell (A_ w 8) (pF M v.jn T)).setCell (A_ w 9) (pF N v.dn U))):=lH (by
     intro w4 w5 w6 J O M T N U k4 o4 k5 o5 k6 o6;have ar:=HS0.o;have bo:=a4.o;have hz4:=k4.size;have c8:=k5.size;have c9:=k6.size;have a9:=((aj.o.keeps k4 bA).keeps k5 bA).keeps k6 bA;have cd:=((a9.set_ 0 (pF J v.on O)).set_ 8 (pF M v.jn T)).set_ 9 (pF N v.dn U);have D:Aa [w.heap.size] w6 (((w6.setCell (A_ w 0) (pF J v.on O)).setCell (A_ w 8) (pF M v.jn T)).setCell (A_ w 9) (pF N v.dn U)):=((Ae w6 w 0 _).trans (Ae _ _ _ _)).trans (Ae _ _ _ _);have hoff:H9 w6 [w.heap.size]:=H9.blk a9 bE bE;have ad:=(k4.trans k5).trans k6;refine⟨cd,(av.o.keeps ad bA).keeps D bI,?_,?_,?_,?_,?_,(F.o.trans ad).own D bF⟩
     ·exact Ah (Ah (Bw o4 bB) (k5.trans k6) bA) D (fun g hg hm=>by have:=(o4.lt g hg).1;simp only [Ac,Ab,or_false] at hm;omega)
     ·exact Ah (Ah (Bw o5 bB) k6 bA) D (fun g hg hm=>by have:=(o5.lt g hg).1;simp only [Ac,Ab,or_false] at hm;omega)
     ·exact Ah (Bw o6 bB) D (fun g hg hm=>by have:=(o6.lt g hg).1;simp only [Ac,Ab,or_false] at hm;omega)
     ·rcases b8.o.keeps ad with⟨h1,h2⟩ | ⟨g,off,cap,h1,h2,h3,h4,h5,h6⟩
      ·exact .inl ⟨h1,h2⟩
      ·have B:=D.block g h3.lt bI
       exact .inr ⟨g,off,cap,h1,by omega,h3.same B,h4,h5,h6.same B⟩
     ·rw [HL.o];exact(b5.o.keeps ad).keepsS D hoff.str)
    refine C8 (b:=10) (S:=(Aa [] w3)) bC lI (fun hHeld=>?_);refine tK 0 ?_;refine tK 1 ?_;refine tK 3 ?_;refine tK 4 ?_;refine tK 6 ?_;refine tK 7 ?_;refine tC 2 fun K hK=>?_;go_simp
    (refine(KA v.oa v.oc c.ops v.on H.o.on (by have:=H.o.ol;omega) _ (H.o.o.keeps (F.o.trans hHeld))).mono ?_;rintro e w4 ⟨J,O,rfl,cj,cg,hk4⟩;clear cj;have hk4':=((Aa.refl [] w3).drew).trans hk4)
    (try clear rH);refine tP hK lI fun rH hHeld=>?_;clear hK K
    refine tK 9 ?_;refine tC 5 fun K hK=>?_;go_simp
    (refine(UE v.ja v.jc c.jobs v.jn H.o.jn (by have:=H.o.jl;omega) _ (H.o.j.keeps (F.o.trans hHeld))).mono ?_;rintro e w5 ⟨M,T,rfl,hs5,ch,hk5⟩;clear hs5;have hk35:=hk4'.trans hk5)
    (try clear rH);refine tP hK lI fun rH hHeld=>?_;clear hK K
    refine tC 8 fun K hK=>?_;go_simp
    (refine(K8 v.da v.dc c.done v.dn H.o.dn (by have:=H.o.dl;omega) _ (H.o.d.keeps (F.o.trans hHeld))).mono ?_;rintro e w6 ⟨N,U,rfl,ck,ci,hk6⟩;clear ck;have hk36:=hk35.trans hk6;have r6:=(aj.o.keeps hk36 bA).rl)
    (try clear rH);refine tP hK lI fun rH hHeld=>?_;clear hK K
    refine tS fun K hK=>?_;go_simp
    (try clear rH);(try clear hHeld);refine tT hK fun hHeld=>?_;clear hK K
    refine rQ 11 ?_;refine rC 12 fun K hK=>?_;go_simp;refine rO hK (trivial) fun hHeld=>?_;clear hK K;refine rQ 13 ?_;refine rC 14 fun K hK=>?_;go_simp;refine rO hK (trivial) fun hHeld=>?_;clear hK K;refine wpAnyH_done bC ?_ _
    (go_wp2_with fail;go_meet;exact⟨J,O,M,T,N,U,lH (HFIN.o w4 w5 w6 J O M T N U hk4' cg hk5 ch hk6 ci)⟩)
   case rest=>
    obtain⟨J,O,M,T,N,U,HO⟩:=hcut
    rename World=>wc
    have r:=HO.o.b0.rl;have a0:=lH (H.o.r.keeps HO.o.kw);go_wp2_with fail;refine(Wh v.r c.reg v.gn v.un v.fn v.ln H.o.g H.o.u H.o.f H.o.l v.seq H.o.q (-1) _ a0.o).mono ?_;rintro e wd ⟨v2,gn,un,fn,ln,seq,rfl,bm,bd,br,bb,be,bh,bj,ab⟩;obtain⟨we,bt⟩:=eX (((((wd.setCell (A_ w 1) (pF v2.s.ga gn v2.s.gc)).setCell (A_ w 2) (pF v2.s.ua un v2.s.uc)).setCell (A_ w 3) (pF v2.s.fa fn v2.s.fc)).setCell (A_ w 4) (pF v2.la ln v2.lc)).setCell (A_ w 5) (I_ seq));obtain⟨v',Y⟩:∃v':CV,(⟨J,v.on,O,v2,gn,un,fn,ln,seq,a6,k,c6,G,v.nx,M,v.jn,T,N,v.dn,U⟩:CV)=v':=⟨_,rfl⟩;have an:=HO.o.b0.keeps ab bA;have r2:=an.rl;have a7:Blk we w 36 (ctlA v'):=by rw [<- bt,<- Y];exact((((an.set_ 1 (pF v2.s.ga gn v2.s.gc)).set_ 2 (pF v2.s.ua un v2.s.uc)).set_ 3 (pF v2.s.fa fn v2.s.fc)).set_ 4 (pF v2.la ln v2.lc)).set_ 5 (I_ seq)
    have ap:Aa [w.heap.size] wd we:=by rw [<- bt];exact((((Ae wd w 1 _).trans (Ae _ _ _ _)).trans (Ae _ _ _ _)).trans (Ae _ _ _ _)).trans (Ae _ _ _ _)
    have ah:=(HO.o.b1.keeps ab bA).keeps ap bI;have b7:=lH (a7.rng 0 (ctlA v') (fun j x hx=>by rw [AW];simpa using hx));have ae:=lH ah;have HFIN:=lH (Yd H.o HO.o (by rw [HVK.o] at bf;exact bf) HVK.o bl bm bd br bb be bh bj ab);have HJN:Hi (v'.jn=v.jn):=lH (by rw [<- Y]);have HKE:=lH ap;have HPF:Hi (uR w v'):=lH (by rw [<- Y];exact HF.o);rw [Y] at HFIN;clear bm bd br bb be bh bj ab an a7 ap ah r Y a0;go_wp2_with (first | (refine Ay bD 36 _ bD w 0 bD (ctlA v') _ b7.o underlying36 rfl (AD v') ?_) | (refine wpList_store_row bD 36 _ _ bD (w+1) (ctlA v') bD bD 36 Hh.k ae.o (AD v') rfl (Bc v') ?_));obtain⟨hm,ho,hs,bg,cf⟩:=HFIN.o (we.setRow (w+1) (ctlA v')) ((HKE.o.mono bA).trans ((Br we (w+1) (ctlA v')).mono bA));rw [UY] at hm bg;simp only [UY] at hs;refine bodyPost_ret (v:=pH (ctlA v')) ?_ rfl ⟨v',rfl,hm,HJN.o,ho,hs,bg,HPF.o,cf⟩;exact results_cell_row rfl _ _ (w+1) 36 (ctlA v') (0,0) _ rfl (ae.o.row _) underlying36 rfl (AD v')
def cv0:CV:=⟨none,0,0,⟨⟨none,0,none,0,none,0⟩,none,0,[]⟩,0,0,0,0,0,none,0,0,[],0,none,0,0,none,0,0⟩
theorem Gz(w:World):Cg w cv0 Hl:=
 { o:=AR.none_,on:=rfl,ol:=by decide,os:=fun o ho=>(by cases ho),r:=⟨⟨AR.none_,AR.none_,AR.none_,by decide,by decide,by decide⟩,AR.none_,trivial,by decide,fun t B=>by cases B⟩,g:=rfl,u:=rfl,f:=rfl,l:=rfl,q:=rfl,p:=⟨Aw _,by decide,fun h=>absurd rfl h,trivial⟩,pn:=rfl,pl:=by decide,nx:=rfl,j:=AR.none_,jn:=rfl,jl:=by decide,js:=fun j hj=>(by cases hj),d:=AR.none_,dn:=rfl,dl:=by decide }
def Fo(B:Nat)(v:CV)(c:BN):Prop:=DU (· < B) v c/\DW (· < B) v.ja v.jn/\uR B v
theorem G0(B:Nat):Fo B cv0 Hl:=
 ⟨⟨fun h0=>absurd h0 bE,⟨fun h0=>absurd h0 bE,fun h0=>absurd h0 bE,fun h0=>absurd h0 bE,fun h0=>absurd h0 bE,fun u hu=>by cases hu⟩,fun h0=>absurd h0 bE⟩,fun h0=>absurd h0 bE,fun x hx=>by cases hx⟩
theorem Fo.down{B B':Nat}{v:CV}{c:BN}(h:Fo B v c)(hb:B'<=B):Fo B' v c:=
 ⟨⟨h.1.o.mono (fun _ hy=>BS hy hb),h.1.r.mono (fun _ hy=>BS hy hb),h.1.d.mono (fun _ hy=>BS hy hb)⟩,h.2.1.mono (fun _ hy=>BS hy hb),h.2.2.down hb⟩
def Xy(w:World)(R:BN×Int):Ending->World->Prop:=fun e w'=>∃v,e = pJ (.tuple #[pH (ctlA v),pE pK R.2])/\Cg w' v R.1/\Fo w.heap.size v R.1/\Aa [] w w'
theorem XU(a:Option Addr)(c:Nat)(ops:List GF)(k:Nat)(hk:ops.length=k)(X:k<=1000)(hs:∀o∈ops,o.name.size<=maxLen)(n:Int)(w:World)(h:IE w a c ops):
  Calls prog 17 #[pF a k c,I_ n] w (Xy w (W6 ops n)):=by
 obtain⟨w0,hw0⟩:=eX (w.alloc (.cells Hh.k 36));have hk0:Aa [] w w0:=by rw [<- hw0];exact(Aa.refl [] w).alloc _
 have ad:w0.heap.size=w.heap.size+1:=by rw [<- hw0];simp
 have HB0:Hi (Blk w0 w 36 (ctlA cv0)):=lH jX;have HK0:=lH hk0;have HS0:=lH ad;obtain⟨b,hb⟩:=eX (G9 ops);obtain⟨R,hR⟩:=eX (W6 ops n);rw [hR];unfold W6 at hR;rw [hb] at hR;have HR:=lH hR;have HO:=Kg a c ops k hk bB hs b hb w0 (h.keeps hk0);have H:=lH h;have T:=lH hk;have HSZ:=lH hs;clear hk0 hb hR h hk hs ad;go_enter func17,ntmps17;go_wp2_with fail;refine HO.mono ?_;rintro e w1 ⟨rfl,hk1⟩;have HK1:=lH (HK0.o.trans hk1);have HB1:=lH (HB0.o.keeps hk1 bA);clear hw0 hk1 HO;cases b with
 | false=>
  obtain rfl:R=(Hl,190):=by rw [<- HR.o];rfl
  go_wp2_with (refine wpList_store_row bD 36 _ _ bD w (ctlA cv0) bD bD 36 (ctlA cv0) HB1.o (AD cv0) rfl (Bc cv0) ?_);refine bodyPost_ret (v:=.tuple #[pH (ctlA cv0),I_ 190]) ?_ rfl ⟨cv0,rfl,Gz _,G0 _,?_⟩
  ·exact AS rfl _ _ w 36 (ctlA cv0) _ (I_ 190) rfl rfl (HB1.o.row _) underlying36 rfl (AD _)
  ·exact HK1.o.own (Br _ _ _) bF
 | true=>
  have U:Hi ((if(IU n).2=0 then((⟨ops,(Qz n).1,⟨[],1⟩,[],[]⟩,0):BN×Int) else(Hl,(IU n).2))=R):=lH HR.o;go_wp2_with fail;refine(Y1 n _).mono ?_;rintro e w2 ⟨v,gn,un,fn,rfl,hg,hu,hf,hm,ab,hk2⟩;obtain⟨w3,M⟩:=eX (w2.alloc (.cells #[pF v.ga gn v.gc,pF v.ua un v.uc,pF v.fa fn v.fc,pF none 0 0,I_ 0] 29));have hk3:Aa [] w1 w3:=by rw [<- M];exact hk2.alloc _
  have N:Aa [] w2 w3:=by rw [<- M];exact(Aa.refl [] w2).alloc _
  have G:=lH (HB1.o.keeps hk3 bA);have af:Hi (Blk w3 w2 29 #[pF v.ga gn v.gc,pF v.ua un v.uc,pF v.fa fn v.fc,pF none 0 0,I_ 0]):=lH (by rw [<- M];exact Blk.new w2 _ _);have O:=lH (HK1.o.trans hk3);have ah:=lH (hm.keeps N);have J:=lH (Bl hg (Bl hu hf));have ag:=lH ab;have ai:Hi (w.heap.size<w1.heap.size):=lH HB1.o.lt;obtain⟨er,Y⟩:=eX ((IU n).2);rw [Y] at U ⊢;have HER:=lH Y;clear hk3 N hg hu hf hm ab Y hk2;go_upto_region 4 with(refine wpList_store_row bD 29 _ _ bD w2 #[pF v.ga gn v.gc,pF v.ua un v.uc,pF v.fa fn v.fc,pF none 0 0,I_ 0] bD bD 29 LU.k (Blk.new w2 _ _) bC rfl aG ?_;rw [pQ])
  clear M;by_cases h0:er=0;rotate_left
  ·have f1:(er != 0)=true:=by simpa using h0
   obtain rfl:R=(Hl,er):=by rw [<- U.o,if_neg h0]
   clear h0;go_wp2_with (refine wpList_store_row bD 36 _ _ bD w (ctlA cv0) bD bD 36 (ctlA cv0) G.o (AD cv0) rfl (Bc cv0) ?_);refine bodyPost_ret (v:=.tuple #[pH (ctlA cv0),I_ er]) ?_ rfl ⟨cv0,rfl,Gz _,G0 _,?_⟩
   ·exact AS rfl _ _ w 36 (ctlA cv0) _ (I_ er) rfl rfl (G.o.row _) underlying36 rfl (AD _)
   ·exact O.o.own (Br _ _ _) bF
  ·subst h0
   obtain rfl:R=(⟨ops,(Qz n).1,⟨[],1⟩,[],[]⟩,0):=by rw [<- U.o,if_pos rfl]
   obtain⟨v',F⟩:∃f:Option Addr->Nat->CV,(fun D E=>(⟨D,k,E,⟨v,none,0,[]⟩,gn,un,fn,0,0,none,0,0,[],1,none,0,0,none,0,0⟩:CV))=f:=⟨_,rfl⟩;have HFIN:Hi (∀w4 w5 D E,Aa [] w3 w4->w4.ownsRow w3 40 2 (pF D k E) k (ops.flatMap Eg)->Aa [] w4 w5->
     Blk (w5.setCells w 0 (ctlA (v' D E)).toList) w 36 (ctlA (v' D E))/\Cg (w5.setCells w 0 (ctlA (v' D E)).toList) (v' D E) ⟨ops,(Qz n).1,⟨[],1⟩,[],[]⟩/\Fo w (v' D E) ⟨ops,(Qz n).1,⟨[],1⟩,[],[]⟩/\Aa [] w (w5.setCells w 0 (ctlA (v' D E)).toList)):=lH (by
    intro w4 w5 D E k4 o4 k5;have o5:=Ah o4 k5 bA;have aa:Blk w5 w 36 (ctlA cv0):=(G.o.keeps k4 bA).keeps k5 bA;have hF:=(aa.putAll (ds:=ctlA (v' D E)) rfl);have ac:Aa [w.heap.size] w5 (w5.setCells w 0 (ctlA (v' D E)).toList):=Bb _ _ _ _;have hM:Cg w5 (v' D E) ⟨ops,(Qz n).1,⟨[],1⟩,[],[]⟩:=by
     rw [<- F];have aj:=(ah.o.keeps k4).keeps k5;exact { o:=AR.row (xs:=ops) Fc (by rw [T.o];exact o5),on:=T.o,ol:=X,os:=HSZ.o,r:=⟨aj,AR.none_,trivial,by show 0<=1000;omega,fun t ht=>by cases ht⟩,g:=J.o.1,u:=J.o.2.1,f:=J.o.2.2,l:=rfl,q:=rfl,p:=⟨Aw _,by show 0<=1000000;omega,fun h=>absurd rfl h,trivial⟩,pn:=rfl,pl:=by show 0<=1000;omega,nx:=rfl,j:=AR.none_,jn:=rfl,jl:=by show 0<=900;omega,js:=fun j hj=>(by cases hj),d:=AR.none_,dn:=rfl,dl:=by show 0<=900;omega }
    have hQ:DU (·<=w.heap.size) (v' D E) ⟨ops,(Qz n).1,⟨[],1⟩,[],[]⟩:=by
     rw [<- F];have hlt:=G.o.lt;refine⟨Ey o5 (fun g hg e=>by have:=(o5.lt g hg).1;omega),IF.no (B:=w1.heap.size) ⟨ag.o,(fun g o e=>by cases e),(fun u hu=>by cases hu)⟩ (fun y hy=>Nat.lt_of_le_of_lt hy ai.o),fun h0=>absurd h0 (by show ¬0<0;omega)⟩
    have hJ:DW (·<=w.heap.size) (v' D E).ja (v' D E).jn:=by rw [<- F];exact fun h0=>absurd h0 (by show ¬0<0;omega)
    exact⟨hF,hM.stay hQ hJ ac QW (H9.blk aa bE bE),⟨⟨hQ.o.mono (fun _ h=>Nat.le_of_lt h),hQ.r.mono (fun _ h=>Nat.le_of_lt h),hQ.d.mono (fun _ h=>Nat.le_of_lt h)⟩,hJ.mono (fun _ h=>Nat.le_of_lt h),by rw [<- F];exact fun x hx=>by cases hx⟩,((O.o.trans k4).trans k5).own ac bF⟩)
   have r3:=af.o.rl;go_upto_region 6 with fail
   refine C8 (b:=5) (S:=(Aa [] w3)) bC mO (fun hHeld=>?_);refine tK 0 ?_;refine tK 2 ?_;refine tC 1 fun K hK=>?_;go_simp
   (refine(KA a c ops k T.o bB _ (H.o.keeps (O.o.trans hHeld))).mono ?_;rintro e w4 ⟨D,E,rfl,al,ak,hk4⟩;clear al;have hk34:=((Aa.refl [] w3).drew).trans hk4)
   (try clear rH);refine tP hK mO fun rH hHeld=>?_;clear hK K
   refine tC 3 fun K hK=>?_;go_simp
   (refine(mL _).mono ?_;rintro e w5 ⟨rfl,hk5⟩;have hk35:=hk34.trans hk5;have r5:=(show Blk w5 w 36 Hh.k from G.o.keeps hk35 bA).rl)
   (try clear rH);refine tP hK mO fun rH hHeld=>?_;clear hK K
   refine tK 4 ?_;refine tS fun K hK=>?_;go_simp
   (try clear rH);(try clear hHeld);refine tT hK fun hHeld=>?_;clear hK K
   refine rQ 6 ?_;refine wpAnyH_done bC ?_ _
   (go_wp2_with fail;have hF:=HFIN.o w4 w5 D E hk34 ak hk5;exact bodyPost_ret (v:=.tuple #[pH (ctlA (v' D E)),I_ 0]) (by rw [<- F] at hF ⊢;exact AS rfl _ _ w 36 _ _ (I_ 0) rfl rfl hF.1 underlying36 rfl (AD _)) rfl ⟨v' D E,rfl,by rw [<- F] at hF ⊢;exact hF.2.1,by rw [<- F] at hF ⊢;exact hF.2.2.1,by rw [<- F] at hF;exact hF.2.2.2⟩)
end
end Go.Proofs.YtncebikgoleolaaGreatDoor
