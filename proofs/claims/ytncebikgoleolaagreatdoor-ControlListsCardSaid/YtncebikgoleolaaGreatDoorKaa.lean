/- Steps. -/
import Derived.Test.YtncebikgoleolaaGreatDoorKae
import Derived.Test.YtncebikgoleolaaGreatDoorKao
import Derived.Deep.RegionHeld3
import Derived.Lib.SliceRun
import Derived.Laws.Bits64b
set_option maxRecDepth 100000
set_option maxHeartbeats 8000000
set_option linter.all false
namespace Go.Proofs.YtncebikgoleolaaGreatDoor
open Tryz
open _root_.Go renaming undef→UD
open _root_.Array renaming length_toList→BX,replicate_succ→Bt,replicate_zero→Bu
open _root_.Bool renaming and_assoc→EJ,and_eq_true→Af,eq_iff_iff→DI,false_and→Ep,true_and→DJ
open Builtin renaming append_→BI
open _root_.ByteArray renaming toList_eq→ED
open Ending renaming returned→pJ
open Exit renaming noGoto_normal→AY
open Fence renaming wide→Bx
open Instr renaming lookup→Ed
open _root_.Int renaming toNat_natCast→pW
open IntKind renaming i64→pK
open Lib renaming run_eql_slice_nil→AK
open _root_.List renaming all_eq_true→Bm,append_toArray→BD,cons_append→AL,filter_append→E5,getElem?_cons_succ→Ao,getElem?_cons_zero→Aj,getElem?_eq_getElem→Aq,getElem?_eq_some_iff→Ad,getElem?_toArray→An,getElem_mem→pS,isEmpty_eq_false_iff→E9,length_cons→Av,length_nil→D4,map_append→pO,map_cons→CR,mem_append→AQ,mem_cons→Ac,mem_of_getElem?→CD,nil_append→BH,not_mem_nil→Ab,push_toArray→Cd,size_toArray→Cz,take_append_drop→Dn,take_of_length_le→Ak,take_succ_eq_append_getElem→BJ
open _root_.Nat renaming add_zero→AT,le_trans→A8,lt_of_lt_of_le→BS,lt_or_ge→pP,mul_one→pR,reduceAdd→pL,reduceSub→pM,zero_add→AW,zero_le→Ba
open Oper renaming semAt_some→pN
open Program renaming fieldsOf→CK
open Result renaming andThen→Bg
open Value renaming agg→pH,bool→pI,int→pE,pointer→pG,slice→pF,string→Dz
open World renaming block_lt_of_cell?→Be,ownsRow_nil→BQ,size_alloc→Eo
section
open Go.RowKit Go.Shelf
attribute [local go_sem ↓] wp_at_zero wp_at_succ
theorem VJ:D1 (prog.info? 3) 1=true:=bC
theorem PR(a:Option Addr)(c:Nat)(xs:List Int)(n:Nat)(hn:xs.length=n)(hL:n<=1000000)(w:World)(h:AR Fb 1 w a c xs):
  Calls prog 91 #[pF a n c] w fun r w'=>∃a' c',r = pJ (.slice a' n c')/\AR Fb 1 w' a' c' xs/\w'.ownsRow w 3 1 (.slice a' n c') n (xs.flatMap Fb)/\Aa [] w w':=by
 cases a with
 | none=>
  obtain⟨rfl,rfl⟩:=h.isNil;subst hn;have h0:Calls prog 91 #[pF none 0 0] w fun r w'=>r = pJ (pF none 0 0)/\w=w':=by
   have hq:=fun W=>AK (P:=prog) W _ _ none 0 0 0 0 underlying23;go_enter func91,ntmps91;go_wp2;go_ret;exact⟨rfl,rfl⟩
  refine h0.mono ?_;rintro r w' ⟨rfl,rfl⟩;exact⟨none,0,rfl,h,BQ _ _ _ _,Aa.refl [] w⟩
 | some p=>
  obtain⟨a',c',w',hr,hs,ho,hk⟩:=AR.clone_run prog underlying23 VJ bE Eu KH h bB 23;rw [hn] at hr ho;have HS:=lH hs;have B:=lH ho;have HK:=lH hk;clear h hs ho hk;have h0:Calls prog 91 #[pF (some p) n c] w fun r w1=>r = pJ (.slice a' n c')/\w'=w1:=by
   clear HS HK B;have hq:=fun W=>AK (P:=prog) W _ _ (some p) n c 0 0 underlying23;go_enter func91,ntmps91;go_wp2_with (at_builtin;refine Au _ rfl _ _ 23 rfl rfl rfl hr ?_);go_ret;exact⟨rfl,rfl⟩
  refine h0.mono ?_;rintro r w1 ⟨rfl,rfl⟩;exact⟨a',c',rfl,HS.o,B.o,HK.o⟩
theorem Tl:D1 (prog.info? 4) 1=true:=bC
theorem Rb(a:Option Addr)(c:Nat)(xs:List Bool)(n:Nat)(hn:xs.length=n)(hL:n<=1000000)(w:World)(h:AR JM 1 w a c xs):
  Calls prog 92 #[pF a n c] w fun r w'=>∃a' c',r = pJ (.slice a' n c')/\AR JM 1 w' a' c' xs/\w'.ownsRow w 4 1 (.slice a' n c') n (xs.flatMap JM)/\Aa [] w w':=by
 cases a with
 | none=>
  obtain⟨rfl,rfl⟩:=h.isNil;subst hn;have h0:Calls prog 92 #[pF none 0 0] w fun r w'=>r = pJ (pF none 0 0)/\w=w':=by
   have hq:=fun W=>AK (P:=prog) W _ _ none 0 0 0 0 underlying24;go_enter func92,ntmps92;go_wp2;go_ret;exact⟨rfl,rfl⟩
  refine h0.mono ?_;rintro r w' ⟨rfl,rfl⟩;exact⟨none,0,rfl,h,BQ _ _ _ _,Aa.refl [] w⟩
 | some p=>
  obtain⟨a',c',w',hr,hs,ho,hk⟩:=AR.clone_run prog underlying24 Tl bE KG Ym h bB 24;rw [hn] at hr ho;have HS:=lH hs;have B:=lH ho;have HK:=lH hk;clear h hs ho hk;have h0:Calls prog 92 #[pF (some p) n c] w fun r w1=>r = pJ (.slice a' n c')/\w'=w1:=by
   clear HS HK B;have hq:=fun W=>AK (P:=prog) W _ _ (some p) n c 0 0 underlying24;go_enter func92,ntmps92;go_wp2_with (at_builtin;refine Au _ rfl _ _ 24 rfl rfl rfl hr ?_);go_ret;exact⟨rfl,rfl⟩
  refine h0.mono ?_;rintro r w1 ⟨rfl,rfl⟩;exact⟨a',c',rfl,HS.o,B.o,HK.o⟩
theorem Gl:D1 (prog.info? 9) 1=true:=bC
theorem MP:D1 (prog.info? 59) 5=true:=bC
theorem KB(a:Option Addr)(c:Nat)(xs:List EX)(n:Nat)(hn:xs.length=n)(hL:n<=1000000)(w:World)(h:AR B8 5 w a c xs):
  Calls prog 125 #[pF a n c] w fun r w'=>∃a' c',r = pJ (.slice a' n c')/\AR B8 5 w' a' c' xs/\w'.ownsRow w 59 5 (.slice a' n c') n (xs.flatMap B8)/\Aa [] w w':=by
 cases a with
 | none=>
  obtain⟨rfl,rfl⟩:=h.isNil;subst hn;have h0:Calls prog 125 #[pF none 0 0] w fun r w'=>r = pJ (pF none 0 0)/\w=w':=by
   have hq:=fun W=>AK (P:=prog) W _ _ none 0 0 0 0 underlying109;go_enter func125,ntmps125;go_wp2;go_ret;exact⟨rfl,rfl⟩
  refine h0.mono ?_;rintro r w' ⟨rfl,rfl⟩;exact⟨none,0,rfl,h,BQ _ _ _ _,Aa.refl [] w⟩
 | some p=>
  obtain⟨a',c',w',hr,hs,ho,hk⟩:=AR.clone_run prog underlying109 MP bE Cv FA h bB 109;rw [hn] at hr ho;have HS:=lH hs;have B:=lH ho;have HK:=lH hk;clear h hs ho hk;have h0:Calls prog 125 #[pF (some p) n c] w fun r w1=>r = pJ (.slice a' n c')/\w'=w1:=by
   clear HS HK B;have hq:=fun W=>AK (P:=prog) W _ _ (some p) n c 0 0 underlying109;go_enter func125,ntmps125;go_wp2_with (at_builtin;refine Au _ rfl _ _ 109 rfl rfl rfl hr ?_);go_ret;exact⟨rfl,rfl⟩
  refine h0.mono ?_;rintro r w1 ⟨rfl,rfl⟩;exact⟨a',c',rfl,HS.o,B.o,HK.o⟩
theorem Tk:D1 (prog.info? 194) 4=true:=bC
theorem XY(a:Option Addr)(c:Nat)(xs:List El)(n:Nat)(hn:xs.length=n)(hL:n<=1000000)(w:World)(h:AR BT 4 w a c xs):
  Calls prog 126 #[pF a n c] w fun r w'=>∃a' c',r = pJ (.slice a' n c')/\AR BT 4 w' a' c' xs/\w'.ownsRow w 194 4 (.slice a' n c') n (xs.flatMap BT)/\Aa [] w w':=by
 cases a with
 | none=>
  obtain⟨rfl,rfl⟩:=h.isNil;subst hn;have h0:Calls prog 126 #[pF none 0 0] w fun r w'=>r = pJ (pF none 0 0)/\w=w':=by
   have hq:=fun W=>AK (P:=prog) W _ _ none 0 0 0 0 underlying110;go_enter func126,ntmps126;go_wp2;go_ret;exact⟨rfl,rfl⟩
  refine h0.mono ?_;rintro r w' ⟨rfl,rfl⟩;exact⟨none,0,rfl,h,BQ _ _ _ _,Aa.refl [] w⟩
 | some p=>
  obtain⟨a',c',w',hr,hs,ho,hk⟩:=AR.clone_run prog underlying110 Tk bE D0 Iq h bB 110;rw [hn] at hr ho;have HS:=lH hs;have B:=lH ho;have HK:=lH hk;clear h hs ho hk;have h0:Calls prog 126 #[pF (some p) n c] w fun r w1=>r = pJ (.slice a' n c')/\w'=w1:=by
   clear HS HK B;have hq:=fun W=>AK (P:=prog) W _ _ (some p) n c 0 0 underlying110;go_enter func126,ntmps126;go_wp2_with (at_builtin;refine Au _ rfl _ _ 110 rfl rfl rfl hr ?_);go_ret;exact⟨rfl,rfl⟩
  refine h0.mono ?_;rintro r w1 ⟨rfl,rfl⟩;exact⟨a',c',rfl,HS.o,B.o,HK.o⟩
theorem MO:D1 (prog.info? 40) 2=true:=bC
theorem KA(a:Option Addr)(c:Nat)(xs:List GF)(n:Nat)(hn:xs.length=n)(hL:n<=1000000)(w:World)(h:AR Eg 2 w a c xs):
  Calls prog 39 #[pF a n c] w fun r w'=>∃a' c',r = pJ (.slice a' n c')/\AR Eg 2 w' a' c' xs/\w'.ownsRow w 40 2 (.slice a' n c') n (xs.flatMap Eg)/\Aa [] w w':=by
 cases a with
 | none=>
  obtain⟨rfl,rfl⟩:=h.isNil;subst hn;have h0:Calls prog 39 #[pF none 0 0] w fun r w'=>r = pJ (pF none 0 0)/\w=w':=by
   have hq:=fun W=>AK (P:=prog) W _ _ none 0 0 0 0 underlying22;go_enter func39,ntmps39;go_wp2;go_ret;exact⟨rfl,rfl⟩
  refine h0.mono ?_;rintro r w' ⟨rfl,rfl⟩;exact⟨none,0,rfl,h,BQ _ _ _ _,Aa.refl [] w⟩
 | some p=>
  obtain⟨a',c',w',hr,hs,ho,hk⟩:=AR.clone_run prog underlying22 MO bE Fc MW h bB 22;rw [hn] at hr ho;have HS:=lH hs;have B:=lH ho;have HK:=lH hk;clear h hs ho hk;have h0:Calls prog 39 #[pF (some p) n c] w fun r w1=>r = pJ (.slice a' n c')/\w'=w1:=by
   clear HS HK B;have hq:=fun W=>AK (P:=prog) W _ _ (some p) n c 0 0 underlying22;go_enter func39,ntmps39;go_wp2_with (at_builtin;refine Au _ rfl _ _ 22 rfl rfl rfl hr ?_);go_ret;exact⟨rfl,rfl⟩
  refine h0.mono ?_;rintro r w1 ⟨rfl,rfl⟩;exact⟨a',c',rfl,HS.o,B.o,HK.o⟩
theorem OK:D1 (prog.info? 67) 24=true:=bC
theorem UE(a:Option Addr)(c:Nat)(xs:List Bq)(n:Nat)(hn:xs.length=n)(hL:n<=1000000)(w:World)(h:AR encJob 24 w a c xs):
  Calls prog 45 #[pF a n c] w fun r w'=>∃a' c',r = pJ (.slice a' n c')/\AR encJob 24 w' a' c' xs/\w'.ownsRow w 67 24 (.slice a' n c') n (xs.flatMap encJob)/\Aa [] w w':=by
 cases a with
 | none=>
  obtain⟨rfl,rfl⟩:=h.isNil;subst hn;have h0:Calls prog 45 #[pF none 0 0] w fun r w'=>r = pJ (pF none 0 0)/\w=w':=by
   have hq:=fun W=>AK (P:=prog) W _ _ none 0 0 0 0 underlying33;go_enter func45,ntmps45;go_wp2;go_ret;exact⟨rfl,rfl⟩
  refine h0.mono ?_;rintro r w' ⟨rfl,rfl⟩;exact⟨none,0,rfl,h,BQ _ _ _ _,Aa.refl [] w⟩
 | some p=>
  obtain⟨a',c',w',hr,hs,ho,hk⟩:=AR.clone_run prog underlying33 OK bE Dc Ir h bB 33;rw [hn] at hr ho;have HS:=lH hs;have B:=lH ho;have HK:=lH hk;clear h hs ho hk;have h0:Calls prog 45 #[pF (some p) n c] w fun r w1=>r = pJ (.slice a' n c')/\w'=w1:=by
   clear HS HK B;have hq:=fun W=>AK (P:=prog) W _ _ (some p) n c 0 0 underlying33;go_enter func45,ntmps45;go_wp2_with (at_builtin;refine Au _ rfl _ _ 33 rfl rfl rfl hr ?_);go_ret;exact⟨rfl,rfl⟩
  refine h0.mono ?_;rintro r w1 ⟨rfl,rfl⟩;exact⟨a',c',rfl,HS.o,B.o,HK.o⟩
theorem Gx:D1 (prog.info? 97) 3=true:=bC
theorem K8(a:Option Addr)(c:Nat)(xs:List IA)(n:Nat)(hn:xs.length=n)(hL:n<=1000000)(w:World)(h:AR Cu 3 w a c xs):
  Calls prog 79 #[pF a n c] w fun r w'=>∃a' c',r = pJ (.slice a' n c')/\AR Cu 3 w' a' c' xs/\w'.ownsRow w 97 3 (.slice a' n c') n (xs.flatMap Cu)/\Aa [] w w':=by
 cases a with
 | none=>
  obtain⟨rfl,rfl⟩:=h.isNil;subst hn;have h0:Calls prog 79 #[pF none 0 0] w fun r w'=>r = pJ (pF none 0 0)/\w=w':=by
   have hq:=fun W=>AK (P:=prog) W _ _ none 0 0 0 0 underlying34;go_enter func79,ntmps79;go_wp2;go_ret;exact⟨rfl,rfl⟩
  refine h0.mono ?_;rintro r w' ⟨rfl,rfl⟩;exact⟨none,0,rfl,h,BQ _ _ _ _,Aa.refl [] w⟩
 | some p=>
  obtain⟨a',c',w',hr,hs,ho,hk⟩:=AR.clone_run prog underlying34 Gx bE DL Kc h bB 34;rw [hn] at hr ho;have HS:=lH hs;have B:=lH ho;have HK:=lH hk;clear h hs ho hk;have h0:Calls prog 79 #[pF (some p) n c] w fun r w1=>r = pJ (.slice a' n c')/\w'=w1:=by
   clear HS HK B;have hq:=fun W=>AK (P:=prog) W _ _ (some p) n c 0 0 underlying34;go_enter func79,ntmps79;go_wp2_with (at_builtin;refine Au _ rfl _ _ 34 rfl rfl rfl hr ?_);go_ret;exact⟨rfl,rfl⟩
  refine h0.mono ?_;rintro r w1 ⟨rfl,rfl⟩;exact⟨a',c',rfl,HS.o,B.o,HK.o⟩
theorem Io:D1 (prog.info? 112) 8=true:=bC
theorem Tm(a:Option Addr)(c:Nat)(xs:List TV)(n:Nat)(hn:xs.length=n)(hL:n<=1000000)(w:World)(h:AR BE 8 w a c xs):
  Calls prog 135 #[pF a n c] w fun r w'=>∃a' c',r = pJ (.slice a' n c')/\AR BE 8 w' a' c' xs/\w'.ownsRow w 112 8 (.slice a' n c') n (xs.flatMap BE)/\Aa [] w w':=by
 cases a with
 | none=>
  obtain⟨rfl,rfl⟩:=h.isNil;subst hn;have h0:Calls prog 135 #[pF none 0 0] w fun r w'=>r = pJ (pF none 0 0)/\w=w':=by
   have hq:=fun W=>AK (P:=prog) W _ _ none 0 0 0 0 underlying27;go_enter func135,ntmps135;go_wp2;go_ret;exact⟨rfl,rfl⟩
  refine h0.mono ?_;rintro r w' ⟨rfl,rfl⟩;exact⟨none,0,rfl,h,BQ _ _ _ _,Aa.refl [] w⟩
 | some p=>
  obtain⟨a',c',w',hr,hs,ho,hk⟩:=AR.clone_run prog underlying27 Io bE CF FB h bB 27;rw [hn] at hr ho;have HS:=lH hs;have B:=lH ho;have HK:=lH hk;clear h hs ho hk;have h0:Calls prog 135 #[pF (some p) n c] w fun r w1=>r = pJ (.slice a' n c')/\w'=w1:=by
   clear HS HK B;have hq:=fun W=>AK (P:=prog) W _ _ (some p) n c 0 0 underlying27;go_enter func135,ntmps135;go_wp2_with (at_builtin;refine Au _ rfl _ _ 27 rfl rfl rfl hr ?_);go_ret;exact⟨rfl,rfl⟩
  refine h0.mono ?_;rintro r w1 ⟨rfl,rfl⟩;exact⟨a',c',rfl,HS.o,B.o,HK.o⟩
end
section
open Go.RowKit Go.Shelf
attribute [local go_sem] pN
attribute [local go_sem ↓] wp_at_zero wp_at_succ
theorem S8(r:Int)(w:World):Calls prog 99 #[pE pK r] w fun e w'=>e = pJ (I_ (setsR r:Nat))/\w=w':=by
 by_cases h3:r=3
 ·subst h3
  go_enter func99,ntmps99;go_wp2;go_ret;exact⟨rfl,rfl⟩
 ·by_cases h2:r=2
  ·subst h2
   go_enter func99,ntmps99;go_wp2;go_ret;exact⟨rfl,rfl⟩
  ·by_cases h1:r=1
   ·subst h1
    go_enter func99,ntmps99;go_wp2;go_ret;exact⟨rfl,rfl⟩
   ·have D:(r==3)=false:=by simpa using h3
    have B:(r==2)=false:=kC;have f1:(r==1)=false:=bR;have hs:setsR r=0:=by unfold setsR;rw [if_neg h3,if_neg h2,if_neg h1]
    rw [hs];clear h3 h2 h1 hs;go_enter func99,ntmps99;go_wp2;go_ret;exact⟨rfl,rfl⟩
theorem Pa(s:ByteArray):Gi s=JA s:=rfl
theorem Vf{s:ByteArray}(h:¬s=⟨#[]⟩):¬s.toList = []:=fun e=>h (by
 rw [ED] at e;obtain⟨⟨l⟩⟩:=s;have e2:l = []:=e;rw [e2])
theorem RL(o:GF)(hs:o.name.size<=maxLen)(b:Bool)(hb:(decide (o.name≠⟨#[]⟩)&&JA o.name)=b)(w:World):
  Calls prog 59 #[pH #[Dz o.name,I_ o.role]] w fun e w'=>e = pJ (pI b)/\Aa [] w w':=by
 obtain⟨nm,D⟩:=o;dsimp only at hs hb ⊢;have HB:=lH hb;have hk0:=(Aa.refl [] w).alloc (.cells #[Dz nm,I_ D] 155);obtain⟨y,hy⟩:=eX (Gi nm);have B:=lH hy;have HK:=lH hk0;clear hb hy hk0;by_cases h0:nm=⟨#[]⟩
 ·obtain rfl:b=false:=by rw [<- HB.o];simp [h0]
  subst h0;clear HB B;go_enter func59,ntmps59;go_wp2;go_ret;exact⟨rfl,HK.o⟩
 ·obtain rfl:b=y:=by rw [<- HB.o,<- B.o,Pa];simp [h0]
  have hne:=Vf h0;clear h0;go_enter func59,ntmps59;go_wp2_with fail;refine(Od nm hs b B.o _).mono ?_;rintro e w1 ⟨rfl,hk⟩;have HK2:=lH (HK.o.trans hk);clear hk;go_wp2;go_ret;exact⟨Jv (by rw [E9.2 hne];rfl),HK2.o⟩
theorem RM(o:GF)(b:Bool)(hb:decide (setsR o.role≠0)=b)(w:World):
  Calls prog 60 #[pH #[Dz o.name,I_ o.role]] w fun e w'=>e = pJ (pI b)/\Aa [] w w':=by
 obtain⟨nm,B⟩:=o;dsimp only at hb ⊢;obtain⟨n,hn⟩:=eX (setsR B);have hk0:=(Aa.refl [] w).alloc (.cells #[Dz nm,I_ B] 155);have hs:=fun W=>S8 B W;rw [hn] at hb hs;have HS:=lH hs;have HK:=lH hk0;have D:((n:Int) != 0)=b:=by rw [<- hb,bne,DI];simp
 clear hb hs hk0 hn;go_enter func60,ntmps60;go_wp2_with fail;refine(HS.o _).mono ?_;rintro e w1 ⟨rfl,rfl⟩;go_wp2;go_ret;exact⟨rfl,HK.o⟩
def XG:Array Value:=#[.func (.func 59) #[] #[],.func (.func 60) #[] #[]]
theorem Kz{α:Type}{p:α->Bool}{L:List α}{k:Nat}{x:α}(h:L[k]? = some x):(L.take (k+1)).all p=((L.take k).all p&&p x):=by
 obtain⟨hk,rfl⟩:=Ad.1 h;rw [BJ hk,List.all_append];simp
theorem Ih{α:Type}{p:α->Bool}{L:List α}{k:Nat}{x:α}(h:L[k]? = some x)(hb:p x=false):L.all p=false:=by
 obtain⟨hk,rfl⟩:=Ad.1 h;apply Bool.eq_false_iff.2;intro B;rw [Bm] at B;have:=B _ (pS hk);rw [hb] at this;cases this
theorem AR.at_k{α:Type}{enc:α->List Value}{n:Nat}{w:World}{a:Option Addr}{c:Nat}{xs:List α}(h:AR enc n w a c xs){k:Nat}(hk:k<xs.length):
  ∃g off x,a=some (A_ g off)/\g<w.heap.size/\xs[k]? = some x/\∀j u,(enc x)[j]? = some u->w.cell? (A_ g (off+k*n+j))=some u:=by
 obtain⟨g,off,B,hg,D⟩:=h.at_ bB;exact⟨g,off,xs[k],B,hg,Aq hk,fun j u hj=>D k hk j u hj⟩
theorem YW(a:Option Addr)(c:Nat)(L:List GF)(n:Nat)(hn:L.length=n)(hL:n<=1000000)(hs:∀o∈L,o.name.size<=maxLen)(fb:Nat)(ty:TypeId)(b:Bool)(hb:L.all WC=b)(w:World)(h:IE w a c L)(hf:Blk w fb ty XG):
  Calls prog 58 #[pF a n c,pF (some (A_ fb 0)) 2 2] w fun e w'=>e = pJ (pI b)/\Aa [] w w':=by
 have HH:=lH h;have HN:=lH hn;have HB:=lH hb;have HS:=lH hs;have HF:=lH hf;clear h hn hb hs hf;go_enter func58,ntmps58;go_wp2;go_loopw [11] (fun i wr=>∃k:Nat,i = I_ k/\k<=n/\Hi ((L.take k).all WC=true)/\Hi (Aa [] w wr)) (fun i _=>n - (intOf i).toNat)
 case atStart=>exact⟨0,rfl,Ba _,lH rfl,lH (Aa.refl _ _)⟩
 case round=>
  obtain⟨k,rfl,hk,HP,HK⟩:=hrel;by_cases hlt:k<n
  ·obtain⟨g,off,⟨nm,E⟩,rfl,hg,hx,hat⟩:=HH.o.at_k (k:=k) bO
   have q0:=hat 0 (Dz nm) rfl;have q1:=hat 1 (I_ E) rfl;rw [AT] at q0;rw [<- HK.o.cell (p:=A_ g (off+k*2)) hg bA] at q0;rw [<- HK.o.cell (p:=A_ g (off+k*2+1)) hg bA] at q1;have i1:(0:Int)<=(k:Int):=bB;have i2:(k:Int)<(n:Int):=bB;have hsz:=HS.o ⟨nm,E⟩ (CD hx);obtain⟨X,hb1⟩:=eX ((decide (nm≠⟨#[]⟩)&&JA nm));obtain⟨Y,hb2⟩:=eX (decide (setsR E≠0));have hp:WC ⟨nm,E⟩=(X&&Y):=by rw [<- hb1,<- hb2];rfl
   have U:=lH hx;have HPX:=lH hp;have H1:=lH hb1;have H2:=lH hb2;have hk0:=HK.o.alloc (.cells #[Dz nm,I_ E] 40);have J:=Blk.new wr 40 #[Dz nm,I_ E];have M:=HF.o.keeps hk0 bA;have HK0:=lH hk0;have B:=lH J;have D:=lH M;clear hat hg hx hp hb1 hb2 hk0 J M;go_wp2;refine wp_loop_rounds 3 ?_;rw [rounds_succ];have N:=D.o.cell 0;have O:=D.o.cell 1;have F:=B.o.cell 0;have G:=B.o.cell 1;simp only [XG,An,Aj,Ao] at N O F G;go_wp2_with fail;refine(RL ⟨nm,E⟩ hsz X H1.o _).mono ?_;rintro e w1 ⟨rfl,hk1⟩;clear N O F G q0 q1;have D:=lH (D.o.keeps hk1 bA);have B:=lH (B.o.keeps hk1 bA);have HK1:=lH (HK0.o.trans hk1);clear hk1;cases X with
   | false=>
    obtain rfl:b=false:=by rw [<- HB.o];exact Ih U.o jZ
    go_wp2;go_ret;exact⟨rfl,HK1.o⟩
   | true=>
    go_wp2_with fail;rw [rounds_succ];have N:=D.o.cell 0;have O:=D.o.cell 1;have F:=B.o.cell 0;have G:=B.o.cell 1;simp only [XG,An,Aj,Ao] at N O F G;go_wp2_with fail;refine(RM ⟨nm,E⟩ Y H2.o _).mono ?_;rintro e w2 ⟨rfl,hk2⟩;clear N O F G;have HK2:=lH (HK1.o.trans hk2);clear hk2;cases Y with
    | false=>
     obtain rfl:b=false:=by rw [<- HB.o];exact Ih U.o jZ
     go_wp2;go_ret;exact⟨rfl,HK2.o⟩
    | true=>
     have T:Hi ((L.take (k+1)).all WC=true):=lH (by rw [Kz U.o,HP.o,HPX.o];rfl);go_wp2_with fail;rw [rounds_succ];go_wp2;go_roundw;case rel=>exact⟨k+1,by go_num,by omega,T,HK2⟩
     case measure=>simp [intOf];omega
  ·obtain rfl:k=n:=bB;obtain rfl:b=true:=by rw [<- HB.o,<- HP.o,Ak bL]
   go_wp2;go_ret;exact⟨rfl,HK.o⟩
def My(v:Int×List UInt8×Nat):List Value:=[pE pK v.1,Dz ⟨v.2.1.toArray⟩,pE pK (v.2.2:Nat)]
def Fm:List Value:=B7.flatMap My
def Er(w:World):Prop:=∀j u,Fm[j]? = some u->w.cell? ⟨1,j,none⟩=some u
theorem Er.keeps{S:List Nat}{w w':World}(h:Er w)(hk:Aa S w w')(hn:1∉S):Er w':=fun j u hj=>(hk.cell (p:=A_ 1 j) (Be w _ (h j u hj)) hn).trans (h j u hj)
theorem TP{w:World}(h:Er w):(loadVar 315 (A_ 1 0)).run prog w = .ok (.agg Fm.toArray) w:=by
 have D:=run_loadCells_list (P:=prog) (w:=w) (A_ 1 0) Fm (fun j v hj=>by rw [BR,AW];exact h j v hj);have hg:(isAgg 315).run prog w = .ok true w:=bC;simp only [loadVar,Sem.run_bind,hg,Result.andThen_ok];have B:Fm.length=30:=bE;rw [B] at D;simp [D,Bg]
theorem KR{w:World}(h:Er w):(Instr.loadAt 315 (pG (some (A_ 1 0)))).run prog w = .ok (.agg Fm.toArray) w:=by
 have:=TP h;simp [Instr.loadAt,Instr.sureAddr,this]
theorem GV{F:Fence}{B:Nat}{P:Program}(w:World){ops:Array Oper}{rest:List Oper}{o:Oper}{a:Act}{Q:Exit->Act->World->Prop}(hgd:o.guard=none)(x:Operand)(t:TypeId)
 (ho:o.op = .load t x){u v:Value}(hx:a.eval x=u)(hr:(Instr.loadAt t u).run P w = .ok v w)(h:wpListIn F B P ops Q rest (a.put o.dst v) w):wpListIn F B P ops Q (o::rest) a w:=by
 refine wpListIn_plain hgd fun K hK=>?_;unfold Oper.wpIn;refine⟨by simp [Oper.about,ho],?_⟩;rw [Oper.semAt_plain F _ _ lN];simp [execOp,ho,hx,hr,Bg];exact hK _ _ h
def Mh(v:Int×List UInt8×Nat):Array Value:=#[.agg (My v).toArray]
theorem Md(k:Nat)(hk:k<10)(v:Int×List UInt8×Nat)(hv:B7[k]? = some v)(w:World):(Instr.index 315 (.agg Fm.toArray) (I_ (k:Int))).run prog w = .ok (.agg (My v).toArray) w:=by
 have h:k=0\/k=1\/k=2\/k=3\/k=4\/k=5\/k=6\/k=7\/k=8\/k=9:=bB;rcases h with rfl | rfl | rfl | rfl | rfl | rfl | rfl | rfl | rfl | rfl<;>(simp only [B7,Aj,Ao,Option.some.injEq] at hv;subst hv;show _=_;kernel_rfl)
theorem eQ(l:List UInt8)(s:ByteArray):((⟨l.toArray⟩:ByteArray).toList==s.toList)=(l==s.data.toList):=by
 rw [ED,ED]
theorem Xn(n:Int)(l:List UInt8)(st:Int)(s:ByteArray)(wb:Nat)(b:Bool)(hb:(l==s.data.toList)=b)(w:World)(E:w.cell? (A_ wb 0)=some (Dz s)):
  Calls prog 184 #[pH #[pE pK n,Dz ⟨l.toArray⟩,I_ st],p_ wb 0] w fun e w'=>e = pJ (pI b)/\Aa [] w w':=by
 have HK:=lH ((Aa.refl [] w).alloc (.cells #[pE pK n,Dz ⟨l.toArray⟩,I_ st] 253));have B:=HK.o.cellsV _ _ E;have he:=eQ l s;rw [hb] at he;obtain⟨t,D⟩:∃t:ByteArray,(⟨l.toArray⟩:ByteArray)=t:=⟨_,rfl⟩;rw [D] at he HK B ⊢;clear D hb;go_enter func184,ntmps184;go_wp2;go_ret;exact⟨rfl,HK.o⟩
theorem Z8(B n:Int)(l:List UInt8)(st:Nat)(b:Bool)(hb:(setsR B &&& st != 0)=b)(hst:st=1\/st=2\/st=4)(w:World):
  Calls prog 128 #[pE pK B,pH #[pE pK n,Dz ⟨l.toArray⟩,I_ (st:Nat)]] w fun e w'=>e = pJ (pI b)/\Aa [] w w':=by
 obtain⟨r,hr⟩:=eX (setsR B);have D:r=7\/r=3\/r=1\/r=0:=by
  rw [<- hr];unfold setsR
  repeat' split
  all_goals simp
 have hs:=fun W=>S8 B W;rw [hr] at hb hs;have HS:=lH hs;have HK:=lH ((Aa.refl [] w).alloc (.cells #[pE pK n,Dz ⟨l.toArray⟩,I_ (st:Nat)] 253));have HB:=lH hb;obtain⟨t,E⟩:∃t:ByteArray,(⟨l.toArray⟩:ByteArray)=t:=⟨_,rfl⟩;rw [E] at HK ⊢;have F:(w.alloc (.cells #[pE pK n,Dz t,I_ (st:Nat)] 253)).cell? (A_ w 2)=some (I_ (st:Nat)):=(Blk.new w 253 #[pE pK n,Dz t,I_ (st:Nat)]).cell 2;clear E hb hs hr;go_enter func128,ntmps128;go_wp2
 go_region_held3 (fun w'=>w'.cell? (A_ w 2)=some (I_ (st:Nat))) (first | exact F) (first | (go_at_call 99;refine(HS.o _).mono ?_;rintro e w1 ⟨rfl,rfl⟩))
 all_goals go_wp2
 all_goals go_ret
 refine⟨Jv ?_,HK.o.drew⟩;rw [<- HB.o];rcases D with rfl | rfl | rfl | rfl<;>rcases hst with rfl | rfl | rfl<;>rfl
theorem ZY:∀x∈B7,x.2.2=1\/x.2.2=2\/x.2.2=4:=bE
theorem Ut(n l tb:Nat)(wb:Nat)(s:ByteArray)(J Jx:List (Int×List UInt8×Nat)->World->Prop)(W:World)(hJ:PG [] J)(hV:∀z A,J z A->Er A/\A.cell? (A_ tb 0)=some (.func (.func 184) #[] #[pG (some (A_ wb 0))])/\A.cell? (A_ wb 0)=some (Dz s))
 (hY:∀pre x W1,J pre W1->pre++[x] <+: B7.filter (fun v=>v.2.1==s.data.toList)->YieldAt Bx (n - 1) prog l (Mh x) W1 fun e W'=>
   (e = pJ (pI true)/\J (pre++[x]) W')\/(e = pJ (pI false)/\Jx (pre++[x]) W'))
 (h0:J [] W):
  CallsIn Bx n prog 165 #[.func (.yield l) #[] #[],p_ tb 0] W fun e W'=>(∃v,e = pJ v)/\
   (J (B7.filter (fun v=>v.2.1==s.data.toList)) W'\/(∃pre,pre <+: B7.filter (fun v=>v.2.1==s.data.toList)/\Jx pre W')):=by
 have HJ:=lH hJ;have HV:=lH hV;have HY:=lH hY;have T:=lH h0;clear hJ hV hY h0;have ab:Fence.wide.depth.isSome=true->1<=n:=by intro h;cases h
 refine callsIn_of_wp func165 rfl trivial ?_ rfl;simp only [ntmps165,Cz,Av,D4,pL,pM,Bt,Bu,Cd,BD,BH,AL];gi_wp2;refine BW (wpIn_seq (wpIn_label ?_));obtain⟨VC,F⟩:=eX Fm.toArray;have af:=lH F
 gi_step
 gi_step
 gi_step
 refine GV _ rfl _ 315 rfl rfl (KR (HV.o _ _ T.o).1) ?_;rw [F];clear F;gi_wp2
 gi_loopw [6] (fun i wr=>∃k:Nat,i = I_ k/\k<=10/\Hi (J ((B7.take k).filter (fun v=>v.2.1==s.data.toList)) wr)) (fun i _=>10 - (intOf i).toNat)
 case atStart=>exact⟨0,rfl,Ba _,T⟩
 case round=>
  obtain⟨k,rfl,hk,X⟩:=hrel;by_cases hlt:k<10
  ·have i1:(0:Int)<=(k:Int):=bB;have i2:(k:Int)<10:=bB;obtain⟨⟨M,O,N⟩,hx⟩:∃x,B7[k]? = some x:=⟨_,Aq (by simpa [B7] using hlt)⟩;have B:=fun W'=>Md k hlt (M,O,N) hx W';rw [af.o] at B;simp only [My] at B;have hk0:=(Aa.refl [] wr).alloc (.cells #[pE pK M,Dz ⟨O.toArray⟩,I_ (N:Nat)] 253);have hb:=Blk.new wr 253 #[pE pK M,Dz ⟨O.toArray⟩,I_ (N:Nat)];have d0:=hb.ce 0;have d1:=hb.ce 1;have d2:=hb.ce 2;have G:=HJ.o _ _ _ X.o hk0;obtain⟨al,hv2,am⟩:=HV.o _ _ G;obtain⟨b,ac⟩:=eX ((fun v=>v.2.1==s.data.toList) (M,O,N));have U:=lH G;have HPB:=lH ac;have HX:=lH hx;have HB:=lH hb;clear hk0 hb G ac hx;gi_wp2_with fail;refine⟨trivial,ab,?_⟩;refine(callsIn_wide.2 (Xn M O (N:Nat) s wb b HPB.o _ (by have:=(HV.o _ _ U.o).2.2;exact this))).mono ?_;rintro e w1 ⟨rfl,hk1⟩;have aa:=HJ.o _ _ _ U.o hk1;have HB1:=lH (HB.o.keeps hk1 bA);have HJ2:=lH aa;clear aa hk1 d0 d1 d2 al hv2 am B;cases b with
   | false=>
    have hz:(B7.take (k+1)).filter (fun v=>v.2.1==s.data.toList)=(B7.take k).filter (fun v=>v.2.1==s.data.toList):=by rw [A0 HX.o,E5,List.filter_cons,HPB.o];simp
    have E:Hi (J ((B7.take (k+1)).filter (fun v=>v.2.1==s.data.toList)) w1):=lH (by rw [hz];exact HJ2.o);clear hz;gi_wp2;refine⟨(fun f hf=>by cases hf),?_⟩;gi_wp2;go_roundw;case rel=>exact⟨k+1,by go_num,by omega,E⟩
    case measure=>simp [intOf];omega
   | true=>
    have hz:(B7.take (k+1)).filter (fun v=>v.2.1==s.data.toList)=(B7.take k).filter (fun v=>v.2.1==s.data.toList)++[(M,O,N)]:=by rw [A0 HX.o,E5,List.filter_cons,HPB.o];simp
    have D:(B7.take k).filter (fun v=>v.2.1==s.data.toList)++[(M,O,N)] <+: B7.filter (fun v=>v.2.1==s.data.toList):=by rw [<- hz];exact(List.take_prefix _ _).filter _
    have ad:=Dq (HY.o _ _ _ HJ2.o D);rw [<- hz] at ad;obtain⟨fn,tmps,assign,body,hy,hR⟩:=ad;simp only [Mh,My] at hy;have d0:=HB1.o.ce 0;have d1:=HB1.o.ce 1;have d2:=HB1.o.ce 2;have Y:Hi ((B7.take (k+1)).filter (fun v=>v.2.1==s.data.toList) <+: B7.filter (fun v=>v.2.1==s.data.toList)):=lH (by rw [hz];exact D);clear hz D;gi_wp2;refine⟨ab,?_⟩;refine hR.mono ?_;rintro e W3 ⟨g,rfl,hT,hF⟩;clear hR hy d0 d1 d2;cases g with
    | false=>
     have aj:=lH (hF.out rfl);clear hT hF;gi_wp2;try rw [AY]
     go_end0
     exact⟨⟨_,rfl⟩,.inr ⟨_,Y.o,aj.out⟩⟩
    | true=>
     have E:=lH (hT.out rfl);clear hT hF;gi_wp2;go_roundw;case rel=>exact⟨k+1,by go_num,by omega,E⟩
     case measure=>simp [intOf];omega
  ·obtain rfl:k=10:=bB;gi_wp2;try rw [AY]
   go_end0
   exact⟨⟨_,rfl⟩,.inl X.o⟩
theorem Xj(n tb:Nat)(wb:Nat)(s:ByteArray):
  QL Bx n prog 165 #[pG (some (A_ tb 0))] Mh (B7.filter (fun v=>v.2.1==s.data.toList)) (fun A=>Er A/\A.cell? (A_ tb 0)=some (.func (.func 184) #[] #[pG (some (A_ wb 0))])/\A.cell? (A_ wb 0)=some (Dz s)):=fun l J Jx W hJ _ hV hY h0=>
 Ut n l tb wb s J Jx W hJ hV hY h0
theorem Xi(n l tb:Nat)(B:Int)(J Jx:List (Int×List UInt8×Nat)->World->Prop)(W:World)(hJ:PG [] J)(hV:∀z A,J z A->Er A/\A.cell? (A_ tb 0)=some (.func (.func 128) #[pE pK B] #[]))
 (hY:∀pre x W1,J pre W1->pre++[x] <+: B7.filter (fun v=>setsR B &&& v.2.2 != 0)->YieldAt Bx (n - 1) prog l (Mh x) W1 fun e W'=>
   (e = pJ (pI true)/\J (pre++[x]) W')\/(e = pJ (pI false)/\Jx (pre++[x]) W'))
 (h0:J [] W):
  CallsIn Bx n prog 165 #[.func (.yield l) #[] #[],p_ tb 0] W fun e W'=>(∃v,e = pJ v)/\
   (J (B7.filter (fun v=>setsR B &&& v.2.2 != 0)) W'\/(∃pre,pre <+: B7.filter (fun v=>setsR B &&& v.2.2 != 0)/\Jx pre W')):=by
 have HJ:=lH hJ;have HV:=lH hV;have HY:=lH hY;have U:=lH h0;clear hJ hV hY h0;have ab:Fence.wide.depth.isSome=true->1<=n:=by intro h;cases h
 refine callsIn_of_wp func165 rfl trivial ?_ rfl;simp only [ntmps165,Cz,Av,D4,pL,pM,Bt,Bu,Cd,BD,BH,AL];gi_wp2;refine BW (wpIn_seq (wpIn_label ?_));obtain⟨VC,G⟩:=eX Fm.toArray;have af:=lH G
 gi_step
 gi_step
 gi_step
 refine GV _ rfl _ 315 rfl rfl (KR (HV.o _ _ U.o).1) ?_;rw [G];clear G;gi_wp2
 gi_loopw [6] (fun i wr=>∃k:Nat,i = I_ k/\k<=10/\Hi (J ((B7.take k).filter (fun v=>setsR B &&& v.2.2 != 0)) wr)) (fun i _=>10 - (intOf i).toNat)
 case atStart=>exact⟨0,rfl,Ba _,U⟩
 case round=>
  obtain⟨k,rfl,hk,X⟩:=hrel;by_cases hlt:k<10
  ·have i1:(0:Int)<=(k:Int):=bB;have i2:(k:Int)<10:=bB;obtain⟨⟨N,T,O⟩,hx⟩:∃x,B7[k]? = some x:=⟨_,Aq (by simpa [B7] using hlt)⟩;have D:=fun W'=>Md k hlt (N,T,O) hx W';rw [af.o] at D;simp only [My] at D;have hk0:=(Aa.refl [] wr).alloc (.cells #[pE pK N,Dz ⟨T.toArray⟩,I_ (O:Nat)] 253);have hb:=Blk.new wr 253 #[pE pK N,Dz ⟨T.toArray⟩,I_ (O:Nat)];have d0:=hb.ce 0;have d1:=hb.ce 1;have d2:=hb.ce 2;have M:=HJ.o _ _ _ X.o hk0;obtain⟨am,hv2⟩:=HV.o _ _ M;obtain⟨b,ac⟩:=eX ((fun v=>setsR B &&& v.2.2 != 0) (N,T,O));have ae:=lH M;have HPB:=lH ac;have HX:=lH hx;have HB:=lH hb;clear hk0 hb M ac hx;gi_wp2_with fail;refine⟨trivial,ab,?_⟩;refine(callsIn_wide.2 (Z8 B N T O b HPB.o (ZY _ (CD HX.o)) _)).mono ?_;rintro e w1 ⟨rfl,hk1⟩;have aa:=HJ.o _ _ _ ae.o hk1;have HB1:=lH (HB.o.keeps hk1 bA);have HJ2:=lH aa;clear aa hk1 d0 d1 d2 am hv2 D;cases b with
   | false=>
    have hz:(B7.take (k+1)).filter (fun v=>setsR B &&& v.2.2 != 0)=(B7.take k).filter (fun v=>setsR B &&& v.2.2 != 0):=by rw [A0 HX.o,E5,List.filter_cons,HPB.o];simp
    have F:Hi (J ((B7.take (k+1)).filter (fun v=>setsR B &&& v.2.2 != 0)) w1):=lH (by rw [hz];exact HJ2.o);clear hz;gi_wp2;refine⟨(fun f hf=>by cases hf),?_⟩;gi_wp2;go_roundw;case rel=>exact⟨k+1,by go_num,by omega,F⟩
    case measure=>simp [intOf];omega
   | true=>
    have hz:(B7.take (k+1)).filter (fun v=>setsR B &&& v.2.2 != 0)=(B7.take k).filter (fun v=>setsR B &&& v.2.2 != 0)++[(N,T,O)]:=by rw [A0 HX.o,E5,List.filter_cons,HPB.o];simp
    have E:(B7.take k).filter (fun v=>setsR B &&& v.2.2 != 0)++[(N,T,O)] <+: B7.filter (fun v=>setsR B &&& v.2.2 != 0):=by rw [<- hz];exact(List.take_prefix _ _).filter _
    have ad:=Dq (HY.o _ _ _ HJ2.o E);rw [<- hz] at ad;obtain⟨fn,tmps,assign,body,hy,hR⟩:=ad;simp only [Mh,My] at hy;have d0:=HB1.o.ce 0;have d1:=HB1.o.ce 1;have d2:=HB1.o.ce 2;have Y:Hi ((B7.take (k+1)).filter (fun v=>setsR B &&& v.2.2 != 0) <+: B7.filter (fun v=>setsR B &&& v.2.2 != 0)):=lH (by rw [hz];exact E);clear hz E;gi_wp2;refine⟨ab,?_⟩;refine hR.mono ?_;rintro e W3 ⟨g,rfl,hT,hF⟩;clear hR hy d0 d1 d2;cases g with
    | false=>
     have ak:=lH (hF.out rfl);clear hT hF;gi_wp2;try rw [AY]
     go_end0
     exact⟨⟨_,rfl⟩,.inr ⟨_,Y.o,ak.out⟩⟩
    | true=>
     have F:=lH (hT.out rfl);clear hT hF;gi_wp2;go_roundw;case rel=>exact⟨k+1,by go_num,by omega,F⟩
     case measure=>simp [intOf];omega
  ·obtain rfl:k=10:=bB;gi_wp2;try rw [AY]
   go_end0
   exact⟨⟨_,rfl⟩,.inl X.o⟩
theorem ZO(n tb:Nat)(role:Int):
  QL Bx n prog 165 #[pG (some (A_ tb 0))] Mh (B7.filter (fun v=>setsR role &&& v.2.2 != 0)) (fun A=>Er A/\A.cell? (A_ tb 0)=some (.func (.func 128) #[pE pK role] #[])):=fun l J Jx W hJ _ hV hY h0=>
 Xi n l tb role J Jx W hJ hV hY h0
end
section
open Go.RowKit Go.Shelf
attribute [local go_sem] pN Lr Ls Lp Lq
attribute [local go_sem ↓] wp_at_zero wp_at_succ
def Rl(n:Nat)(s:ByteArray):ByteArray:=s.extract 0 (min s.size n)
theorem VS(n:Nat)(s:ByteArray):(Rl n s).size<=n:=by unfold Rl;rw [ByteArray.size_extract];omega
theorem Q5{α:Type}{enc:α->List Value}{n:Nat}{wr:World}{B:Nat}{v:Value}{ys:List α}{t e:TypeId}(M:prog.underlying t=some (.slice e))(hi:D1 (prog.info? e) n=true)(h0:0<n)(hn:∀x,(enc x).length=n)(E:∀x,∀u∈enc x,u.oneCell'=true)
 (hv:wr.ownsRow B e n v ys.length (ys.flatMap enc))(J:B<=wr.heap.size)(x:α)(hm:ys.length+1<=1000000)(G:TypeId)(W:World)(hk:Aa [] wr W):
  ∃g c W4,(BI #[t,t] G #[v,pF (some (A_ W 0)) 1 1]).run prog (W.alloc (.cells (enc x).toArray e)) = .ok (pF (some (A_ g 0)) (ys.length+1) c) W4/\
   W4.ownsRow B e n (pF (some (A_ g 0)) (ys.length+1) c) (ys.length+1) ((ys++[x]).flatMap enc)/\Aa v.ownBlock.toList wr W4:=by
 have hrow:=Ah hv hk (fun _ _=>by simp);obtain⟨g,c,W4,F,D,hk4,_⟩:=CO (enc:=enc) prog M hi h0 hn E hrow (A8 J hk.size) x hm G;rw [show(ys++[x]).length=ys.length+1 by simp] at D;exact⟨g,c,W4,F,D,(hk.mono bA).trans hk4⟩
def Rm(o:GF):GF:={ o with name:=Rl 66 o.name }
def Jg(L:List GF):List GF:=(L.take 12).map Rm
theorem Wb(a:Option Addr)(c:Nat)(L:List GF)(n:Nat)(hn:L.length=n)(hm:n<=9223372036854775807)(hs:∀o∈L,o.name.size<=maxLen)(w:World)(h:IE w a c L):
  Calls prog 18 #[pF a n c] w fun e w'=>∃a' n' c',e = pJ (.slice a' n' c')/\IE w' a' c' (Jg L)/\(Jg L).length=n'/\(∀g o,a'=some (A_ g o)->w.heap.size<=g)/\Aa [] w w':=by
 have H:=lH h;have HN:=lH hn;have HS:=lH hs;clear h hn hs;go_enter func18,ntmps18;go_wp2;go_loopw [3,4] (fun v i wr=>∃k:Nat,k<=n/\k<=12/\i = I_ k/\Hi (wr.ownsRow w 40 2 v ((L.take k).map Rm).length (((L.take k).map Rm).flatMap Eg))/\Hi (Aa [] w wr)) (fun _ i _=>12 - (intOf i).toNat)
 case atStart=>exact⟨0,Ba _,Ba _,rfl,lH (BQ _ _ _ _),lH (Aa.refl _ _)⟩
 case round=>
  obtain⟨k,hkn,Y,rfl,HR,HK⟩:=hrel;by_cases hlt:k<n/\k<12
  ·obtain⟨h1,h2⟩:=hlt
   obtain⟨x,hx⟩:∃x,L[k]? = some x:=⟨_,Aq lZ⟩;obtain⟨g,off,x',rfl,hg,B,hat⟩:=H.o.at_k (k:=k) lZ;obtain rfl:x=x':=by rw [hx] at B;injection B
   have q0:wr.cell? (A_ g (off+k*2))=_:=(HK.o.cell (p:=A_ g _) hg bA).trans (hat 0 _ rfl);have q1:wr.cell? (A_ g (off+k*2+1))=_:=(HK.o.cell (p:=A_ g _) hg bA).trans (hat 1 _ rfl);have hsz:x.name.size<=maxLen:=HS.o x (CD hx);unfold maxLen at hsz;obtain⟨m,G⟩:∃m:Nat,min x.name.size 66=m:=⟨_,rfl⟩;have z1:(if(66:Int)<(x.name.size:Int) then(66:Int) else(x.name.size:Int))=(m:Int):=by split<;>omega
   have z2:m<=x.name.size:=bB;have i1:(0:Int)<=(k:Int):=bB;have i2:(k:Int)<(n:Int):=bB;have i3:(k:Int)<12:=bB;obtain⟨ys,hys⟩:=eX ((L.take k).map Rm);have HTK:Hi ((L.take (k+1)).map Rm=ys++[(⟨x.name.extract 0 m,x.role⟩:GF)]):=lH (by rw [A0 hx,pO,hys,<- G];rfl);rw [hys] at HR;have HYL:Hi (ys.length<=12):=lH vH;have T:=lH (Q5 (enc:=Eg) (t:=22) underlying22 bC bE Fc MW HR.o HK.o.size (⟨x.name.extract 0 m,x.role⟩:GF) vB 22);have ab:g∉u3.ownBlock.toList:=fun hm=>by have:=AZ HR.o _ hm;omega
   have O:Hi (∀W,Aa u3.ownBlock.toList wr W->Aa [] w W):=lH fun W hW=>HK.o.own hW (AZ HR.o);have ac:g<wr.heap.size:=BS hg HK.o.size;clear hx B hat hys hsz G hg;go_wp2_with fail;refine wp_region_held_drew (S:=(Aa u3.ownBlock.toList wr)) bC nT (fun hHeld=>?_);refine rK 0 ?_;refine rK 1 ?_;refine rK 2 ?_;refine rK 3 ?_;refine rK 4 ?_;refine rK 5 ?_;refine rK 6 ?_;refine rK 7 ?_;refine rK 8 ?_;refine rK 9 ?_;refine rK 10 ?_;refine rK 11 ?_;refine rK 12 ?_;refine rK 13 ?_;refine rK 14 ?_;refine rK 15 ?_;refine rK 16 ?_;refine rK 17 ?_;refine rK 18 ?_;refine rK 19 ?_;refine rC 20 fun K hK=>?_;go_simp
   (try clear rH);refine rP hK nT fun rH hHeld=>?_;clear hK K
   refine rC 21 fun K hK=>?_
   (obtain⟨g4,c4,W4,J,X,hk4⟩:=T.o _ ((Aa.refl [] wr).drew);have HR4:=lH X;refine BG _ _ 22 bD bD bD bD J ?_)
   (try clear rH);refine rP hK nT fun rH hHeld=>?_;clear hK K
   refine rK 22 ?_;refine wpAnyH_done bC ?_ _
   (go_wp2_with fail;go_roundw;(case rel=>exact⟨k+1,by omega,by omega,by go_num,lH vG,lH (O.o _ hk4)⟩);(case measure=>(simp [intOf];omega)))
  ·have e1:((n:Nat):Int)<=(k:Int)\/(12:Int)<=(k:Int):=bB;have U:Jg L=(L.take k).map Rm:=by
    have h1:=HN.o;unfold Jg;rcases pP k 12 with h | h
    ·rw [Ak (show L.length<=12 by omega),Ak (show L.length<=k by omega)]
    ·rw [show k=12 by omega]
   obtain⟨a',c',rfl,M,F⟩:=AR.of_row Fc HR.o;have D:=lH F;have E:Hi (IE wr a' c' (Jg L)):=lH (by rw [U];exact M);obtain⟨N,hN⟩:=eX (((L.take k).map Rm).length);rw [hN];have HLE:Hi ((Jg L).length=N):=lH (by rw [U,hN]);clear M U hlt hN F;rcases pP k n with hk | hk
   ·have i2:(k:Int)<(n:Int):=bB;have i3:¬(k:Int)<12:=bB;clear e1;go_wp2_with fail;go_ret;exact⟨_,_,_,rfl,E.o,HLE.o,D.o,HK.o⟩
   ·have i2:¬(k:Int)<(n:Int):=bB;clear e1;go_wp2_with fail;go_ret;exact⟨_,_,_,rfl,E.o,HLE.o,D.o,HK.o⟩
theorem Iy(n K:Nat)(I:Int)(m:Nat)(h:min n K=m)(hI:I=(K:Int):=by rfl):(if I<(n:Int) then I else(n:Int))=(m:Int)/\min (n:Int) I=(m:Int)/\m<=n:=⟨by split<;>omega,by omega,by omega⟩
def F0(s:ByteArray):ByteArray:=s.extract 0 (min s.size 310)
theorem OQ(s:ByteArray):(F0 s).size<=310:=by unfold F0;rw [ByteArray.size_extract];omega
theorem EU(s:ByteArray)(w:World):Calls prog 13 #[Dz s] w fun r w'=>r = pJ (Dz (F0 s))/\w=w':=by
 obtain⟨m,hm⟩:∃m:Nat,min s.size 310=m:=⟨_,rfl⟩;obtain⟨h1,h3,h2⟩:=Iy s.size 310 310 m hm;unfold F0;rw [hm];go_enter func13,ntmps13;go_wp2_with fail;go_ret;exact⟨rfl,rfl⟩
end
section
open Go.RowKit Go.Shelf
attribute [local go_sem] pN
attribute [local go_sem ↓] wp_at_zero wp_at_succ
def JP:List (UInt8×Bool)->Cm->Except Int Cm
 | [],r=>.ok r
 | x::l,r=>(r.step x.1 x.2).bind (JP l)
theorem NN(a b:List (UInt8×Bool))(r:Cm):JP (a++b) r=(JP a r).bind (JP b):=by
 induction a generalizing r with
 | nil=>rfl
 | cons x l ih=>
  simp only [AL,JP];cases r.step x.1 x.2 with
  | error e=>rfl
  | ok y=>exact ih y
theorem WT{l:List (UInt8×Bool)}{x:UInt8×Bool}{r B:Cm}(h:JP l r = .ok B):JP (l++[x]) r=B.step x.1 x.2:=by
 rw [NN,h];show(B.step x.1 x.2).bind _=_;cases B.step x.1 x.2<;>rfl
theorem ZC{l m:List (UInt8×Bool)}{r:Cm}{k:Int}(h:JP l r = .error k)(hp:l <+: m):JP m r = .error k:=by
 obtain⟨t,rfl⟩:=hp;rw [NN,h];rfl
theorem NO:∀(l:List UInt8) (r:Cm),JP (l.map fun b=>(b,false)) r=Ek l r
 | [],_=>rfl
 | b::l,r=>by
  simp only [CR,JP,Ek];cases r.step b false with
  | error e=>rfl
  | ok y=>exact NO l y
theorem Xa{s:ByteArray}(h1:¬300<s.data.toList.length)(h2:s.data.toList.all Cw=true):Ce s.data.toList=(JP (PD s) .zero).bind fun r=>.ok r.done:=by
 unfold Ce PD;rw [if_neg h1,if_neg (by rw [h2];decide),NN,NO];cases Ek s.data.toList .zero with
 | error e=>rfl
 | ok r=>
  show(r.step 0 true).bind _=(JP [((0:UInt8),true)] r).bind _;unfold JP;cases r.step 0 true<;>rfl
theorem eM{R R':Cm}{b:UInt8}{e:Bool}(h:RF R)(he:R.step b e = .ok R'):RF R':=by
 have D:∀ {G:WS} {R':Cm},R.add G b = .ok R'->R.done.length<12->RF R':=fun {G R'} h1 B=>by
  unfold Cm.add at h1;split at h1
  ·cases h1
  ·cases h1
   exact⟨h.done,by simp;omega,fun _ _=>B⟩
 have F:∀G,G=WS.bet\/G=WS.shut->R.done.length<12->RF (R.shutW G):=fun G hst B=>⟨by simp [Cm.shutW];omega,by simp [Cm.shutW],fun h1 h2=>by
  rcases hst with rfl | rfl
  ·exact absurd rfl h1
  ·exact absurd rfl h2⟩
 have E:∀ {e:Bool} {R':Cm},R.bareS b e = .ok R'->R.done.length<12->RF R':=fun {e R'} h1 B=>by
  unfold Cm.bareS at h1;split at h1
  ·cases h1;exact F _ (.inl rfl) B
  ·split at h1
   ·cases h1
   ·split at h1
    ·cases h1
    ·exact D h1 B
 unfold Cm.step at he;cases hs:R.st with
 | bet=>
  rw [hs] at he;dsimp only at he;split at he
  ·cases he;exact h
  ·split at he
   ·cases he
   ·rename_i h12
    have B:R.done.length<12:=by have:=h.done;omega
    split at he
    ·cases he
     exact⟨h.done,h.word,fun _ _=>B⟩
    ·exact E he B
 | bare=>
  rw [hs] at he;exact E he (h.room bV bV)
 | quo=>
  rw [hs] at he;have B:=h.room bV bV;dsimp only at he;split at he
  ·cases he
  ·split at he
   ·cases he;exact F _ (.inr rfl) B
   ·split at he
    ·cases he
     exact⟨h.done,h.word,fun _ _=>B⟩
    ·exact D he B
 | shut=>
  rw [hs] at he;dsimp only at he;split at he
  ·cases he
  ·cases he
   exact⟨h.done,h.word,fun e=>absurd rfl e⟩
 | esc=>
  rw [hs] at he;have B:=h.room bV bV;dsimp only at he;split at he
  ·cases he
  ·exact D he B
theorem eB:RF .zero:=⟨by decide,by decide,fun h=>absurd rfl h⟩
theorem RE:∀(l:List (List UInt8)),(l.map fun s=>Dz (Dk s))=(l.map Dk).flatMap Fd
 | []=>rfl
 | x::l=>by rw [CR,CR,List.flatMap_cons,<- RE l];rfl
def Ly(s:ByteArray)(w:World)(x:Ending)(w':World):Prop:=match Ce s.data.toList with
 | .error k=>x = pJ (.tuple #[pF none 0 0,FZ (some k)])/\Aa [] w w'
 | .ok l=>∃a c,x = pJ (.tuple #[pF a l.length c,.nilIface])/\Kv w' a c (l.map Dk)/\(∀g o,a=some ⟨g,o,none⟩->w.heap.size<=g)/\Aa [] w w'
structure fN(w:World)(r base:Nat)(dv wv:Value)(R:Cm):Prop where
 blk:Blk w r 170 #[dv,wv]
 d:w.ownsRow base 9 1 dv R.done.length (R.done.map fun s=>Dz (Dk s))
 wd:w.ownsRow base 5 1 wv R.word.length (R.word.map fun b=>.int .u8 (b.toNat:Int))
 lt:r<base
 ne:∀g,dv.ownBlock=some g→wv.ownBlock≠some g
 hd:R.done.length≤12
 hw:R.word.length≤65
theorem EE.toB{w:World}{r base:Nat}{dv wv:Value}{R:Cm}(h:EE w r base dv wv R):fN w r base dv wv R:=⟨h.blk,h.d,h.wd,h.lt,h.ne,h.hd,h.hw⟩
theorem fN.toA{w:World}{r base:Nat}{dv wv:Value}{R:Cm}(h:fN w r base dv wv R)(hl:base<=w.heap.size):EE w r base dv wv R:=⟨h.blk,h.d,h.wd,h.lt,hl,h.ne,h.hd,h.hw⟩
theorem fN.keeps{w w':World}{S:List Nat}{r base:Nat}{dv wv:Value}{R:Cm}(h:fN w r base dv wv R)(hk:Aa S w w')(hr:r∉S)(hS:∀y∈S,y<base):fN w' r base dv wv R:=
 ⟨h.blk.keeps hk hr,Ah h.d hk (fun g hg hm=>by have:=(h.d.lt g hg).1;have:=hS g hm;omega),Ah h.wd hk (fun g hg hm=>by have:=(h.wd.lt g hg).1;have:=hS g hm;omega),h.lt,h.ne,h.hd,h.hw⟩
theorem EE.S_ge{w:World}{r base:Nat}{dv wv:Value}{R:Cm}(h:EE w r base dv wv R):∀y∈EE.S r dv wv,y=r\/base<=y:=fun y hy=>by
 simp only [EE.S,Ac,AQ,Option.mem_toList] at hy;rcases hy with rfl | hy | hy
 ·exact .inl rfl
 ·exact .inr (h.d.lt y hy).1
 ·exact .inr (h.wd.lt y hy).1
theorem iS.keeps{w w':World}{S:List Nat}{r sb base:Nat}{st:WS}(h:iS w r sb base st)(hk:Aa S w w')(hS:∀y∈S,y<base):iS w' r sb base st:=by
 cases st with
 | bet=>trivial
 | bare=>trivial
 | quo=>trivial
 | shut=>exact⟨h.1.keeps hk (fun hm=>by have:=hS _ hm;have:=h.2;omega),h.2⟩
 | esc=>exact⟨h.1.keeps hk (fun hm=>by have:=hS _ hm;have:=h.2;omega),h.2⟩
structure fQ(s:ByteArray)(w:World)(pb:Nat)(pre:List (UInt8×Bool))(A:World):Prop where
 run:∃R dv wv sb,JP pre .zero = .ok R∧RF R∧fN A (w.heap.size+1+1) (pb+3) dv wv R∧iS A (w.heap.size+1+1) sb (pb+3) R.st∧Blk A (w.heap.size+1+1+1) 172 #[eJ (w.heap.size+1+1) sb R.st]
 c2:Blk A w.heap.size 41 #[pF none 0 0]
 c3:Blk A (w.heap.size+1) 116 #[.nilIface]
 pb:Blk A pb 9 #[Dz s]
 kw:Aa [] w A
structure iR(s:ByteArray)(w:World)(A:World):Prop where
 run:∃k,Ce s.data.toList = .error k∧Blk A (w.heap.size+1) 116 #[FZ (some k)]
 c2:Blk A w.heap.size 41 #[pF none 0 0]
 kw:Aa [] w A
theorem fQ.keeps{s:ByteArray}{w:World}{pb:Nat}{B:List (UInt8×Bool)}{A D:World}(h:fQ s w pb B A)(hp:w.heap.size+4<=pb)(hk:Aa [pb+1,pb+1+1] A D):fQ s w pb B D:=by
 obtain⟨R,E,G,sb,h1,h2,h3,h4,F⟩:=h.run;have hS:∀y∈[pb+1,pb+1+1],y<pb+3:=fun y hy=>by simp only [Ac,Ab,or_false] at hy;omega
 have hn:∀y,y<pb+1->y∉[pb+1,pb+1+1]:=fun y hy hm=>by simp only [Ac,Ab,or_false] at hm;omega
 exact⟨⟨R,E,G,sb,h1,h2,h3.keeps hk (hn _ bB) hS,h4.keeps hk hS,F.keeps hk (hn _ bB)⟩,h.c2.keeps hk (hn _ bB),h.c3.keeps hk (hn _ bB),h.pb.keeps hk (hn _ bB),h.kw.own hk (fun g hg=>by simp only [Ac,Ab,or_false] at hg;omega)⟩
theorem iR.keeps{s:ByteArray}{w:World}{pb:Nat}{A B:World}(h:iR s w A)(hp:w.heap.size+4<=pb)(hk:Aa [pb+1,pb+1+1] A B):iR s w B:=by
 obtain⟨k,h1,h2⟩:=h.run;have hn:∀y,y<pb+1->y∉[pb+1,pb+1+1]:=fun y hy hm=>by simp only [Ac,Ab,or_false] at hm;omega
 exact⟨⟨k,h1,h2.keeps hk (hn _ bB)⟩,h.c2.keeps hk (hn _ bB),h.kw.own hk (fun g hg=>by simp only [Ac,Ab,or_false] at hg;omega)⟩
theorem WZ(s:ByteArray)(hs:s.size<=1000000)(w:World):Calls prog 33 #[Dz s] w (Ly s w):=by
 refine(callsIn_wide (n:=9)).1 ?_;obtain⟨b1,hb1⟩:=eX (decide ((300:Int)<(s.size:Int)));obtain⟨b2,hb2⟩:=eX (Hc s);have HB1:=lH hb1;have HB2:=lH hb2;clear hb2;obtain⟨RR,aw⟩:=eX (CU [(b1,10),(!b2,11)]);have ab:=lH aw;clear aw;refine callsIn_of_wp_marks func33 rfl trivial ?_ rfl;simp only [ntmps33,Cz,Av,D4,pL,pM,Bt,Bu,Cd,BD,BH,AL];gi_wp2_with (fail);refine⟨trivial,(callsIn_wide.2 (Jl s b2 HB2.o _)).mono ?_⟩;rintro e w1 ⟨rfl,hk⟩;have HK1:=lH hk;clear hk;gi_wp2_with (fail);refine⟨trivial,(callsIn_wide.2 (CY (some (A_ w1 0)) 2 [(b1,10),(!b2,11)] 2 rfl bB RR ab.o _ (NM w1 b1 (!b2) 10 11))).mono ?_⟩;rintro e w2 ⟨rfl,hk⟩;have J:=HK1.o.trans (((Aa.refl [] w1).alloc _).trans hk);have c2:=(((Blk.new w 41 #[pF none 0 0]).alloc (.cells #[.nilIface] 116)).alloc (.cells #[pF none 0 0,pF none 0 0] 170)).alloc (.cells #[.func (.func 73) #[pG (some (A2 w 0))] #[]] 172) |>.keeps J bA
 have c3:=((Ar (w.alloc (.cells #[pF none 0 0] 41)) 116 #[.nilIface] (w+1) bA).alloc (.cells #[pF none 0 0,pF none 0 0] 170)).alloc (.cells #[.func (.func 73) #[pG (some (A2 w 0))] #[]] 172) |>.keeps J bA
 have cr:=(Ar ((w.alloc (.cells #[pF none 0 0] 41)).alloc (.cells #[.nilIface] 116)) 170 #[pF none 0 0,pF none 0 0] (w+1+1) bA).alloc (.cells #[.func (.func 73) #[pG (some (A2 w 0))] #[]] 172) |>.keeps J bA
 have cf:=(Ar (((w.alloc (.cells #[pF none 0 0] 41)).alloc (.cells #[.nilIface] 116)).alloc (.cells #[pF none 0 0,pF none 0 0] 170)) 172 #[.func (.func 73) #[pG (some (A2 w 0))] #[]] (w+1+1+1) bA).keeps J bA;have hkw:Aa [] w w2:=((((Aa.refl [] w).alloc _).alloc _).alloc _).alloc _ |>.trans J
 clear hk J;cases RR with
 | some k=>
  have T:Ce s.data.toList = .error k:=by
   have h1:=ab.o;have hl:s.data.toList.length=s.size:=by rw [BX];rfl
   unfold Ce;unfold CU at h1;split at h1
   ·rename_i hc
    injection h1 with h1
    rw [if_pos (by rw [hl];have:b1=true:=hc;rw [<- HB1.o] at this;have:=of_decide_eq_true this;omega),<- h1]
   ·rename_i hc
    rw [if_neg (by rw [hl];have:¬b1=true:=hc;rw [<- HB1.o,decide_eq_true_eq] at this;omega)];unfold CU at h1;split at h1
    ·rename_i hc2
     injection h1 with h1
     rw [if_pos (by have:(!b2)=true:=hc2;rw [<- HB2.o] at this;rw [Bool.not_eq_true'] at this;exact this),<- h1]
    ·cases h1
  have q0:=c2.cell 0;have q1:=c3.cell 0;have f0:=c2.frozen 0;have f1:=c3.frozen 0;have a7:=lH c2;have a9:=lH c3;have HKW:=lH hkw;have HSP:=lH T;clear c2 c3 cr cf hkw T;simp only [FZ];gi_wp2;have hk2:Aa [w.heap.size,w.heap.size+1] w2 ((w2.setCell (A_ w 0) (pF none 0 0)).setCell (A1 w 0) (.iface 182 (pH #[pE pK k]))):=((Aa.refl _ w2).setCell (p:=A_ w 0) (.inl bA) _).setCell (p:=A1 w 0) (.inl bA) _;have d2:=((a7.o.set_ 0 (pF none 0 0)).far (p:=A1 w 0) bA (.iface 182 (pH #[pE pK k]))).cell 0;have d3:=((a9.o.far (p:=A_ w 0) bA (pF none 0 0)).set_ 0 (.iface 182 (pH #[pE pK k]))).cell 0;simp at d2 d3;have G:Ly s w (pJ (.tuple #[pF none 0 0,.iface 182 (pH #[pE pK k])])) ((w2.setCell (A_ w 0) (pF none 0 0)).setCell (A1 w 0) (.iface 182 (pH #[pE pK k]))):=by
   unfold Ly;rw [HSP.o];exact⟨rfl,HKW.o.own hk2 (fun g hg=>by simp only [Ac,Ab,or_false] at hg;omega)⟩
  exact⟨.tuple #[pF none 0 0,.iface 182 (pH #[pE pK k])],by simp [results,results33,go_sem,d2,d3],G⟩
 | none=>
  have hb:b1=false/\b2=true:=by
   have h1:=ab.o;unfold CU at h1;split at h1
   ·cases h1
   ·rename_i hc
    unfold CU at h1;split at h1
    ·cases h1
    ·rename_i hc2
     exact⟨by simpa using hc,by simpa using hc2⟩
  obtain⟨rfl,rfl⟩:=hb;have hl:s.data.toList.length=s.size:=by rw [BX];rfl
  have aa:Ce s.data.toList=(JP (PD s) .zero).bind fun r=>.ok r.done:=Xa (by rw [hl];have:=of_decide_eq_false HB1.o;omega) HB2.o;have Y:=lH aa;have ae:w.heap.size+4<=w2.heap.size:=by have:=cf.lt;omega
  have av:fQ s w w2 [] (w2.alloc (.cells #[Dz s] 9)):=by
   have ha:=(Aa.refl [] w2).alloc (.cells #[Dz s] 9);refine⟨⟨.zero,pF none 0 0,pF none 0 0,0,rfl,eB,⟨cr.keeps ha bA,BQ _ _ _ _,BQ _ _ _ _,by omega,(fun g hg=>by cases hg),by decide,by decide⟩,trivial,cf.keeps ha bA⟩,c2.keeps ha bA,c3.keeps ha bA,Blk.new w2 _ _,hkw.trans ha⟩
  have bb:=lH av;clear c2 c3 cr cf hkw hl aa av;simp only [FZ];gi_wp2_with (fail);refine⟨trivial,(callsIn_wide.2 (VG s _)).mono ?_⟩;rintro e w3 ⟨rfl,rfl⟩;gi_wp2_with (fail);have E:(w2.alloc (.cells #[Dz s] 9)).heap.size=w2.heap.size+1:=Eo _ _;refine Cc rfl bB (gf:=112) (lb:=#[pG (some (A_ w2 0))]) rfl trivial (enters_of func112 bC rfl) (VH 8 w2 s hs) (fun _=>rfl)
   (fun B A=>fQ s w w2 B A) (fun _ A=>iR s w A) (fun B A A' h hk=>h.keeps ae (by rw [E] at hk;exact hk)) (fun B A A' h hk=>h.keeps ae (by rw [E] at hk;exact hk)) (fun B A h=>by simpa using h.pb.cell 0) bb.o
   (fun x W=>({ tmps:=#[Dz s,UD,pG (some (A_ w 0)),pG (some (A1 w 0)),pG (some (A2 w 0)),pG (some (A3 w 0)),.nilIface,.int .u8 (x.1.toNat:Int),pI x.2,UD,
     UD,pH #[pF none 0 0,pF none 0 0],pG (some (A2 w 0)),pG (some (A2 w 0)),.func (.func 73) #[pG (some (A2 w 0))] #[],Dz s,pE pK s.size,pI false,pH #[pI false,pE pK 10],Dz s,pI true,pI false,pH #[pI false,pE pK 11],
     pF (some (A_ w1 0)) 2 2,.nilIface,.nilIface,pI false,UD,Dz s,.func (.func 112) #[] #[pG (some (A_ w2 0))],.int .u8 (x.1.toNat:Int),pI x.2,UD,UD,UD,UD,UD,UD,UD,UD,UD,UD,UD,UD,UD,UD,UD,UD],defers:=[] },W))
   (fun x W=>Aa.refl [] W) ?assign ?body ?done ?stop
  case assign=>
   intro l x W K hK;unfold RT;gi_wp2;exact hK
  case body=>
   rintro l B ⟨b,e⟩ W W2 hI M hsz hk2;rw [E] at hk2 hsz ⊢;have ad:=hI.keeps ae hk2;obtain⟨R,dv,wv,sb,az,af,a0,a1,ag⟩:=ad.run;have a2:w2.heap.size+3<=W2.heap.size:=by have:=hk2.size;dsimp only at this;omega
   have hA:=a0.toA a2;have hcall:=iN (w+1+1) (w2.heap.size+3) sb dv wv R b e af W2 hA a1;have hsn:=WT (x:=(b,e)) az;obtain⟨a3,N⟩:=eX (R.step b e);dsimp only at hsn;rw [N] at hcall hsn;have q5:=ag.ce 0;have ay:=hA.S_ge;have HCALL:=lH hcall;have ao:=lH hsn;have be:=lH af;have an:=lH N;have F:=lH ad;have HA:=lH hA;have bd:=lH ag;have am:=lH M;have al:=lH ay;clear hI M hk2 ad az af a0 a1 ag hA hcall hsn N ay;have G:∀(x:Ending) (w':World),IG (w+1+1) (w2.heap.size+3) (EE.S (w+1+1) dv wv) W2 a3 x w'->
     (∃k v,x = pJ (.tuple #[v,.iface 182 (pH #[pE pK k])])/\Hi (w'.cell? (A_ w 0)=some (pF none 0 0)/\w'.cell? (A1 w 0)=some .nilIface/\w'.frozen? (A_ w 0)=false/\w'.frozen? (A1 w 0)=false)/\
      Hi (Jw (w2+1) (fun B A=>fQ s w w2 B A) (fun _ A=>iR s w A) (B++[(b,e)]) W2 .ret { tmps:=#[],defers:=[] } ((w'.setCell (A_ w 0) (pF none 0 0)).setCell (A1 w 0) (.iface 182 (pH #[pE pK k])))))\/
     (∃f bs ls,x = pJ (.tuple #[.func f bs ls,.nilIface])/\Hi ((∃u,w'.cell? (A3 w 0)=some u)/\w'.frozen? (A3 w 0)=false)/\
      Hi (Jw (w2+1) (fun B A=>fQ s w w2 B A) (fun _ A=>iR s w A) (B++[(b,e)]) W2 .normal { tmps:=#[],defers:=[] } (w'.setCell (A3 w 0) (.func f bs ls)))):=by
    intro x w' hx;have D:∀y,y<w2.heap.size+3->y≠w.heap.size+1+1->y∉EE.S (w+1+1) dv wv:=fun y h1 h2 hm=>by
     rcases al.o y hm with h3 | h3
     ·exact h2 h3
     ·omega
    have hSw:∀y∈EE.S (w+1+1) dv wv,w.heap.size<=y:=fun y hm=>by rcases al.o y hm with h3 | h3<;>omega
    cases a3 with
    | error k=>
     left;obtain⟨⟨v,rfl⟩,hk⟩:=hx;have g2:=F.o.c2.keeps hk (D _ bB bB);have g3:=F.o.c3.keeps hk (D _ bB bB);have hk3:Aa [w.heap.size,w.heap.size+1] w' ((w'.setCell (A_ w 0) (pF none 0 0)).setCell (A1 w 0) (.iface 182 (pH #[pE pK k]))):=((Aa.refl _ w').setCell (p:=A_ w 0) (.inl bA) _).setCell (p:=A1 w 0) (.inl bA) _;refine⟨k,v,rfl,⟨by simpa using g2.cell 0,by simpa using g3.cell 0,g2.frozen 0,g3.frozen 0⟩,?_⟩;refine⟨A8 hk.size hk3.size,fun y hy=>?_,⟨k,?_,?_⟩,?_,?_⟩
     ·simp only [Ac,Ab,or_false] at hy
      rw [hk3.block y (by have:=hk.size;omega) bI,hk.block y bB (D y bB bB)]
     ·rw [Y.o,ZC ao.o am.o];rfl
     ·have:=(g3.far (p:=A_ w 0) bA (pF none 0 0)).set_ 0 (.iface 182 (pH #[pE pK k]));exact this
     ·have:=(g2.set_ 0 (pF none 0 0)).far (p:=A1 w 0) bA (.iface 182 (pH #[pE pK k]));exact this
     ·exact(F.o.kw.own hk hSw).own hk3 (fun g hg=>by simp only [Ac,Ab,or_false] at hg;omega)
    | ok R'=>
     right;obtain⟨bg,bp,X,rfl,h1,h2,hk⟩:=hx;have g2:=F.o.c2.keeps hk (D _ bB bB);have g3:=F.o.c3.keeps hk (D _ bB bB);have g4:=bd.o.keeps hk (D _ bB bB);have g5:=F.o.pb.keeps hk (D _ bB bB);have hk3:Aa [w.heap.size+1+1+1] w' (w'.setCell (A3 w 0) (eJ (w+1+1) X R'.st)):=(Aa.refl _ w').setCell (p:=A3 w 0) (.inl bA) _;have bi:=g4.set_ 0 (eJ (w+1+1) X R'.st);obtain⟨f,bs,ls,hv⟩:∃f bs ls,eJ (w+1+1) X R'.st = .func f bs ls:=by cases R'.st<;>exact⟨_,_,_,rfl⟩
     refine⟨f,bs,ls,by rw [hv],⟨⟨_,by simpa using g4.cell 0⟩,g4.frozen 0⟩,?_⟩;rw [<- hv];refine⟨A8 hk.size hk3.size,fun y hy=>?_,⟨R',bg,bp,X,ao.o,eM be.o an.o,?_,?_,?_⟩,?_,?_,?_,?_⟩
     ·simp only [Ac,Ab,or_false] at hy
      rw [hk3.block y (by have:=hk.size;omega) bI,hk.block y bB (D y bB bB)]
     ·exact h1.toB.keeps hk3 bA bF
     ·exact h2.keeps hk3 bF
     ·exact bi
     ·exact g2.far bH _
     ·exact g3.far bH _
     ·exact g5.far bH _
     ·exact(F.o.kw.own hk hSw).own hk3 (fun g hg=>by simp only [Ac,Ab,or_false] at hg;omega)
   have HFIN:=lH G;clear G;generalize hst:R.st=st at HCALL q5;clear hst;cases st;all_goals
    have hcall:=HCALL.o;simp only [oZ,oY] at hcall;simp only [eJ] at q5;replace HCALL:=lH hcall;clear hcall;gi_wp2_with (fail);refine⟨trivial,(callsIn_wide.2 HCALL.o).mono ?_⟩;intro x w' hx;rcases HFIN.o x w' hx with⟨k,v,rfl,hq,hF⟩ | ⟨f,bs,ls,rfl,hq,hF⟩
    ·obtain⟨d0,d1,d2,d3⟩:=hq.out
     have HF:=lH hF.out;clear hx hq hF;gi_wp2;exact HF.o
    ·obtain⟨⟨u,d0⟩,d1⟩:=hq.out
     have HF:=lH hF.out;clear hx hq hF;gi_wp2;exact HF.o
  case done=>
   rintro W hI hsz hK;rw [E] at hsz hK ⊢;obtain⟨R,dv,wv,sb,h1,h2,h3,h4,h5⟩:=hI.run;have T:Ce s.data.toList = .ok R.done:=by rw [Y.o,h1];rfl
   have q0:=h3.blk.cell 0;have q2:=hI.c2.cell 0;have q3:=hI.c3.cell 0;have f2:=hI.c2.frozen 0;have f3:=hI.c3.frozen 0;simp at q0 q2 q3;have hrow:=h3.d;rw [show(R.done.map fun s=>Dz (Dk s))=(R.done.map Dk).flatMap Fd from RE _] at hrow;obtain⟨da,dc,bm⟩:∃a c,dv = pF a R.done.length c:=by
    rcases h3.d.2 with⟨rfl,h0⟩ | ⟨g,c,cur,rfl,_⟩
    ·exact⟨none,0,by rw [h0]⟩
    ·exact⟨_,_,rfl⟩
   subst bm;have HROW:=lH hrow;have HSP:=lH T;have HI:=lH hI;clear hI h1 h2 h3 h4 h5 T hrow;gi_wp2;obtain⟨WF,U⟩:=eX ((W.setCell (A_ w 0) (pF da R.done.length dc)).setCell (A1 w 0) .nilIface);have hk3:Aa [w.heap.size,w.heap.size+1] W WF:=by rw [<- U];exact((Aa.refl _ W).setCell (p:=A_ w 0) (.inl bA) _).setCell (p:=A1 w 0) (.inl bA) _
   have d2:Blk WF w 41 #[pF da R.done.length dc]:=by rw [<- U];exact(HI.o.c2.set_ 0 _).far bA _
   have d3:Blk WF (w+1) 116 #[.nilIface]:=by rw [<- U];exact(HI.o.c3.far bA _).set_ 0 _
   rw [U];have hn:w2.heap.size+1∉[w.heap.size,w.heap.size+1]:=by simp only [Ac,Ab,or_false];omega
   have bj:WF.heap[w2.heap.size+1]? = some (.deferred (some [])):=(hk3.block _ bB hn).trans hK;refine⟨by simp,.inl ⟨_,_,rfl,run_takeDeferred bj,?_⟩⟩;have hk4:=AG (S:=[w2.heap.size+1]) WF (.deferred none) (l:=w2.heap.size+1) bA;have e2:=(d2.keeps hk4 bG).ce 0;have e3:=(d3.keeps hk4 bG).ce 0;refine⟨.tuple #[pF da R.done.length dc,.nilIface],by simp [results,results33,go_sem,e2,e3],?_⟩;unfold Ly;rw [HSP.o];have O:=Ah (Ah HROW.o hk3 (fun g hg hm=>by have:=(HROW.o.lt g hg).1;simp only [Ac,Ab,or_false] at hm;omega)) hk4 (fun g hg hm=>by have:=(HROW.o.lt g hg).1;simp only [Ac,Ab,or_false] at hm;omega);rw [show R.done.length=(R.done.map Dk).length by simp] at O ⊢;obtain⟨a',c',hv,bo,_⟩:=AR.of_row DY O;injection hv with v1 _ v2
   subst v1;subst v2;exact⟨da,dc,by simp,bo,fun g o e=>by have:=(HROW.o.lt g (by rw [e];rfl)).1;omega,(HI.o.kw.own hk3 (fun g hg=>by simp only [Ac,Ab,or_false] at hg;omega)).own hk4 (fun g hg=>by simp only [Ac,Ab,or_false] at hg;omega)⟩
  case stop=>
   rintro B W M hX hsz hK;rw [E] at hsz hK ⊢;obtain⟨k,h1,h2⟩:=hX.run;have HX:=lH hX;clear hX;gi_wp2;refine⟨by simp,.inl ⟨_,_,rfl,run_takeDeferred hK,?_⟩⟩;have hk4:=AG (S:=[w2.heap.size+1]) W (.deferred none) (l:=w2.heap.size+1) bA;have e2:=(HX.o.c2.keeps hk4 bG).cell 0;have e3:=(h2.keeps hk4 bG).cell 0;simp only [An,Aj,FZ] at e2 e3;refine⟨.tuple #[pF none 0 0,.iface 182 (pH #[pE pK k])],by simp [results,results33,go_sem,e2,e3],?_⟩;unfold Ly;rw [h1];exact⟨rfl,HX.o.kw.own hk4 (fun g hg=>by simp only [Ac,Ab,or_false] at hg;omega)⟩
def Ic(s:ByteArray)(w:World)(x:Ending)(w':World):Prop:=match Ce s.data.toList with
 | .error k=>x = pJ (.tuple #[pF none 0 0,pE pK k])/\Aa [] w w'
 | .ok l=>∃a c,x = pJ (.tuple #[pF a l.length c,pE pK 0])/\Kv w' a c (l.map Dk)/\Aa [] w w'
def rL(s:ByteArray)(w:World)(x:Ending)(w':World):Prop:=match Ce s.data.toList with
 | .error k=>x = pJ (.tuple #[pF none 0 0,pE pK k])/\Aa [] w w'
 | .ok l=>∃a c,x = pJ (.tuple #[pF a l.length c,pE pK 0])/\Kv w' a c (l.map Dk)/\(∀g o,a=some ⟨g,o,none⟩->w.heap.size<=g)/\Aa [] w w'
theorem rT(s:ByteArray)(hs:s.size<=1000000)(w:World)(hE:Et w):Calls prog 11 #[Dz s] w (rL s w):=by
 have HE:=lH hE;clear hE;go_enter func11,ntmps11;go_wp2_with fail;refine(WZ s hs w).mono ?_;intro x w1 hx;unfold Ly at hx;cases hsp:Ce s.data.toList with
 | error k=>
  rw [hsp] at hx;obtain⟨rfl,hk⟩:=hx;have HK:=lH hk;have HSP:=lH hsp;clear hk hsp;simp only [FZ];go_wp2_with fail;refine(ErO.told_why k _ (HE.o.keeps HK.o bA)).mono ?_;rintro e w2 ⟨rfl,hk⟩;have HK2:=lH (HK.o.trans hk);clear hk;go_wp2;go_ret2;unfold rL;rw [HSP.o];exact⟨rfl,HK2.o⟩
 | ok l=>
  rw [hsp] at hx;obtain⟨a,c,rfl,hm,hfr,hk⟩:=hx;have B:=lH hfr;obtain⟨n,hn⟩:=eX l.length;rw [hn];have HN:=lH hn;have HM:=lH hm;have HK:=lH hk;have HSP:=lH hsp;clear hk hsp hm hn hfr;go_wp2_with fail;refine(ErO.told_nil _).mono ?_;rintro e w2 ⟨rfl,hk⟩;have D:=lH (HM.o.keeps hk);have HK2:=lH (HK.o.trans hk);clear hk;go_wp2;go_ret2;unfold rL;rw [HSP.o];exact⟨a,c,by rw [HN.o];rfl,D.o,B.o,HK2.o⟩
theorem Gr(s:ByteArray)(hs:s.size<=1000000)(w:World)(hE:Et w):Calls prog 11 #[Dz s] w (Ic s w):=
 (rT s hs w hE).mono fun x w' h=>by
  unfold rL at h;unfold Ic;split at h
  ·exact h
  ·obtain⟨a,c,h1,h2,_,h4⟩:=h
   exact⟨a,c,h1,h2,h4⟩
theorem Zo{α:Type}{l:List α}{x:α}(h : []++[x] <+: l):l.head? = some x:=by
 obtain⟨t,rfl⟩:=h;rfl
theorem Pz(f:Value)(w:World)(hf:∃a b c,f = .func a b c):Calls prog 127 #[f] w fun r w'=>r = pJ (.func (.func 165) #[] #[pG (some (A_ w 0))])/\w.alloc (.cells #[f] 251)=w':=by
 obtain⟨a,b,c,rfl⟩:=hf;go_enter func127,ntmps127;go_wp2;go_ret;exact⟨rfl,rfl⟩
structure jI(w:World)(s:ByteArray)(tb:Nat)(A:World):Prop where
 ww:Blk A w.heap.size 9 #[Dz s]
 c2:Blk A (w.heap.size+1) 3 #[pE pK 0]
 c3:Blk A (w.heap.size+1+1) 48 #[pE pK 0]
 tb:Blk A tb 251 #[.func (.func 184) #[] #[pG (some ⟨w,0,none⟩)]]
 kw:Aa [] w A
 vt:Er A
theorem jI.keeps{w:World}{s:ByteArray}{tb:Nat}{A A':World}{S:List Nat}(h:jI w s tb A)(hk:Aa S A A')(hS:∀y∈S,tb<y)(ht:w.heap.size+2<tb)(hg:1<w.heap.size):jI w s tb A':=
 have hn:∀y,y<=tb->y∉S:=fun y hy hm=>by have:=hS y hm;omega
 ⟨h.ww.keeps hk (hn _ bB),h.c2.keeps hk (hn _ bB),h.c3.keeps hk (hn _ bB),h.tb.keeps hk (hn _ bB),h.kw.own hk bM,h.vt.keeps hk (hn _ bB)⟩
structure lB(w:World)(s:ByteArray)(A:World):Prop where
 run:∃n:Int,verbR s=(n,0)∧Blk A (w.heap.size+1) 3 #[pE pK n]
 c3:Blk A (w.heap.size+1+1) 48 #[pE pK 0]
 kw:Aa [] w A
theorem lB.keeps{w:World}{s:ByteArray}{A B:World}{S:List Nat}(h:lB w s A)(hk:Aa S A B)(hS:∀y∈S,w.heap.size+2<y):lB w s B:=by
 obtain⟨n,h1,h2⟩:=h.run;have hn:∀y,y<=w.heap.size+2->y∉S:=fun y hy hm=>by have:=hS y hm;omega
 exact⟨⟨n,h1,h2.keeps hk (hn _ bB)⟩,h.c3.keeps hk (hn _ bB),h.kw.own hk bM⟩
theorem XB(s:ByteArray)(w:World)(hv:Er w):Calls prog 158 #[Dz s] w fun x w'=>x = pJ (.tuple #[pE pK (verbR s).1,I_ (verbR s).2])/\Aa [] w w':=by
 refine(callsIn_wide (n:=9)).1 ?_;have O:1<w.heap.size:=Be w _ (hv 0 _ rfl);have Y:=lH hv;clear hv;refine callsIn_of_wp_marks func158 rfl trivial ?_ rfl;simp only [ntmps158,Cz,Av,D4,pL,pM,Bt,Bu,Cd,BD,BH,AL];gi_wp2_with fail;refine⟨trivial,(callsIn_wide.2 (Pz _ _ ⟨_,_,_,rfl⟩)).mono ?_⟩;rintro e w1 ⟨rfl,hw1⟩;gi_wp2_with fail;have hsz:w1.heap.size=w.heap.size+4:=by rw [<- hw1];simp
 have U:jI w s (w+1+1+1) w1:=by
  have hk:Aa [] w w1:=by rw [<- hw1];exact((((Aa.refl [] w).alloc _).alloc _).alloc _).alloc _
  refine⟨?_,?_,?_,?_,hk,Y.o.keeps hk bA⟩<;>rw [<- hw1]
  ·exact(((Blk.new w _ _).alloc _).alloc _).alloc _
  ·exact((Ar _ _ _ _ bA).alloc _).alloc _
  ·exact(Ar _ _ _ _ bA).alloc _
  ·exact Ar _ _ _ _ bA
 have X:=lH U;clear U hw1;refine Cc rfl bB (gf:=165) (lb:=#[pG (some (A3 w 0))]) rfl trivial (enters_of func165 bC rfl) (Xj 8 (w+1+1+1) w s) (fun _=>rfl)
  (fun F A=>F = []/\jI w s (w+1+1+1) A) (fun _ A=>lB w s A)
  (fun F A A' h hk=>⟨h.1,h.2.keeps hk bF bB O⟩)
  (fun F A A' h hk=>h.keeps hk bF)
  (fun F A h=>⟨h.2.vt,by simpa using h.2.tb.cell 0,by simpa using h.2.ww.cell 0⟩) ⟨rfl,X.o⟩
  (fun x W=>({ tmps:=#[Dz s,p_ w 0,p1 w 0,p2 w 0,p_ W 0,.func (.func 184) #[] #[pG (some (A_ w 0))],
     .func (.func 165) #[] #[pG (some (A3 w 0))],pH #[pE pK x.1,Dz ⟨x.2.1.toArray⟩,I_ (x.2.2:Nat)],UD,UD],defers:=[] },W.alloc (.cells #[pE pK x.1,Dz ⟨x.2.1.toArray⟩,I_ (x.2.2:Nat)] 253)))
  (fun x W=>(Aa.refl [] W).alloc _) ?assign ?body ?done ?stop
 case assign=>
  rintro l ⟨T,vw,vs⟩ W K hK;simp only [Mh,My];gi_wp2;exact hK
 case body=>
  rintro l F ⟨T,vw,vs⟩ W W2 ⟨rfl,hI⟩ D J hk2;dsimp only at hk2 ⊢;have B:verbR s=(T,0):=by
   have h1:=Zo D;rw [List.head?_filter] at h1;unfold verbR;rw [h1]
  have E:=(hI.keeps ((Aa.refl [] W).alloc (.cells #[pE pK T,Dz ⟨vw.toArray⟩,I_ (vs:Nat)] 253)) bA bB O).keeps hk2 bF bB O;have hb:=(Blk.new W 253 #[pE pK T,Dz ⟨vw.toArray⟩,I_ (vs:Nat)]).keeps hk2 bI;have d0:=hb.ce 0;have q2:=E.c2.ce 0;have q3:=E.c3.ce 0;have f2:=E.c2.frozen 0;have f3:=E.c3.frozen 0;have ah:W.heap.size<=W2.heap.size:=by have:=hk2.size;rw [Eo] at this;omega
  have N:=lH E;have M:=lH B;clear hI D hk2 E hb B;gi_wp2;have hk3:Aa [w.heap.size+1,w.heap.size+1+1] W2 ((W2.setCell (A1 w 0) (I_ T)).setCell (A2 w 0) (I_ 0)):=((Aa.refl _ W2).setCell (p:=A1 w 0) (.inl bA) _).setCell (p:=A2 w 0) (.inl bA) _;refine⟨hk3.size,fun y hy=>hk3.block y gB iT,⟨T,M.o,?_⟩,?_,N.o.kw.own hk3 bF⟩
  ·exact(N.o.c2.set_ 0 (I_ T)).far bA _
  ·exact(N.o.c3.far bA _).set_ 0 (I_ 0)
 case done=>
  rintro W ⟨D,hI⟩ J hK;have B:verbR s=(0,121):=by
   unfold verbR;have:B7.find? (fun v=>v.2.1==s.data.toList)=none:=by
    rw [List.find?_eq_none];intro x hx hp;have:x∈B7.filter (fun v=>v.2.1==s.data.toList):=List.mem_filter.2 ⟨hx,hp⟩;rw [D] at this;cases this
   rw [this]
  have q2:=hI.c2.ce 0;have q3:=hI.c3.ce 0;have f2:=hI.c2.frozen 0;have f3:=hI.c3.frozen 0;have HI:=lH hI;have M:=lH B;clear hI B D;gi_wp2;obtain⟨WF,G⟩:=eX ((W.setCell (A1 w 0) (I_ 0)).setCell (A2 w 0) (I_ 121));have hk3:Aa [w.heap.size+1,w.heap.size+1+1] W WF:=by rw [<- G];exact((Aa.refl _ W).setCell (p:=A1 w 0) (.inl bA) _).setCell (p:=A2 w 0) (.inl bA) _
  have d2:Blk WF (w+1) 3 #[pE pK 0]:=by rw [<- G];exact(HI.o.c2.set_ 0 (I_ 0)).far bA _
  have d3:Blk WF (w+1+1) 48 #[pE pK 121]:=by rw [<- G];exact(HI.o.c3.far bA _).set_ 0 (I_ 121)
  rw [G];have ac:WF.heap[w1.heap.size]? = some (.deferred (some [])):=(hk3.block _ bB bI).trans hK;refine⟨by simp,.inl ⟨_,_,rfl,run_takeDeferred ac,?_⟩⟩;have hk4:=AG (S:=[w1.heap.size]) WF (.deferred none) (l:=w1.heap.size) bA;have e2:=(d2.keeps hk4 bG).ce 0;have e3:=(d3.keeps hk4 bG).ce 0;refine⟨.tuple #[pE pK 0,I_ 121],by simp [results,results158,go_sem,e2,e3],?_⟩;rw [M.o];exact⟨rfl,(HI.o.kw.own hk3 bF).own hk4 bF⟩
 case stop=>
  rintro F W D hX J hK;obtain⟨n,h1,h2⟩:=hX.run;have HX:=lH hX;clear hX;gi_wp2;refine⟨by simp,.inl ⟨_,_,rfl,run_takeDeferred hK,?_⟩⟩;have hk4:=AG (S:=[w1.heap.size]) W (.deferred none) (l:=w1.heap.size) bA;have e2:=(h2.keeps hk4 bG).ce 0;have e3:=(HX.o.c3.keeps hk4 bG).ce 0;refine⟨.tuple #[pE pK n,I_ 0],by simp [results,results158,go_sem,e2,e3],?_⟩;rw [h1];exact⟨rfl,HX.o.kw.own hk4 bF⟩
def KU(met:List ByteArray)(o:GF):Bool:=decide (o≠⟨⟨#[]⟩,0⟩)&&!decide (o.name∈met)
theorem OE(A B:List GF):∀(met:List ByteArray),Cn met (A++B)=(Cn met A&&Cn (met++A.map (·.name)) B):=by
 induction A with
 | nil=>intro met;simp [Cn]
 | cons o A ih=>intro met;simp [Cn,ih,EJ]
theorem Ml{L:List GF}{k:Nat}{o:GF}(h:L[k]? = some o):Cn [] (L.take (k+1))=(Cn [] (L.take k)&&KU ((L.take k).map (·.name)) o):=by
 rw [A0 h,OE];simp [Cn,KU]
theorem Nz{L:List GF}{k:Nat}{o:GF}(h:L[k]? = some o)(hb:KU ((L.take k).map (·.name)) o=false):Cn [] L=false:=by
 have e:L=L.take (k+1)++L.drop (k+1):=(Dn _ _).symm;rw [e,OE,Ml h,hb];simp
theorem iB(a b:ByteArray)(x y:Int)(w:World):(binOp .eql 40 (pH #[Dz a,I_ x]) (pH #[Dz b,I_ y])).run prog w = .ok (pI (decide (a=b)&&decide (x=y))) w:=by
 have hS:prog.underlying 40=some (.struct (prog.fieldsOf 40)):=bC;have hp:prog.stoodInHeld 40=false:=bC;rw [run_eql_struct,show(10000:Nat)=9999+1 from rfl,run_equalIn_agg w 9999 40 _ _ hS hp];simp only [CK,underlying40];go_simp;by_cases h1:a=b
 ·subst h1
  by_cases h2:x=y<;>simp [h2]
 ·have:¬a.toList=b.toList:=fun e=>h1 (by
   rw [ED,ED] at e;obtain⟨⟨l⟩⟩:=a;obtain⟨⟨m⟩⟩:=b;have B:l=m:=e;rw [B])
  simp [h1,this]
theorem Un{w:World}{b:Nat}{met:List ByteArray}(h:DV Dz w b met)(k:ByteArray):(Ed 151 (.map (some b)) (Dz k) false).run prog w = .ok (pI (decide (k∈met))) w:=
 by
 have h1:=h.look RZ underlying151 underlying9 bC k;rw [h1];have h2:∀(p:Prop) (i j:Decidable p),@decide p i = @decide p j:=fun p i j=>decide_eq_decide.2 Iff.rfl;rw [h2]
theorem Ve{w:World}{b:Nat}{met:List ByteArray}(h:DV Dz w b met)(k:ByteArray)(hn:k∉met):∃o,(Instr.mapUpdate 151 (.map (some b)) (Dz k) (pI true)).run prog w = .ok () (w.putObj b o)/\DV Dz (w.putObj b o) b (met++[k]):=
 h.update RZ underlying151 underlying9 k hn
theorem Kg(a:Option Addr)(c:Nat)(L:List GF)(n:Nat)(hn:L.length=n)(hL:n<=1000000)(hs:∀o∈L,o.name.size<=maxLen)(b:Bool)(hb:G9 L=b)(w:World)(h:IE w a c L):
  Calls prog 29 #[pF a n c] w fun e w'=>e = pJ (pI b)/\Aa [] w w':=by
 have HH:=lH h;have HN:=lH hn;have HB:=lH hb;have HS:=lH hs;clear h hn hb hs;have an:=fun W=>run_makeMap (P:=prog) 151 W;have hgd:prog.eqGuardType prog.depth 40=false:=bC;have X:DV Dz ((w.alloc (.map #[] 0)).alloc (.cells #[Dz ⟨#[]⟩,I_ 0] 40)) w ([]:List ByteArray):=(DV.new w).keeps ((Aa.refl [] _).alloc _) bA;have Y:=Ar (w.alloc (.map #[] 0)) 40 #[Dz ⟨#[]⟩,I_ 0] (w+1) bA;have ad:=lH X;have ae:=lH Y;clear X Y;go_enter func29,ntmps29;go_wp2;go_loopw [11] (fun i wr=>∃k:Nat,i = I_ k/\k<=n/\Hi (Cn [] (L.take k)=true)/\Hi (DV Dz wr w ((L.take k).map (·.name)))/\Hi (Blk wr (w+1) 40 #[Dz ⟨#[]⟩,I_ 0])/\Hi (Aa [] w wr)) (fun i _=>n - (intOf i).toNat)
 case atStart=>exact⟨0,rfl,Ba _,lH rfl,ad,ae,lH (((Aa.refl [] w).alloc _).alloc _)⟩
 case round=>
  obtain⟨k,rfl,hk,HP,HST,af,HK⟩:=hrel;by_cases hlt:k<n
  ·obtain⟨g,off,⟨nm,J⟩,rfl,hg,hx,hat⟩:=HH.o.at_k (k:=k) bO
   have q0:=hat 0 (Dz nm) rfl;have q1:=hat 1 (I_ J) rfl;rw [AT] at q0;rw [<- HK.o.cell (p:=A_ g (off+k*2)) hg bA] at q0;rw [<- HK.o.cell (p:=A_ g (off+k*2+1)) hg bA] at q1;have i1:(0:Int)<=(k:Int):=bB;have i2:(k:Int)<(n:Int):=bB;have HX:=lH hx;have hk0:=(Aa.refl [] wr).alloc (.cells #[Dz nm,I_ J] 40);have B:=HST.o.keeps hk0 bA;have E:=Blk.new wr 40 #[Dz nm,I_ J];have d0:=E.ce 0;have d1:=E.ce 1;have F:=af.o.keeps hk0 bA;have n0:=F.ce 0;have n1:=F.ce 1;have hlk:=Un B nm;have ah:=fun W=>iB nm ⟨#[]⟩ J 0 W;obtain⟨y1,N⟩:=eX ((decide (nm=⟨#[]⟩)&&decide (J=0)));obtain⟨y2,G⟩:=eX (decide (nm∈(L.take k).map (·.name)));rw [G] at hlk;rw [N] at ah;have hst:KU ((L.take k).map (·.name)) ⟨nm,J⟩=(!y1&&!y2):=by
    unfold KU;rw [G]
    congr 1
    rw [<- N];by_cases h1:nm=⟨#[]⟩<;>by_cases h2:J=0<;>simp [h1,h2]
   have HOS:=lH hst;have HY2:=lH G;have HK0:=lH (HK.o.alloc (.cells #[Dz nm,I_ J] 40));have U:=lH B;have O:=lH F;have ak:=lH E;clear hat hg hx hk0 B E F N G hst;cases y1 with
   | true=>
    obtain rfl:b=false:=by rw [<- HB.o];unfold G9;rw [Nz HX.o lV];rfl
    go_wp2;go_ret;exact⟨rfl,HK0.o⟩
   | false=>
    cases y2 with
    | true=>
     obtain rfl:b=false:=by rw [<- HB.o];unfold G9;rw [Nz HX.o lV];rfl
     go_wp2;go_ret;exact⟨rfl,HK0.o⟩
    | false=>
     obtain⟨o,ao,D⟩:=Ve U.o nm (of_decide_eq_false HY2.o);have ag:Hi (Cn [] (L.take (k+1))=true):=lH (by rw [Ml HX.o,HP.o,HOS.o];rfl);have M:Hi (DV Dz ((wr.alloc (.cells #[Dz nm,I_ J] 40)).putObj w o) w ((L.take (k+1)).map (·.name))):=lH (by rw [A0 HX.o,pO];exact D);have T:=lH (O.o.keeps (Ec _ w o) bA);have HK2:=lH (HK0.o.own (Ec _ w o) bF);clear D;go_wp2;go_roundw;case rel=>exact⟨k+1,by go_num,by omega,ag,M,T,HK2⟩
     case measure=>simp [intOf];omega
  ·obtain rfl:k=n:=bB;have aa:Cn [] L=true:=by
    have:=HP.o
    rwa [Ak bL] at this
   obtain⟨y,hy⟩:=eX (L.all WC);have ab:b=(decide (k<=10)&&y):=by rw [<- HB.o];unfold G9;rw [aa,hy,HN.o];rfl
   have HBB:=lH ab;have HY:=lH hy;clear aa hy ab;by_cases h10:k<=10
   ·have i3:(k:Int)<=10:=bB;obtain rfl:b=y:=by rw [HBB.o,decide_eq_true h10];rfl
    have HF:=lH (Blk.new wr 153 XG);have HKF:=lH (HK.o.alloc (.cells XG 153));clear h10;go_wp2_with fail;refine(YW a c L k HN.o hL HS.o _ _ b HY.o _ (HH.o.keeps HKF.o) HF.o).mono ?_;rintro e w1 ⟨rfl,hk1⟩;have HK1:=lH (HKF.o.trans hk1);clear hk1;go_wp2;go_ret;exact⟨rfl,HK1.o⟩
   ·have i3:¬(k:Int)<=10:=bB;obtain rfl:b=false:=by rw [HBB.o,decide_eq_false h10];rfl
    clear h10;go_wp2;go_ret;exact⟨rfl,HK.o⟩
theorem G3(n l m:Int)(b:Bool)(hb:Em n l m=b)(w:World):Calls prog 178 #[pE pK n,I_ l,I_ m] w fun e w'=>e = pJ (pI b)/\w=w':=by
 obtain⟨B,h1⟩:=eX (decide (l<=n));unfold Em at hb;rw [h1] at hb;cases B with
 | false=>
  obtain rfl:b=false:=by rw [<- hb];rfl
  have f1:decide (n≥l)=false:=h1;clear hb h1;go_enter func178,ntmps178;go_wp2;go_ret;exact⟨rfl,rfl⟩
 | true=>
  obtain rfl:decide (n<=m)=b:=by rw [<- hb];rfl
  have f1:decide (n≥l)=true:=h1;clear hb h1;go_enter func178,ntmps178;go_wp2;go_ret;exact⟨rfl,rfl⟩
theorem Kf(k:ByteArray)(b:Bool)(hb:Ns k=b)(w:World):Calls prog 179 #[Dz k] w fun e w'=>e = pJ (pI b)/\w=w':=by
 obtain⟨B,h1⟩:=eX (decide (1<=k.size));unfold Ns at hb;rw [h1] at hb;cases B with
 | false=>
  obtain rfl:b=false:=by rw [<- hb];rfl
  have f1:decide ((k.size:Int)≥1)=false:=decide_eq_false (by have:=of_decide_eq_false h1;omega);clear hb h1;go_enter func179,ntmps179;go_wp2;go_ret;exact⟨rfl,rfl⟩
 | true=>
  obtain rfl:decide (k.size<=64)=b:=by rw [<- hb];rfl
  have f1:decide ((k.size:Int)≥1)=true:=decide_eq_true (by have:=of_decide_eq_true h1;omega);have D:decide ((k.size:Int)<=64)=decide (k.size<=64):=decide_eq_decide.2 bB;clear hb h1;go_enter func179,ntmps179;go_wp2;go_ret;exact⟨rfl,rfl⟩
def SB(c:El):Bool:=decide (0<=c.from_)&&(decide (c.from_<c.to_)&&decide (c.to_<=1000000000000))
theorem cD(c:El):IR c=(Em c.id 1 1000000000&&Ns c.key&&SB c):=by unfold IR Em SB;simp only [EJ]
theorem Y8(c:El)(b:Bool)(hb:Em c.id 1 1000000000=b)(w:World):Calls prog 143 #[pH #[pE pK c.id,Dz c.key,I_ c.from_,I_ c.to_]] w fun e w'=>e = pJ (pI b)/\Aa [] w w':=by
 have HB:=lH hb;have HK:=lH ((Aa.refl [] w).alloc (.cells #[pE pK c.id,Dz c.key,I_ c.from_,I_ c.to_] 277));clear hb;go_enter func143,ntmps143;go_wp2_with fail;refine(G3 _ _ _ b HB.o _).mono ?_;rintro e w1 ⟨rfl,rfl⟩;go_wp2;go_ret;exact⟨rfl,HK.o⟩
theorem Wm(c:El)(b:Bool)(hb:Ns c.key=b)(w:World):Calls prog 144 #[pH #[pE pK c.id,Dz c.key,I_ c.from_,I_ c.to_]] w fun e w'=>e = pJ (pI b)/\Aa [] w w':=by
 have HB:=lH hb;have HK:=lH ((Aa.refl [] w).alloc (.cells #[pE pK c.id,Dz c.key,I_ c.from_,I_ c.to_] 277));clear hb;go_enter func144,ntmps144;go_wp2_with fail;refine(Kf _ b HB.o _).mono ?_;rintro e w1 ⟨rfl,rfl⟩;go_wp2;go_ret;exact⟨rfl,HK.o⟩
theorem TG(c:El)(b:Bool)(hb:SB c=b)(w:World):Calls prog 145 #[pH #[pE pK c.id,Dz c.key,I_ c.from_,I_ c.to_]] w fun e w'=>e = pJ (pI b)/\Aa [] w w':=by
 have HK:=lH ((Aa.refl [] w).alloc (.cells #[pE pK c.id,Dz c.key,I_ c.from_,I_ c.to_] 277));obtain⟨i,k,x,y⟩:=c;dsimp only at hb HK ⊢;unfold SB at hb;dsimp only at hb;obtain⟨b1,h1⟩:=eX (decide (0<=x));obtain⟨B,h2⟩:=eX (decide (x<y));rw [h1,h2] at hb;have f1:decide (x≥0)=b1:=h1;clear h1;cases b1<;>cases B<;>simp only [Ep,DJ] at hb<;>
 ·subst hb
  go_enter func145,ntmps145;go_wp2;go_ret;exact⟨rfl,HK.o⟩
def Vy:Array Value:=#[.func (.func 143) #[] #[],.func (.func 144) #[] #[],.func (.func 145) #[] #[]]
theorem Rn(a:Option Addr)(c:Nat)(L:List El)(n:Nat)(hn:L.length=n)(hL:n<=1000000)(fb:Nat)(ty:TypeId)(b:Bool)(hb:L.all IR=b)(w:World)(h:AR BT 4 w a c L)(hf:Blk w fb ty Vy):
  Calls prog 142 #[pF a n c,pF (some (A_ fb 0)) 3 3] w fun e w'=>e = pJ (pI b)/\Aa [] w w':=by
 have HH:=lH h;have HN:=lH hn;have HB:=lH hb;have HF:=lH hf;clear h hn hb hf;go_enter func142,ntmps142;go_wp2;go_loopw [11] (fun i wr=>∃k:Nat,i = I_ k/\k<=n/\Hi ((L.take k).all IR=true)/\Hi (Aa [] w wr)) (fun i _=>n - (intOf i).toNat)
 case atStart=>exact⟨0,rfl,Ba _,lH rfl,lH (Aa.refl _ _)⟩
 case round=>
  obtain⟨k,rfl,hk,HP,HK⟩:=hrel;by_cases hlt:k<n
  ·obtain⟨g,off,⟨E,F,G,J⟩,rfl,hg,hx,hat⟩:=HH.o.at_k (k:=k) bO
   have q0:=hat 0 (I_ E) rfl;have q1:=hat 1 (Dz F) rfl;have q2:=hat 2 (I_ G) rfl;have q3:=hat 3 (I_ J) rfl;rw [AT] at q0;rw [<- HK.o.cell (p:=A_ g (off+k*4)) hg bA] at q0;rw [<- HK.o.cell (p:=A_ g (off+k*4+1)) hg bA] at q1;rw [<- HK.o.cell (p:=A_ g (off+k*4+2)) hg bA] at q2;rw [<- HK.o.cell (p:=A_ g (off+k*4+3)) hg bA] at q3;have i1:(0:Int)<=(k:Int):=bB;have i2:(k:Int)<(n:Int):=bB;obtain⟨b1,hb1⟩:=eX (Em (El.mk E F G J).id 1 1000000000);obtain⟨b2,hb2⟩:=eX (Ns (El.mk E F G J).key);obtain⟨b3,aa⟩:=eX (SB ⟨E,F,G,J⟩);have hp:IR ⟨E,F,G,J⟩=(b1&&b2&&b3):=by rw [<- hb1,<- hb2,<- aa];exact cD _
   have HX:=lH hx;have HPX:=lH hp;have H1:=lH hb1;have H2:=lH hb2;have H3:=lH aa;have hk0:=HK.o.alloc (.cells #[pE pK E,Dz F,I_ G,I_ J] 194);have ac:=Blk.new wr 194 #[pE pK E,Dz F,I_ G,I_ J];have ad:=HF.o.keeps hk0 bA;have HK0:=lH hk0;have B:=lH ac;have D:=lH ad;clear hat hg hx hp hb1 hb2 aa hk0 ac ad;go_wp2;refine wp_loop_rounds 4 ?_;rw [rounds_succ];have U:=D.o.cell 0;have X:=D.o.cell 1;have Y:=D.o.cell 2;have M:=B.o.cell 0;have N:=B.o.cell 1;have O:=B.o.cell 2;have T:=B.o.cell 3;simp only [Vy,An,Aj,Ao] at U X Y M N O T;go_wp2_with fail;refine(Y8 ⟨E,F,G,J⟩ b1 H1.o _).mono ?_;rintro e w1 ⟨rfl,hk1⟩;clear U X Y M N O T q0 q1 q2 q3;have D:=lH (D.o.keeps hk1 bA);have B:=lH (B.o.keeps hk1 bA);have HK1:=lH (HK0.o.trans hk1);clear hk1;cases b1 with
   | false=>
    obtain rfl:b=false:=by rw [<- HB.o];exact Ih HX.o jZ
    go_wp2;go_ret;exact⟨rfl,HK1.o⟩
   | true=>
    go_wp2_with fail;rw [rounds_succ];have U:=D.o.cell 0;have X:=D.o.cell 1;have Y:=D.o.cell 2;have M:=B.o.cell 0;have N:=B.o.cell 1;have O:=B.o.cell 2;have T:=B.o.cell 3;simp only [Vy,An,Aj,Ao] at U X Y M N O T;go_wp2_with fail;refine(Wm ⟨E,F,G,J⟩ b2 H2.o _).mono ?_;rintro e w2 ⟨rfl,hk2⟩;clear U X Y M N O T;have D:=lH (D.o.keeps hk2 bA);have B:=lH (B.o.keeps hk2 bA);have HK2:=lH (HK1.o.trans hk2);clear hk2;cases b2 with
    | false=>
     obtain rfl:b=false:=by rw [<- HB.o];exact Ih HX.o jZ
     go_wp2;go_ret;exact⟨rfl,HK2.o⟩
    | true=>
     go_wp2_with fail;rw [rounds_succ];have U:=D.o.cell 0;have X:=D.o.cell 1;have Y:=D.o.cell 2;have M:=B.o.cell 0;have N:=B.o.cell 1;have O:=B.o.cell 2;have T:=B.o.cell 3;simp only [Vy,An,Aj,Ao] at U X Y M N O T;go_wp2_with fail;refine(TG ⟨E,F,G,J⟩ b3 H3.o _).mono ?_;rintro e w3 ⟨rfl,hk3⟩;clear U X Y M N O T;have ab:=lH (HK2.o.trans hk3);clear hk3;cases b3 with
     | false=>
      obtain rfl:b=false:=by rw [<- HB.o];exact Ih HX.o jZ
      go_wp2;go_ret;exact⟨rfl,ab.o⟩
     | true=>
      have af:Hi ((L.take (k+1)).all IR=true):=lH (by rw [Kz HX.o,HP.o,HPX.o];rfl);go_wp2_with fail;rw [rounds_succ];go_wp2;go_roundw;case rel=>exact⟨k+1,by go_num,by omega,af,ab⟩
      case measure=>simp [intOf];omega
  ·obtain rfl:k=n:=bB;obtain rfl:b=true:=by rw [<- HB.o,<- HP.o,Ak bL]
   go_wp2;go_ret;exact⟨rfl,HK.o⟩
def Jb(a:Int):Bool:=decide (0<=a)&&decide (a<=4294967295)
theorem Nk(a:Int)(b:Bool)(hb:Jb a=b)(w:World):Calls prog 225 #[pE pK a] w fun e w'=>e = pJ (pI b)/\w=w':=by
 obtain⟨b1,h1⟩:=eX (decide (0<=a));unfold Jb at hb;rw [h1] at hb;have f1:decide (a≥0)=b1:=h1;clear h1;cases b1<;>simp only [Ep,DJ] at hb<;>
 ·subst hb
  go_enter func225,ntmps225;go_wp2;go_ret;exact⟨rfl,rfl⟩
theorem Z6(n:Nat):wrap64 (wrap64 ((2:Int) ^ (32 - n)) - 1)=((2 ^ (32 - n) - 1:Nat):Int):=by
 have h1:(2:Int) ^ (32 - n)=((2 ^ (32 - n):Nat):Int):=bA;have h2:2 ^ (32 - n)<=2 ^ 32:=Nat.pow_le_pow_right bE bB;have h3:1<=2 ^ (32 - n):=Nat.one_le_two_pow;rw [h1];generalize 2 ^ (32 - n)=x at h2 h3 ⊢;have h4:(2:Nat) ^ 32=4294967296:=bE;have e1:wrap64 (x:Int)=(x:Int):=IntWalk.wrap64_in _ ⟨by omega,by omega⟩;rw [e1,IntWalk.wrap64_in _ ⟨by omega,by omega⟩];omega
theorem Z5(a:Int)(n:Nat)(hn:n<=32)(w:World):Calls prog 226 #[pH #[pE pK a,I_ (n:Int)]] w fun e w'=>e = pJ (I_ ((2 ^ (32 - n) - 1:Nat):Int))/\Aa [] w w':=by
 have HK:=lH ((Aa.refl [] w).alloc (.cells #[pE pK a,I_ (n:Int)] 352));have hw:IntKind.i64.wrap (32 - (n:Int))=((32 - n:Nat):Int):=by rw [show 32 - (n:Int)=((32 - n:Nat):Int) by omega];exact IntWalk.i64_in _ bB
 go_enter func226,ntmps226;go_wp2;go_ret;exact⟨by rw [Z6];rfl,HK.o⟩
theorem MJ(a b:Nat)(B:a<9223372036854775808)(hb:b<9223372036854775808):bits .and .i64 (a:Int) (b:Int)=((a &&& b:Nat):Int):=by
 have hx:a &&& b<2 ^ 63:=Nat.and_lt_two_pow _ bB;have h1:(BitVec.ofInt 64 (a:Int)).toNat=a:=by
  rw [BitVec.ofInt_natCast,BitVec.toNat_ofNat];exact Nat.mod_eq_of_lt bB
 have h2:(BitVec.ofInt 64 (b:Int)).toNat=b:=by
  rw [BitVec.ofInt_natCast,BitVec.toNat_ofNat];exact Nat.mod_eq_of_lt bB
 show IntKind.i64.wrap ((BitVec.ofInt 64 (a:Int) &&& BitVec.ofInt 64 (b:Int)).toNat:Int)=_;rw [BitVec.toNat_and,h1,h2];exact IntWalk.i64_in _ bB
theorem V5(a b:Nat)(B:a<9223372036854775808)(hb:b<9223372036854775808):bits .or .i64 (a:Int) (b:Int)=((a ||| b:Nat):Int):=by
 have hx:a ||| b<2 ^ 63:=Nat.or_lt_two_pow bB bB
 have h1:(BitVec.ofInt 64 (a:Int)).toNat=a:=by
  rw [BitVec.ofInt_natCast,BitVec.toNat_ofNat];exact Nat.mod_eq_of_lt bB
 have h2:(BitVec.ofInt 64 (b:Int)).toNat=b:=by
  rw [BitVec.ofInt_natCast,BitVec.toNat_ofNat];exact Nat.mod_eq_of_lt bB
 show IntKind.i64.wrap ((BitVec.ofInt 64 (a:Int) ||| BitVec.ofInt 64 (b:Int)).toNat:Int)=_;rw [BitVec.toNat_or,h1,h2];exact IntWalk.i64_in _ bB
theorem Yu(a:Int)(n:Nat)(h0:0<=a)(h1:a<=4294967295):(bits BinOp.and pK a ((2 ^ (32 - n) - 1:Nat):Int)==0)=decide (a.toNat % 2 ^ (32 - n)=0):=by
 obtain⟨x,rfl⟩:∃x:Nat,a=x:=⟨a.toNat,by omega⟩;have h2:2 ^ (32 - n)<=2 ^ 32:=Nat.pow_le_pow_right bE bB;rw [MJ _ _ bB bB,Nat.and_two_pow_sub_one_eq_mod,pW,DI,beq_iff_eq,decide_eq_true_iff];generalize x % 2 ^ (32 - n)=y;omega
theorem TD(a:Int)(n:Nat)(hn:n<=32)(h0:0<=a)(h1:a<=4294967295)(b:Bool)(hb:decide (a.toNat % 2 ^ (32 - n)=0)=b)(w:World):Calls prog 207 #[pH #[pE pK a,I_ (n:Int)]] w fun e w'=>e = pJ (pI b)/\Aa [] w w':=by
 have HK:=lH ((Aa.refl [] w).alloc (.cells #[pE pK a,I_ (n:Int)] 352));have D:=Blk.new w 352 #[pE pK a,I_ (n:Int)];obtain⟨wz,hwz⟩:=eX (w.alloc (.cells #[pE pK a,I_ (n:Int)] 352));rw [hwz] at D HK;have HS:Hi (∀W,Aa [] wz W->Aa [] wz W/\W.cell? (A_ w 0)=some (I_ a)/\W.cell? (A_ w 1)=some (I_ (n:Int))):=lH fun W hk=>⟨hk,(D.keeps hk bA).cell 0,(D.keeps hk bA).cell 1⟩;clear D;go_enter func207,ntmps207;go_wp2;clear hwz;refine wp_region_held_drew (S:=(fun w':World=>Aa [] wz w'/\w'.cell? (A_ w 0)=some (I_ a)/\w'.cell? (A_ w 1)=some (I_ (n:Int)))) bC (by((try dsimp only);(first | exact HS.o _ ((Aa.refl [] wz).drew) | exact HS.o _ (hHeld.1.trans B)))) (fun hHeld=>?_);refine rQ 0 ?_;refine rQ 1 ?_;refine rQ 2 ?_;refine rQ 3 ?_;refine rC 4 fun K hK=>?_;go_simp;refine(Z5 a n hn _).mono ?_;rintro r wb ⟨rfl,B⟩;refine rO hK (by((try dsimp only);(first | exact HS.o _ ((Aa.refl [] wz).drew) | exact HS.o _ (hHeld.1.trans B)))) fun hHeld=>?_;clear hK K;refine rQ 5 ?_;refine rQ 6 ?_;refine rQ 7 ?_;refine wpAnyH_done bC ?_ _
 (go_wp2;go_ret;exact⟨Jv (by rw [Yu a n h0 h1];exact hb),HK.o.trans (by first | exact(((Aa.refl [] wz).drew).trans B) | exact((Aa.refl [] wz).trans B))⟩)
theorem RN(a n:Int)(b:Bool)(hb:(decide (0<=n)&&(decide (n<=32)&&Jb a))=b)(w:World):Calls prog 206 #[pH #[pE pK a,I_ n]] w fun e w'=>e = pJ (pI b)/\Aa [] w w':=by
 have HK:=lH ((Aa.refl [] w).alloc (.cells #[pE pK a,I_ n] 352));obtain⟨b1,h1⟩:=eX (decide (0<=n));obtain⟨D,h2⟩:=eX (decide (n<=32));obtain⟨E,h3⟩:=eX (Jb a);rw [h1,h2,h3] at hb;have f1:decide (n≥0)=b1:=h1;have B:=lH h3;clear h1 h3;cases b1<;>cases D<;>simp only [Ep,DJ] at hb
 ·subst hb
  go_enter func206,ntmps206;go_wp2;go_ret;exact⟨rfl,HK.o⟩
 ·subst hb
  go_enter func206,ntmps206;go_wp2;go_ret;exact⟨rfl,HK.o⟩
 ·subst hb
  go_enter func206,ntmps206;go_wp2;go_ret;exact⟨rfl,HK.o⟩
 ·subst hb
  go_enter func206,ntmps206;go_wp2_with fail;refine(Nk a E B.o _).mono ?_;rintro e w1 ⟨rfl,rfl⟩;go_wp2;go_ret;exact⟨rfl,HK.o⟩
def XF:Array Value:=#[.func (.func 206) #[] #[],.func (.func 207) #[] #[]]
theorem Ke(a n:Int)(b:Bool)(hb:FI a n=b)(w:World):Calls prog 176 #[pH #[pE pK a,I_ n]] w fun e w'=>e = pJ (pI b)/\Aa [] w w':=by
 obtain⟨wz,hwz⟩:=eX ((w.alloc (.cells #[pE pK a,I_ n] 55)).alloc (.cells XF 350));have HK0:Hi (Aa [] w wz):=lH lY;have HB0:Hi (Blk wz w 55 #[pE pK a,I_ n]):=lH kI;have HB1:Hi (Blk wz (w+1) 350 XF):=lH aF;obtain⟨M,h1⟩:=eX ((decide (0<=n)&&(decide (n<=32)&&Jb a)));have F:FI a n=(M&&decide (a.toNat % 2 ^ (32 - n.toNat)=0)):=by rw [<- h1];unfold FI Jb;simp only [EJ]
 rw [F] at hb;have N:=lH h1;have HB:=lH hb;have G:=HB1.o.cell 0;have J:=HB1.o.cell 1;have D:=HB0.o.cell 0;have E:=HB0.o.cell 1;simp only [XF,An,Aj,Ao] at G J D E;simp only [XF] at hwz;clear h1 F hb;go_enter func176,ntmps176;go_wp2;refine wp_loop_rounds 3 ?_;rw [rounds_succ];go_wp2_with fail;refine(RN a n M N.o _).mono ?_;rintro e w1 ⟨rfl,hk1⟩;have HK1:=lH (HK0.o.trans hk1);have hb0:=HB0.o.keeps hk1 bA;have hb1:=HB1.o.keeps hk1 bA;clear G J D E hk1 hwz;cases M with
 | false=>
  obtain rfl:b=false:=by rw [<- HB.o];rfl
  go_wp2;go_ret;exact⟨rfl,HK1.o⟩
 | true=>
  have hr:=N.o;unfold Jb at hr;simp only [Af,decide_eq_true_eq] at hr;obtain⟨m,rfl⟩:∃m:Nat,n=m:=⟨n.toNat,by omega⟩;have HBB:Hi (decide (a.toNat % 2 ^ (32 - m)=0)=b):=lH (by rw [<- HB.o,DJ,pW]);have B:=lH hr;have G:=hb1.cell 0;have J:=hb1.cell 1;have D:=hb0.cell 0;have E:=hb0.cell 1;simp only [XF,An,Aj,Ao] at G J D E;clear hb0 hb1 hr;go_wp2_with fail;rw [rounds_succ];go_wp2_with fail;refine(TD a m (by have:=B.o;omega) (by have:=B.o;omega) (by have:=B.o;omega) b HBB.o _).mono ?_;rintro e w2 ⟨rfl,hk2⟩;have HK2:=lH (HK1.o.trans hk2);clear hk2 G J D E;cases b with
  | false=>
   go_wp2;go_ret;exact⟨rfl,HK2.o⟩
  | true=>
   go_wp2_with fail;rw [rounds_succ];go_wp2;go_ret;exact⟨rfl,HK2.o⟩
theorem WH(x y:Int)(b:Bool)(hb:decide (x<=y)=b)(w:World):Calls prog 209 #[pH #[pE pK x,I_ y]] w fun e w'=>e = pJ (pI b)/\Aa [] w w':=by
 have HK:=lH ((Aa.refl [] w).alloc (.cells #[pE pK x,I_ y] 357));subst hb;go_enter func209,ntmps209;go_wp2;go_ret;exact⟨rfl,HK.o⟩
theorem Uc(x y:Int)(b:Bool)(hb:decide (0<=x)=b)(w:World):Calls prog 210 #[pH #[pE pK x,I_ y]] w fun e w'=>e = pJ (pI b)/\Aa [] w w':=by
 have HK:=lH ((Aa.refl [] w).alloc (.cells #[pE pK x,I_ y] 357));subst hb;go_enter func210,ntmps210;go_wp2;go_ret;exact⟨rfl,HK.o⟩
theorem Sm(x y:Int)(b:Bool)(hb:decide (y<=65535)=b)(w:World):Calls prog 211 #[pH #[pE pK x,I_ y]] w fun e w'=>e = pJ (pI b)/\Aa [] w w':=by
 have HK:=lH ((Aa.refl [] w).alloc (.cells #[pE pK x,I_ y] 357));subst hb;go_enter func211,ntmps211;go_wp2;go_ret;exact⟨rfl,HK.o⟩
def Ta:Array Value:=#[.func (.func 209) #[] #[],.func (.func 210) #[] #[],.func (.func 211) #[] #[]]
theorem Zg(x y:Int)(fb:Nat)(ty:TypeId)(b:Bool)(hb:Hd x y=b)(w:World)(hf:Blk w fb ty Ta):Calls prog 208 #[pH #[pE pK x,I_ y],pF (some (A_ fb 0)) 3 3] w fun e w'=>e = pJ (pI b)/\Aa [] w w':=by
 obtain⟨wz,hwz⟩:=eX ((w.alloc (.cells #[pE pK x,I_ y] 57)));have HK0:Hi (Aa [] w wz):=lH jV;have hb0:Blk wz w 57 #[pE pK x,I_ y]:=by rw [<- hwz];exact Blk.new w _ _
 have hb1:Blk wz fb ty Ta:=hf.keeps HK0.o bA;obtain⟨b1,h1⟩:=eX (decide (x<=y));obtain⟨b2,h2⟩:=eX (decide (0<=x));obtain⟨b3,h3⟩:=eX (decide (y<=65535));have Y:Hd x y=(b1&&(b2&&b3)):=by rw [<- h1,<- h2,<- h3];unfold Hd;simp only [EJ]
 rw [Y] at hb;have H1:=lH h1;have H2:=lH h2;have H3:=lH h3;have HB:=lH hb;clear h1 h2 h3 Y hb hf;have HB0:=lH hb0;have HB1:=lH hb1;clear hb0 hb1;go_enter func208,ntmps208;go_wp2;refine wp_loop_rounds 4 ?_;rw [rounds_succ];have hb0:=HB0.o;have hb1:=HB1.o;clear hwz;have E:=hb1.cell 0;have F:=hb1.cell 1;have G:=hb1.cell 2;have B:=hb0.cell 0;have D:=hb0.cell 1;simp only [Ta,An,Aj,Ao] at E F G B D;have J:=lH hb0;have O:=lH hb1;clear hb0 hb1;go_wp2_with fail;refine(WH x y b1 H1.o _).mono ?_;rintro e w1 ⟨rfl,hk1⟩;have HK1:=lH (HK0.o.trans hk1);have hb0:=J.out.keeps hk1 bA;have hb1:=O.out.keeps hk1 bA;clear E F G B D hk1;cases b1 with
 | false=>
  obtain rfl:b=false:=by rw [<- HB.o];simp
  go_wp2;go_ret;exact⟨rfl,HK1.o⟩
 | true=>
  go_wp2_with fail;rw [rounds_succ];have E:=hb1.cell 0;have F:=hb1.cell 1;have G:=hb1.cell 2;have B:=hb0.cell 0;have D:=hb0.cell 1;simp only [Ta,An,Aj,Ao] at E F G B D;have M:=lH hb0;have T:=lH hb1;clear hb0 hb1;go_wp2_with fail;refine(Uc x y b2 H2.o _).mono ?_;rintro e w2 ⟨rfl,hk2⟩;have HK2:=lH (HK1.o.trans hk2);have hb0:=M.out.keeps hk2 bA;have hb1:=T.out.keeps hk2 bA;clear E F G B D hk2;cases b2 with
  | false=>
   obtain rfl:b=false:=by rw [<- HB.o];simp
   go_wp2;go_ret;exact⟨rfl,HK2.o⟩
  | true=>
   go_wp2_with fail;rw [rounds_succ];have E:=hb1.cell 0;have F:=hb1.cell 1;have G:=hb1.cell 2;have B:=hb0.cell 0;have D:=hb0.cell 1;simp only [Ta,An,Aj,Ao] at E F G B D;have N:=lH hb0;have U:=lH hb1;clear hb0 hb1;go_wp2_with fail;refine(Sm x y b3 H3.o _).mono ?_;rintro e w3 ⟨rfl,hk3⟩;have X:=lH (HK2.o.trans hk3);have hb0:=N.out.keeps hk3 bA;have hb1:=U.out.keeps hk3 bA;clear E F G B D hk3;cases b3 with
   | false=>
    obtain rfl:b=false:=by rw [<- HB.o];simp
    go_wp2;go_ret;exact⟨rfl,X.o⟩
   | true=>
    go_wp2_with fail;rw [rounds_succ];obtain rfl:b=true:=by rw [<- HB.o];rfl
    go_wp2;go_ret;exact⟨rfl,X.o⟩
theorem N7(x y:Int)(b:Bool)(hb:Hd x y=b)(w:World):Calls prog 177 #[pH #[pE pK x,I_ y]] w fun e w'=>e = pJ (pI b)/\Aa [] w w':=by
 have HK0:=lH (((Aa.refl [] w).alloc (.cells #[pE pK x,I_ y] 57)).alloc (.cells Ta 355));have HB1:=lH (Ar (w.alloc (.cells #[pE pK x,I_ y] 57)) 355 Ta (w+1) bA);have HB:=lH hb;clear hb;go_enter func177,ntmps177;go_wp2_with fail;refine(Zg x y _ 355 b HB.o _ HB1.o).mono ?_;rintro e w1 ⟨rfl,hk1⟩;have HK1:=lH (HK0.o.trans hk1);clear hk1;go_wp2;go_ret;exact⟨rfl,HK1.o⟩
theorem I2(r:EX)(b:Bool)(hb:La r=b)(w:World):Calls prog 141 #[pH (L_ r)] w fun e w'=>e = pJ (pI b)/\Aa [] w w':=by
 obtain⟨B,a,n,x,y⟩:=r;dsimp only at hb ⊢;obtain⟨D,h1⟩:=eX (FI a n);obtain⟨b2,h2⟩:=eX (Hd x y);have hp:La ⟨B,a,n,x,y⟩=(D&&b2):=by rw [<- h1,<- h2];rfl
 rw [hp] at hb;have HK0:=lH ((Aa.refl [] w).alloc (.cells #[pI B,I_ a,I_ n,I_ x,I_ y] 273));have HB0:=lH (Blk.new w 273 #[pI B,I_ a,I_ n,I_ x,I_ y]);have E:=lH h1;have F:=lH h2;have HB:=lH hb;clear h1 h2 hp hb;go_enter func141,ntmps141;go_wp2_with fail;refine(Ke a n D E.o _).mono ?_;rintro e w1 ⟨rfl,hk1⟩;have HK1:=lH (HK0.o.trans hk1);have hb0:=HB0.o.keeps hk1 bA;have G:=hb0.ce 3;have J:=hb0.ce 4;clear hk1 hb0;cases D with
 | false=>
  obtain rfl:b=false:=by rw [<- HB.o];rfl
  go_wp2;go_ret;exact⟨rfl,HK1.o⟩
 | true=>
  obtain rfl:b=b2:=by rw [<- HB.o];rfl
  go_wp2_with fail;refine(N7 x y b F.o _).mono ?_;rintro e w2 ⟨rfl,hk2⟩;have HK2:=lH (HK1.o.trans hk2);clear hk2;go_wp2;go_ret;exact⟨rfl,HK2.o⟩
def aR:Array Value:=#[.func (.func 141) #[] #[]]
theorem QM(a:Option Addr)(c:Nat)(L:List EX)(n:Nat)(hn:L.length=n)(hL:n<=1000000)(fb:Nat)(ty:TypeId)(b:Bool)(hb:L.all La=b)(w:World)(h:AR B8 5 w a c L)(hf:Blk w fb ty aR):
  Calls prog 140 #[pF a n c,pF (some (A_ fb 0)) 1 1] w fun e w'=>e = pJ (pI b)/\Aa [] w w':=by
 have HH:=lH h;have HN:=lH hn;have HB:=lH hb;have HF:=lH hf;clear h hn hb hf;go_enter func140,ntmps140;go_wp2;go_loopw [11] (fun i wr=>∃k:Nat,i = I_ k/\k<=n/\Hi ((L.take k).all La=true)/\Hi (Aa [] w wr)) (fun i _=>n - (intOf i).toNat)
 case atStart=>exact⟨0,rfl,Ba _,lH rfl,lH (Aa.refl _ _)⟩
 case round=>
  obtain⟨k,rfl,hk,HP,HK⟩:=hrel;by_cases hlt:k<n
  ·obtain⟨g,off,⟨D,E,F,G,J⟩,rfl,hg,hx,hat⟩:=HH.o.at_k (k:=k) bO
   have X:=hat 0 (pI D) rfl;have q1:=hat 1 (I_ E) rfl;have q2:=hat 2 (I_ F) rfl;have q3:=hat 3 (I_ G) rfl;have q4:=hat 4 (I_ J) rfl;rw [AT] at X;rw [<- HK.o.cell (p:=A_ g (off+k*5)) hg bA] at X;rw [<- HK.o.cell (p:=A_ g (off+k*5+1)) hg bA] at q1;rw [<- HK.o.cell (p:=A_ g (off+k*5+2)) hg bA] at q2;rw [<- HK.o.cell (p:=A_ g (off+k*5+3)) hg bA] at q3;rw [<- HK.o.cell (p:=A_ g (off+k*5+4)) hg bA] at q4;have i1:(0:Int)<=(k:Int):=bB;have i2:(k:Int)<(n:Int):=bB;obtain⟨U,hb1⟩:=eX (La ⟨D,E,F,G,J⟩);have hp:La ⟨D,E,F,G,J⟩=(U):=by rw [<- hb1];try(rfl)
   have Y:=lH hx;have HPX:=lH hp;have H1:=lH hb1;have hk0:=HK.o.alloc (.cells #[pI D,I_ E,I_ F,I_ G,I_ J] 59);have M:=Blk.new wr 59 #[pI D,I_ E,I_ F,I_ G,I_ J];have N:=HF.o.keeps hk0 bA;have HK0:=lH hk0;have B:=lH M;have O:=lH N;clear hat hg hx hp hb1 hk0 M N;go_wp2;refine wp_loop_rounds 2 ?_;rw [rounds_succ];have s0:=O.o.cell 0;have d0:=B.o.cell 0;have d1:=B.o.cell 1;have d2:=B.o.cell 2;have d3:=B.o.cell 3;have d4:=B.o.cell 4;simp only [aR,An,Aj,Ao] at s0 d0 d1 d2 d3 d4;go_wp2_with fail;refine(I2 ⟨D,E,F,G,J⟩ U H1.o _).mono ?_;rintro e w1 ⟨rfl,hk1⟩;clear s0 d0 d1 d2 d3 d4 X q1 q2 q3 q4;have HK1:=lH (HK0.o.trans hk1);clear hk1;cases U with
   | false=>
    obtain rfl:b=false:=by rw [<- HB.o];exact Ih Y.o (by rw [HPX.o];try rfl)
    go_wp2;go_ret;exact⟨rfl,HK1.o⟩
   | true=>
    have T:Hi ((L.take (k+1)).all La=true):=lH (by rw [Kz Y.o,HP.o,HPX.o];try rfl);go_wp2_with fail;rw [rounds_succ];go_wp2;go_roundw;case rel=>exact⟨k+1,by go_num,by omega,T,HK1⟩
    case measure=>simp [intOf];omega
  ·obtain rfl:k=n:=bB;obtain rfl:b=true:=by rw [<- HB.o,<- HP.o,Ak bL]
   go_wp2;go_ret;exact⟨rfl,HK.o⟩
theorem JU(a:Option Addr)(c:Nat)(L:List EX)(n:Nat)(hn:L.length=n)(hL:n<=1000000)(b:Bool)(hb:Ew L=b)(w:World)(h:Ku w a c L):Calls prog 106 #[pF a n c] w fun e w'=>e = pJ (pI b)/\Aa [] w w':=by
 obtain⟨y,hy⟩:=eX (L.all La);have B:b=(decide (n<=16)&&y):=by rw [<- hb];unfold Ew;rw [hy,hn]
 have HBB:=lH B;have F:=lH hy;have HN:=lH hn;have E:=lH h;clear hb hy B hn h;by_cases h10:n<=16
 ·have G:(n:Int)<=16:=bB;obtain rfl:b=y:=by rw [HBB.o,decide_eq_true h10];rfl
  have D:=lH (Blk.new w 271 aR);have HKF:=lH ((Aa.refl [] w).alloc (.cells aR 271));clear h10;go_enter func106,ntmps106;go_wp2_with fail;refine(QM a c L n HN.o hL _ _ b F.o _ (E.o.keeps HKF.o) D.o).mono ?_;rintro e w1 ⟨rfl,hk1⟩;have HK1:=lH (HKF.o.trans hk1);clear hk1;go_wp2;go_ret;exact⟨rfl,HK1.o⟩
 ·have G:¬(n:Int)<=16:=bB;obtain rfl:b=false:=by rw [HBB.o,decide_eq_false h10];rfl
  clear h10;go_enter func106,ntmps106;go_wp2;go_ret;exact⟨rfl,Aa.refl [] w⟩
structure Kw(w:World)(tb:Nat)(v:DF)(s:Fz)(gn un fn:Nat):Prop where
 blk:Blk w tb 210 (S_ v gn un fn)
 m:Dy w v s
 lg:s.gens.length=gn
 lu:s.used.length=un
 lf:s.free.length=fn
theorem Kw.keeps{w w':World}{tb:Nat}{v:DF}{s:Fz}{gn un fn:Nat}(h:Kw w tb v s gn un fn)(hk:Aa [] w w'):Kw w' tb v s gn un fn:={ h with blk:=h.blk.keeps hk bA,m:=h.m.keeps hk }
theorem Kw.cells{w:World}{tb:Nat}{v:DF}{s:Fz}{gn un fn:Nat}(h:Kw w tb v s gn un fn):w.cell? (A_ tb 0)=some (pF v.ga gn v.gc)/\w.cell? (A_ tb 1)=some (pF v.ua un v.uc)/\w.cell? (A_ tb 2)=some (pF v.fa fn v.fc):=⟨h.blk.cell 0,h.blk.cell 1,h.blk.cell 2⟩
def Mj(gn un:Nat):Bool:=decide (1<=gn)&&decide (gn<=64)&&decide (un=gn)
theorem TE(B:Nat)(v:DF)(s:Fz)(gn un fn:Nat)(b:Bool)(hb:Mj gn un=b)(w:World)(h:Kw w B v s gn un fn):
  Calls prog 102 #[pG (some (A_ B 0))] w fun e w'=>e = pJ (pI b)/\Aa [] w w':=by
 obtain⟨E,F,G⟩:=h.cells;clear h;by_cases h1:1<=gn
 ·have i1:(1:Int)<=(gn:Int):=bB;by_cases h2:gn<=64
  ·have i2:(gn:Int)<=64:=bB;by_cases h3:un=gn
   ·subst h3
    obtain rfl:b=true:=by rw [<- hb];simp [Mj,h1,h2]
    clear hb h1 h2;go_enter func102,ntmps102;go_wp2;go_quiet (fail);go_wp2;go_ret;exact⟨rfl,(Aa.refl [] w).drewN _⟩
   ·have D:((un:Int)==(gn:Int))=false:=by simp;omega
    obtain rfl:b=false:=by rw [<- hb];simp [Mj,h3]
    clear hb h1 h2 h3;go_enter func102,ntmps102;go_wp2;go_quiet (fail);go_wp2;go_ret;exact⟨rfl,(Aa.refl [] w).drewN _⟩
  ·have i2:decide ((gn:Int)<=64)=false:=decide_eq_false bB
   obtain rfl:b=false:=by rw [<- hb];simp [Mj,h2]
   clear hb h1 h2;go_enter func102,ntmps102;go_wp2;go_quiet (fail);go_wp2;go_ret;exact⟨rfl,(Aa.refl [] w).drewN _⟩
 ·have i1:decide ((1:Int)<=(gn:Int))=false:=decide_eq_false bB
  obtain rfl:b=false:=by rw [<- hb];simp [Mj,h1]
  clear hb h1;go_enter func102,ntmps102;go_wp2;go_quiet (fail);go_wp2;go_ret;exact⟨rfl,(Aa.refl [] w).drewN _⟩
def Qu(n:Int):Bool:=decide (0<=n)&&decide (n<=1000000000)
theorem PN(n:Int)(b:Bool)(hb:Qu n=b)(w:World):Calls prog 138 #[pE pK n] w fun e w'=>e = pJ (pI (!b))/\w=w':=by
 by_cases h1:n<0
 ·obtain rfl:b=false:=by rw [<- hb];simp [Qu];omega
  clear hb;go_enter func138,ntmps138;go_wp2;go_ret;exact⟨rfl,rfl⟩
 ·have B:0<=n:=bB;by_cases h2:1000000000<n
  ·obtain rfl:b=false:=by rw [<- hb];simp [Qu];omega
   clear hb;go_enter func138,ntmps138;go_wp2;go_ret;exact⟨rfl,rfl⟩
  ·have D:n<=1000000000:=bB;obtain rfl:b=true:=by rw [<- hb];simp [Qu];omega
   clear hb h1 h2;go_enter func138,ntmps138;go_wp2;go_ret;exact⟨Jv bG,rfl⟩
theorem Qv(a:Option Addr)(c:Nat)(L:List Int)(n:Nat)(hn:L.length=n)(hL:n<=1000000)(b:Bool)(hb:L.all Qu=b)(w:World)(h:F1 w a c L):
  Calls prog 175 #[pF a n c,.func (.func 138) #[] #[]] w fun r w'=>(∃i:Int,r = pJ (I_ i)/\(decide (0<=i) = !b))/\w=w':=by
 have G:=lH h;have HN:=lH hn;have HB:=lH hb;clear h hn hb;go_enter func175,ntmps175;go_wp2;go_loopw [5,8] (fun _ i wr=>∃k:Nat,k<=n/\i = I_ k/\Hi ((L.take k).all Qu=true)/\w=wr) (fun _ i _=>n - (intOf i).toNat)
 case atStart=>exact⟨0,Ba _,rfl,lH rfl,rfl⟩
 case round=>
  obtain⟨k,hk,rfl,E,rfl⟩:=hrel;by_cases hlt:k<n
  ·obtain⟨g,off,x,rfl,hg,hx,hat⟩:=G.o.at_k (k:=k) bO
   have J:=hat 0 (I_ x) rfl;rw [AT,pR] at J;have i1:(0:Int)<=(k:Int):=bB;have i2:(k:Int)<(n:Int):=bB;obtain⟨y,hy⟩:=eX (Qu x);have F:=lH hx;have D:=lH hy;clear hat hg hx hy;go_wp2_with fail;refine(PN x y D.o _).mono ?_;rintro r w2 ⟨rfl,rfl⟩;cases y with
   | true=>
    have B:Hi ((L.take (k+1)).all Qu=true):=lH (by rw [Kz F.o,E.o,D.o];rfl);go_wp2;go_roundw;case rel=>exact⟨k+1,by omega,by go_num,B,trivial⟩
    case measure=>simp [intOf];omega
   | false=>
    obtain rfl:b=false:=by rw [<- HB.o];exact Ih F.o D.o
    go_wp2;go_ret;exact⟨⟨_,rfl,by simp⟩,rfl⟩
  ·obtain rfl:k=n:=bB;obtain rfl:b=true:=by
    rw [<- HB.o];have:=E.o
    rwa [Ak bL] at this
   go_wp2;go_ret;exact⟨⟨_,rfl,by simp⟩,rfl⟩
theorem Mw(a:Option Addr)(c:Nat)(L:List Int)(n:Nat)(hn:L.length=n)(hL:n<=1000000)(b:Bool)(hb:L.all Qu=b)(w:World)(h:F1 w a c L):
  Calls prog 139 #[pF a n c,.func (.func 138) #[] #[]] w fun r w'=>r = pJ (pI (!b))/\w=w':=by
 have B:=lH h;have HN:=lH hn;have HB:=lH hb;clear h hn hb;go_enter func139,ntmps139;go_wp2_with fail;refine(Qv a c L n HN.o hL b HB.o w B.o).mono ?_;rintro r w' ⟨⟨i,rfl,hi⟩,rfl⟩;go_wp2;go_ret;exact⟨rfl,rfl⟩
theorem QR(B:Nat)(v:DF)(s:Fz)(gn un fn:Nat)(b:Bool)(hb:UN s.gens=b)(w:World)(h:Kw w B v s gn un fn):
  Calls prog 103 #[pG (some (A_ B 0))] w fun e w'=>e = pJ (pI b)/\w=w':=by
 obtain⟨D,E,F⟩:=h.cells;have hl:=h.m.sg;rw [h.lg] at hl;have HC:=lH (Mw v.ga v.gc s.gens gn h.lg bB b hb w h.m.g);clear h hb;go_enter func103,ntmps103;go_wp2_with fail;refine HC.o.mono ?_;rintro r w' ⟨rfl,rfl⟩;go_wp2;go_ret;exact⟨Jv bA,rfl⟩
end
end Go.Proofs.YtncebikgoleolaaGreatDoor
