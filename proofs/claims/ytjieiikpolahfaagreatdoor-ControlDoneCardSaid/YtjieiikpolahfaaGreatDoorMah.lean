/- Steps. -/
import Derived.Test.YtjieiikpolahfaaGreatDoorMai
set_option maxRecDepth 100000
set_option maxHeartbeats 8000000
set_option linter.all false
namespace Go.Proofs.YtjieiikpolahfaaGreatDoor
open Tryz
open _root_.Go renaming undef→UD
open _root_.And renaming intro→Bl
open _root_.Array renaming length_toList→BX,replicate_succ→Bt,replicate_zero→Bu
open _root_.Bool renaming and_assoc→EJ,and_eq_true→Af,eq_iff_iff→DI,false_and→Ep,true_and→DJ
open Builtin renaming append_→BI,copy_→E3
open _root_.ByteArray renaming toList_eq→ED
open Ending renaming returned→pJ
open Exit renaming noGoto_normal→AY
open Fence renaming wide→Bx
open Instr renaming lookup→Ed,slice→AV
open _root_.Int renaming toNat_natCast→pW
open IntKind renaming i64→pK
open Lib renaming run_eql_slice_nil→AK
open _root_.List renaming all_eq_true→Bm,append_assoc→CC,append_toArray→BD,cons_append→AL,eq_nil_of_length_eq_zero→Ds,filter_append→E5,getD_eq_getElem?_getD→AO,getElem?_cons_succ→Ao,getElem?_cons_zero→Aj,getElem?_eq_getElem→Aq,getElem?_eq_some_iff→Ad,getElem?_toArray→An,getElem_mem→pS,isEmpty_eq_false_iff→E9,length_append→Al,length_cons→Av,length_map→Bd,length_nil→D4,length_range→AP,length_singleton→Bp,length_take→Ax,map_append→pO,map_cons→CR,mem_append→AQ,mem_cons→Ac,mem_map→BO,mem_of_getElem?→CD,mem_singleton→Ag,nil_append→BH,not_mem_nil→Ab,push_toArray→Cd,range_succ→B3,range→AC,replicate→D6,size_toArray→Cz,take_append_drop→Dn,take_of_length_le→Ak,take_succ_eq_append_getElem→BJ
open _root_.Nat renaming add_zero→AT,le_refl→Aw,le_trans→A8,lt_of_lt_of_le→BS,lt_or_ge→pP,min_eq_left→DE,mul_one→pR,reduceAdd→pL,reduceSub→pM,zero_add→AW,zero_le→Ba
open Oper renaming semAt_some→pN
open Program renaming fieldsOf→CK
open Result renaming andThen→Bg
open Value renaming agg→pH,bool→pI,int→pE,ownBlock→EZ,pointer→pG,slice→pF,string→Dz
open World renaming block_lt_of_cell?→Be,ownsRow_nil→BQ,size_alloc→Eo
section
open Go.RowKit Go.Shelf
attribute [local go_sem ↓] wp_at_zero wp_at_succ
theorem VJ:D1 (prog.info? 3) 1=true:=bC
theorem PR(a:Option Addr)(c:Nat)(xs:List Int)(n:Nat)(hn:xs.length=n)(hL:n<=1000000)(w:World)(h:AR Fb 1 w a c xs):
  Calls prog 110 #[pF a n c] w fun r w'=>∃a' c',r = pJ (.slice a' n c')/\AR Fb 1 w' a' c' xs/\w'.ownsRow w 3 1 (.slice a' n c') n (xs.flatMap Fb)/\Aa [] w w':=by
 cases a with
 | none=>
  obtain⟨rfl,rfl⟩:=h.isNil;subst hn;have h0:Calls prog 110 #[pF none 0 0] w fun r w'=>r = pJ (pF none 0 0)/\w=w':=by
   have hq:=fun W=>AK (P:=prog) W _ _ none 0 0 0 0 underlying23;go_enter func110,ntmps110;go_wp2;go_ret;exact⟨rfl,rfl⟩
  refine h0.mono ?_;rintro r w' ⟨rfl,rfl⟩;exact⟨none,0,rfl,h,BQ _ _ _ _,Aa.refl [] w⟩
 | some p=>
  obtain⟨a',c',w',hr,hs,ho,hk⟩:=AR.clone_run prog underlying23 VJ bE Eu KH h bB 23;rw [hn] at hr ho;have HS:=lH hs;have B:=lH ho;have HK:=lH hk;clear h hs ho hk;have h0:Calls prog 110 #[pF (some p) n c] w fun r w1=>r = pJ (.slice a' n c')/\w'=w1:=by
   clear HS HK B;have hq:=fun W=>AK (P:=prog) W _ _ (some p) n c 0 0 underlying23;go_enter func110,ntmps110;go_wp2_with (at_builtin;refine Au _ rfl _ _ 23 rfl rfl rfl hr ?_);go_ret;exact⟨rfl,rfl⟩
  refine h0.mono ?_;rintro r w1 ⟨rfl,rfl⟩;exact⟨a',c',rfl,HS.o,B.o,HK.o⟩
theorem Tl:D1 (prog.info? 4) 1=true:=bC
theorem Rb(a:Option Addr)(c:Nat)(xs:List Bool)(n:Nat)(hn:xs.length=n)(hL:n<=1000000)(w:World)(h:AR JM 1 w a c xs):
  Calls prog 111 #[pF a n c] w fun r w'=>∃a' c',r = pJ (.slice a' n c')/\AR JM 1 w' a' c' xs/\w'.ownsRow w 4 1 (.slice a' n c') n (xs.flatMap JM)/\Aa [] w w':=by
 cases a with
 | none=>
  obtain⟨rfl,rfl⟩:=h.isNil;subst hn;have h0:Calls prog 111 #[pF none 0 0] w fun r w'=>r = pJ (pF none 0 0)/\w=w':=by
   have hq:=fun W=>AK (P:=prog) W _ _ none 0 0 0 0 underlying24;go_enter func111,ntmps111;go_wp2;go_ret;exact⟨rfl,rfl⟩
  refine h0.mono ?_;rintro r w' ⟨rfl,rfl⟩;exact⟨none,0,rfl,h,BQ _ _ _ _,Aa.refl [] w⟩
 | some p=>
  obtain⟨a',c',w',hr,hs,ho,hk⟩:=AR.clone_run prog underlying24 Tl bE KG Ym h bB 24;rw [hn] at hr ho;have HS:=lH hs;have B:=lH ho;have HK:=lH hk;clear h hs ho hk;have h0:Calls prog 111 #[pF (some p) n c] w fun r w1=>r = pJ (.slice a' n c')/\w'=w1:=by
   clear HS HK B;have hq:=fun W=>AK (P:=prog) W _ _ (some p) n c 0 0 underlying24;go_enter func111,ntmps111;go_wp2_with (at_builtin;refine Au _ rfl _ _ 24 rfl rfl rfl hr ?_);go_ret;exact⟨rfl,rfl⟩
  refine h0.mono ?_;rintro r w1 ⟨rfl,rfl⟩;exact⟨a',c',rfl,HS.o,B.o,HK.o⟩
theorem Gl:D1 (prog.info? 9) 1=true:=bC
theorem MP:D1 (prog.info? 55) 5=true:=bC
theorem KB(a:Option Addr)(c:Nat)(xs:List EX)(n:Nat)(hn:xs.length=n)(hL:n<=1000000)(w:World)(h:AR B8 5 w a c xs):
  Calls prog 151 #[pF a n c] w fun r w'=>∃a' c',r = pJ (.slice a' n c')/\AR B8 5 w' a' c' xs/\w'.ownsRow w 55 5 (.slice a' n c') n (xs.flatMap B8)/\Aa [] w w':=by
 cases a with
 | none=>
  obtain⟨rfl,rfl⟩:=h.isNil;subst hn;have h0:Calls prog 151 #[pF none 0 0] w fun r w'=>r = pJ (pF none 0 0)/\w=w':=by
   have hq:=fun W=>AK (P:=prog) W _ _ none 0 0 0 0 underlying128;go_enter func151,ntmps151;go_wp2;go_ret;exact⟨rfl,rfl⟩
  refine h0.mono ?_;rintro r w' ⟨rfl,rfl⟩;exact⟨none,0,rfl,h,BQ _ _ _ _,Aa.refl [] w⟩
 | some p=>
  obtain⟨a',c',w',hr,hs,ho,hk⟩:=AR.clone_run prog underlying128 MP bE Cv FA h bB 128;rw [hn] at hr ho;have HS:=lH hs;have B:=lH ho;have HK:=lH hk;clear h hs ho hk;have h0:Calls prog 151 #[pF (some p) n c] w fun r w1=>r = pJ (.slice a' n c')/\w'=w1:=by
   clear HS HK B;have hq:=fun W=>AK (P:=prog) W _ _ (some p) n c 0 0 underlying128;go_enter func151,ntmps151;go_wp2_with (at_builtin;refine Au _ rfl _ _ 128 rfl rfl rfl hr ?_);go_ret;exact⟨rfl,rfl⟩
  refine h0.mono ?_;rintro r w1 ⟨rfl,rfl⟩;exact⟨a',c',rfl,HS.o,B.o,HK.o⟩
theorem Tk:D1 (prog.info? 209) 4=true:=bC
theorem XY(a:Option Addr)(c:Nat)(xs:List El)(n:Nat)(hn:xs.length=n)(hL:n<=1000000)(w:World)(h:AR BT 4 w a c xs):
  Calls prog 152 #[pF a n c] w fun r w'=>∃a' c',r = pJ (.slice a' n c')/\AR BT 4 w' a' c' xs/\w'.ownsRow w 209 4 (.slice a' n c') n (xs.flatMap BT)/\Aa [] w w':=by
 cases a with
 | none=>
  obtain⟨rfl,rfl⟩:=h.isNil;subst hn;have h0:Calls prog 152 #[pF none 0 0] w fun r w'=>r = pJ (pF none 0 0)/\w=w':=by
   have hq:=fun W=>AK (P:=prog) W _ _ none 0 0 0 0 underlying129;go_enter func152,ntmps152;go_wp2;go_ret;exact⟨rfl,rfl⟩
  refine h0.mono ?_;rintro r w' ⟨rfl,rfl⟩;exact⟨none,0,rfl,h,BQ _ _ _ _,Aa.refl [] w⟩
 | some p=>
  obtain⟨a',c',w',hr,hs,ho,hk⟩:=AR.clone_run prog underlying129 Tk bE D0 Iq h bB 129;rw [hn] at hr ho;have HS:=lH hs;have B:=lH ho;have HK:=lH hk;clear h hs ho hk;have h0:Calls prog 152 #[pF (some p) n c] w fun r w1=>r = pJ (.slice a' n c')/\w'=w1:=by
   clear HS HK B;have hq:=fun W=>AK (P:=prog) W _ _ (some p) n c 0 0 underlying129;go_enter func152,ntmps152;go_wp2_with (at_builtin;refine Au _ rfl _ _ 129 rfl rfl rfl hr ?_);go_ret;exact⟨rfl,rfl⟩
  refine h0.mono ?_;rintro r w1 ⟨rfl,rfl⟩;exact⟨a',c',rfl,HS.o,B.o,HK.o⟩
theorem MO:D1 (prog.info? 81) 2=true:=bC
theorem KA(a:Option Addr)(c:Nat)(xs:List GF)(n:Nat)(hn:xs.length=n)(hL:n<=1000000)(w:World)(h:AR Eg 2 w a c xs):
  Calls prog 58 #[pF a n c] w fun r w'=>∃a' c',r = pJ (.slice a' n c')/\AR Eg 2 w' a' c' xs/\w'.ownsRow w 81 2 (.slice a' n c') n (xs.flatMap Eg)/\Aa [] w w':=by
 cases a with
 | none=>
  obtain⟨rfl,rfl⟩:=h.isNil;subst hn;have h0:Calls prog 58 #[pF none 0 0] w fun r w'=>r = pJ (pF none 0 0)/\w=w':=by
   have hq:=fun W=>AK (P:=prog) W _ _ none 0 0 0 0 underlying22;go_enter func58,ntmps58;go_wp2;go_ret;exact⟨rfl,rfl⟩
  refine h0.mono ?_;rintro r w' ⟨rfl,rfl⟩;exact⟨none,0,rfl,h,BQ _ _ _ _,Aa.refl [] w⟩
 | some p=>
  obtain⟨a',c',w',hr,hs,ho,hk⟩:=AR.clone_run prog underlying22 MO bE Fc MW h bB 22;rw [hn] at hr ho;have HS:=lH hs;have B:=lH ho;have HK:=lH hk;clear h hs ho hk;have h0:Calls prog 58 #[pF (some p) n c] w fun r w1=>r = pJ (.slice a' n c')/\w'=w1:=by
   clear HS HK B;have hq:=fun W=>AK (P:=prog) W _ _ (some p) n c 0 0 underlying22;go_enter func58,ntmps58;go_wp2_with (at_builtin;refine Au _ rfl _ _ 22 rfl rfl rfl hr ?_);go_ret;exact⟨rfl,rfl⟩
  refine h0.mono ?_;rintro r w1 ⟨rfl,rfl⟩;exact⟨a',c',rfl,HS.o,B.o,HK.o⟩
theorem OK:D1 (prog.info? 61) 24=true:=bC
theorem UE(a:Option Addr)(c:Nat)(xs:List Bq)(n:Nat)(hn:xs.length=n)(hL:n<=1000000)(w:World)(h:AR encJob 24 w a c xs):
  Calls prog 32 #[pF a n c] w fun r w'=>∃a' c',r = pJ (.slice a' n c')/\AR encJob 24 w' a' c' xs/\w'.ownsRow w 61 24 (.slice a' n c') n (xs.flatMap encJob)/\Aa [] w w':=by
 cases a with
 | none=>
  obtain⟨rfl,rfl⟩:=h.isNil;subst hn;have h0:Calls prog 32 #[pF none 0 0] w fun r w'=>r = pJ (pF none 0 0)/\w=w':=by
   have hq:=fun W=>AK (P:=prog) W _ _ none 0 0 0 0 underlying33;go_enter func32,ntmps32;go_wp2;go_ret;exact⟨rfl,rfl⟩
  refine h0.mono ?_;rintro r w' ⟨rfl,rfl⟩;exact⟨none,0,rfl,h,BQ _ _ _ _,Aa.refl [] w⟩
 | some p=>
  obtain⟨a',c',w',hr,hs,ho,hk⟩:=AR.clone_run prog underlying33 OK bE Dc Ir h bB 33;rw [hn] at hr ho;have HS:=lH hs;have B:=lH ho;have HK:=lH hk;clear h hs ho hk;have h0:Calls prog 32 #[pF (some p) n c] w fun r w1=>r = pJ (.slice a' n c')/\w'=w1:=by
   clear HS HK B;have hq:=fun W=>AK (P:=prog) W _ _ (some p) n c 0 0 underlying33;go_enter func32,ntmps32;go_wp2_with (at_builtin;refine Au _ rfl _ _ 33 rfl rfl rfl hr ?_);go_ret;exact⟨rfl,rfl⟩
  refine h0.mono ?_;rintro r w1 ⟨rfl,rfl⟩;exact⟨a',c',rfl,HS.o,B.o,HK.o⟩
theorem Gx:D1 (prog.info? 73) 3=true:=bC
theorem K8(a:Option Addr)(c:Nat)(xs:List IA)(n:Nat)(hn:xs.length=n)(hL:n<=1000000)(w:World)(h:AR Cu 3 w a c xs):
  Calls prog 65 #[pF a n c] w fun r w'=>∃a' c',r = pJ (.slice a' n c')/\AR Cu 3 w' a' c' xs/\w'.ownsRow w 73 3 (.slice a' n c') n (xs.flatMap Cu)/\Aa [] w w':=by
 cases a with
 | none=>
  obtain⟨rfl,rfl⟩:=h.isNil;subst hn;have h0:Calls prog 65 #[pF none 0 0] w fun r w'=>r = pJ (pF none 0 0)/\w=w':=by
   have hq:=fun W=>AK (P:=prog) W _ _ none 0 0 0 0 underlying34;go_enter func65,ntmps65;go_wp2;go_ret;exact⟨rfl,rfl⟩
  refine h0.mono ?_;rintro r w' ⟨rfl,rfl⟩;exact⟨none,0,rfl,h,BQ _ _ _ _,Aa.refl [] w⟩
 | some p=>
  obtain⟨a',c',w',hr,hs,ho,hk⟩:=AR.clone_run prog underlying34 Gx bE DL Kc h bB 34;rw [hn] at hr ho;have HS:=lH hs;have B:=lH ho;have HK:=lH hk;clear h hs ho hk;have h0:Calls prog 65 #[pF (some p) n c] w fun r w1=>r = pJ (.slice a' n c')/\w'=w1:=by
   clear HS HK B;have hq:=fun W=>AK (P:=prog) W _ _ (some p) n c 0 0 underlying34;go_enter func65,ntmps65;go_wp2_with (at_builtin;refine Au _ rfl _ _ 34 rfl rfl rfl hr ?_);go_ret;exact⟨rfl,rfl⟩
  refine h0.mono ?_;rintro r w1 ⟨rfl,rfl⟩;exact⟨a',c',rfl,HS.o,B.o,HK.o⟩
theorem Io:D1 (prog.info? 131) 8=true:=bC
theorem Tm(a:Option Addr)(c:Nat)(xs:List TV)(n:Nat)(hn:xs.length=n)(hL:n<=1000000)(w:World)(h:AR BE 8 w a c xs):
  Calls prog 159 #[pF a n c] w fun r w'=>∃a' c',r = pJ (.slice a' n c')/\AR BE 8 w' a' c' xs/\w'.ownsRow w 131 8 (.slice a' n c') n (xs.flatMap BE)/\Aa [] w w':=by
 cases a with
 | none=>
  obtain⟨rfl,rfl⟩:=h.isNil;subst hn;have h0:Calls prog 159 #[pF none 0 0] w fun r w'=>r = pJ (pF none 0 0)/\w=w':=by
   have hq:=fun W=>AK (P:=prog) W _ _ none 0 0 0 0 underlying27;go_enter func159,ntmps159;go_wp2;go_ret;exact⟨rfl,rfl⟩
  refine h0.mono ?_;rintro r w' ⟨rfl,rfl⟩;exact⟨none,0,rfl,h,BQ _ _ _ _,Aa.refl [] w⟩
 | some p=>
  obtain⟨a',c',w',hr,hs,ho,hk⟩:=AR.clone_run prog underlying27 Io bE CF FB h bB 27;rw [hn] at hr ho;have HS:=lH hs;have B:=lH ho;have HK:=lH hk;clear h hs ho hk;have h0:Calls prog 159 #[pF (some p) n c] w fun r w1=>r = pJ (.slice a' n c')/\w'=w1:=by
   clear HS HK B;have hq:=fun W=>AK (P:=prog) W _ _ (some p) n c 0 0 underlying27;go_enter func159,ntmps159;go_wp2_with (at_builtin;refine Au _ rfl _ _ 27 rfl rfl rfl hr ?_);go_ret;exact⟨rfl,rfl⟩
  refine h0.mono ?_;rintro r w1 ⟨rfl,rfl⟩;exact⟨a',c',rfl,HS.o,B.o,HK.o⟩
end
section
open Go.RowKit Go.Shelf
attribute [local go_sem] pN
attribute [local go_sem ↓] wp_at_zero wp_at_succ
theorem S8(r:Int)(w:World):Calls prog 130 #[pE pK r] w fun e w'=>e = pJ (I_ (setsR r:Nat))/\w=w':=by
 by_cases h3:r=3
 ·subst h3
  go_enter func130,ntmps130;go_wp2;go_ret;exact⟨rfl,rfl⟩
 ·by_cases h2:r=2
  ·subst h2
   go_enter func130,ntmps130;go_wp2;go_ret;exact⟨rfl,rfl⟩
  ·by_cases h1:r=1
   ·subst h1
    go_enter func130,ntmps130;go_wp2;go_ret;exact⟨rfl,rfl⟩
   ·have D:(r==3)=false:=by simpa using h3
    have B:(r==2)=false:=kC;have f1:(r==1)=false:=bR;have hs:setsR r=0:=by unfold setsR;rw [if_neg h3,if_neg h2,if_neg h1]
    rw [hs];clear h3 h2 h1 hs;go_enter func130,ntmps130;go_wp2;go_ret;exact⟨rfl,rfl⟩
theorem Pa(s:ByteArray):Gi s=JA s:=rfl
theorem Vf{s:ByteArray}(h:¬s=⟨#[]⟩):¬s.toList = []:=fun e=>h (by
 rw [ED] at e;obtain⟨⟨l⟩⟩:=s;have e2:l = []:=e;rw [e2])
theorem RL(o:GF)(hs:o.name.size<=maxLen)(b:Bool)(hb:(decide (o.name≠⟨#[]⟩)&&JA o.name)=b)(w:World):
  Calls prog 75 #[pH #[Dz o.name,I_ o.role]] w fun e w'=>e = pJ (pI b)/\Aa [] w w':=by
 obtain⟨nm,D⟩:=o;dsimp only at hs hb ⊢;have HB:=lH hb;have hk0:=(Aa.refl [] w).alloc (.cells #[Dz nm,I_ D] 158);obtain⟨y,hy⟩:=eX (Gi nm);have B:=lH hy;have HK:=lH hk0;clear hb hy hk0;by_cases h0:nm=⟨#[]⟩
 ·obtain rfl:b=false:=by rw [<- HB.o];simp [h0]
  subst h0;clear HB B;go_enter func75,ntmps75;go_wp2;go_ret;exact⟨rfl,HK.o⟩
 ·obtain rfl:b=y:=by rw [<- HB.o,<- B.o,Pa];simp [h0]
  have hne:=Vf h0;clear h0;go_enter func75,ntmps75;go_wp2_with fail;refine(Od nm hs b B.o _).mono ?_;rintro e w1 ⟨rfl,hk⟩;have HK2:=lH (HK.o.trans hk);clear hk;go_wp2;go_ret;exact⟨Jv (by rw [E9.2 hne];rfl),HK2.o⟩
theorem RM(o:GF)(b:Bool)(hb:decide (setsR o.role≠0)=b)(w:World):
  Calls prog 76 #[pH #[Dz o.name,I_ o.role]] w fun e w'=>e = pJ (pI b)/\Aa [] w w':=by
 obtain⟨nm,B⟩:=o;dsimp only at hb ⊢;obtain⟨n,hn⟩:=eX (setsR B);have hk0:=(Aa.refl [] w).alloc (.cells #[Dz nm,I_ B] 158);have hs:=fun W=>S8 B W;rw [hn] at hb hs;have HS:=lH hs;have HK:=lH hk0;have D:((n:Int) != 0)=b:=by rw [<- hb,bne,DI];simp
 clear hb hs hk0 hn;go_enter func76,ntmps76;go_wp2_with fail;refine(HS.o _).mono ?_;rintro e w1 ⟨rfl,rfl⟩;go_wp2;go_ret;exact⟨rfl,HK.o⟩
def XG:Array Value:=#[.func (.func 75) #[] #[],.func (.func 76) #[] #[]]
theorem Kz{α:Type}{p:α->Bool}{L:List α}{k:Nat}{x:α}(h:L[k]? = some x):(L.take (k+1)).all p=((L.take k).all p&&p x):=by
 obtain⟨hk,rfl⟩:=Ad.1 h;rw [BJ hk,List.all_append];simp
theorem Ih{α:Type}{p:α->Bool}{L:List α}{k:Nat}{x:α}(h:L[k]? = some x)(hb:p x=false):L.all p=false:=by
 obtain⟨hk,rfl⟩:=Ad.1 h;apply Bool.eq_false_iff.2;intro B;rw [Bm] at B;have:=B _ (pS hk);rw [hb] at this;cases this
theorem AR.at_k{α:Type}{enc:α->List Value}{n:Nat}{w:World}{a:Option Addr}{c:Nat}{xs:List α}(h:AR enc n w a c xs){k:Nat}(hk:k<xs.length):
  ∃g off x,a=some (A_ g off)/\g<w.heap.size/\xs[k]? = some x/\∀j u,(enc x)[j]? = some u->w.cell? (A_ g (off+k*n+j))=some u:=by
 obtain⟨g,off,B,hg,D⟩:=h.at_ bB;exact⟨g,off,xs[k],B,hg,Aq hk,fun j u hj=>D k hk j u hj⟩
theorem YW(a:Option Addr)(c:Nat)(L:List GF)(n:Nat)(hn:L.length=n)(hL:n<=1000000)(hs:∀o∈L,o.name.size<=maxLen)(fb:Nat)(ty:TypeId)(b:Bool)(hb:L.all WC=b)(w:World)(h:IE w a c L)(hf:Blk w fb ty XG):
  Calls prog 74 #[pF a n c,pF (some (A_ fb 0)) 2 2] w fun e w'=>e = pJ (pI b)/\Aa [] w w':=by
 have HH:=lH h;have HN:=lH hn;have HB:=lH hb;have HS:=lH hs;have HF:=lH hf;clear h hn hb hs hf;go_enter func74,ntmps74;go_wp2;go_loopw [11] (fun i wr=>∃k:Nat,i = I_ k/\k<=n/\Hi ((L.take k).all WC=true)/\Hi (Aa [] w wr)) (fun i _=>n - (intOf i).toNat)
 case atStart=>exact⟨0,rfl,Ba _,lH rfl,lH (Aa.refl _ _)⟩
 case round=>
  obtain⟨k,rfl,hk,HP,HK⟩:=hrel;by_cases hlt:k<n
  ·obtain⟨g,off,⟨nm,E⟩,rfl,hg,hx,hat⟩:=HH.o.at_k (k:=k) bO
   have q0:=hat 0 (Dz nm) rfl;have q1:=hat 1 (I_ E) rfl;rw [AT] at q0;rw [<- HK.o.cell (p:=A_ g (off+k*2)) hg bA] at q0;rw [<- HK.o.cell (p:=A_ g (off+k*2+1)) hg bA] at q1;have i1:(0:Int)<=(k:Int):=bB;have i2:(k:Int)<(n:Int):=bB;have hsz:=HS.o ⟨nm,E⟩ (CD hx);obtain⟨X,hb1⟩:=eX ((decide (nm≠⟨#[]⟩)&&JA nm));obtain⟨Y,hb2⟩:=eX (decide (setsR E≠0));have hp:WC ⟨nm,E⟩=(X&&Y):=by rw [<- hb1,<- hb2];rfl
   have U:=lH hx;have HPX:=lH hp;have H1:=lH hb1;have H2:=lH hb2;have hk0:=HK.o.alloc (.cells #[Dz nm,I_ E] 81);have J:=Blk.new wr 81 #[Dz nm,I_ E];have M:=HF.o.keeps hk0 bA;have HK0:=lH hk0;have B:=lH J;have D:=lH M;clear hat hg hx hp hb1 hb2 hk0 J M;go_wp2;refine wp_loop_rounds 3 ?_;rw [rounds_succ];have N:=D.o.cell 0;have O:=D.o.cell 1;have F:=B.o.cell 0;have G:=B.o.cell 1;simp only [XG,An,Aj,Ao] at N O F G;go_wp2_with fail;refine(RL ⟨nm,E⟩ hsz X H1.o _).mono ?_;rintro e w1 ⟨rfl,hk1⟩;clear N O F G q0 q1;have D:=lH (D.o.keeps hk1 bA);have B:=lH (B.o.keeps hk1 bA);have HK1:=lH (HK0.o.trans hk1);clear hk1;cases X with
   | false=>
    obtain rfl:b=false:=by rw [<- HB.o];exact Ih U.o jZ
    go_wp2;go_ret;exact⟨rfl,HK1.o⟩
   | true=>
    go_wp2_with fail;rw [rounds_succ];have N:=D.o.cell 0;have O:=D.o.cell 1;have F:=B.o.cell 0;have G:=B.o.cell 1;simp only [XG,An,Aj,Ao] at N O F G;go_wp2_with fail;refine(RM ⟨nm,E⟩ Y H2.o _).mono ?_;rintro e w2 ⟨rfl,hk2⟩;clear N O F G;have HK2:=lH (HK1.o.trans hk2);clear hk2;cases Y with
    | false=>
     obtain rfl:b=false:=by rw [<- HB.o];exact Ih U.o jZ
     go_wp2;go_ret;exact⟨rfl,HK2.o⟩
    | true=>
     have T:Hi ((L.take (k+1)).all WC=true):=lH (by rw [Kz U.o,HP.o,HPX.o];rfl);go_wp2_with fail;rw [rounds_succ];go_wp2;go_roundw;case rel=>exact⟨k+1,by go_num,by omega,T,HK2⟩
     case measure=>simp [intOf];omega
  ·obtain rfl:k=n:=bB;obtain rfl:b=true:=by rw [<- HB.o,<- HP.o,Ak bL]
   go_wp2;go_ret;exact⟨rfl,HK.o⟩
def My(v:Int×List UInt8×Nat):List Value:=[pE pK v.1,Dz ⟨v.2.1.toArray⟩,pE pK (v.2.2:Nat)]
def Fm:List Value:=B7.flatMap My
def Er(w:World):Prop:=∀j u,Fm[j]? = some u->w.cell? ⟨1,j,none⟩=some u
theorem Er.keeps{S:List Nat}{w w':World}(h:Er w)(hk:Aa S w w')(hn:1∉S):Er w':=fun j u hj=>(hk.cell (p:=A_ 1 j) (Be w _ (h j u hj)) hn).trans (h j u hj)
theorem TP{w:World}(h:Er w):(loadVar 267 (A_ 1 0)).run prog w = .ok (.agg Fm.toArray) w:=by
 have D:=run_loadCells_list (P:=prog) (w:=w) (A_ 1 0) Fm (fun j v hj=>by rw [BR,AW];exact h j v hj);have hg:(isAgg 267).run prog w = .ok true w:=bC;simp only [loadVar,Sem.run_bind,hg,Result.andThen_ok];have B:Fm.length=30:=bE;rw [B] at D;simp [D,Bg]
theorem KR{w:World}(h:Er w):(Instr.loadAt 267 (pG (some (A_ 1 0)))).run prog w = .ok (.agg Fm.toArray) w:=by
 have:=TP h;simp [Instr.loadAt,Instr.sureAddr,this]
theorem GV{F:Fence}{B:Nat}{P:Program}(w:World){ops:Array Oper}{rest:List Oper}{o:Oper}{a:Act}{Q:Exit->Act->World->Prop}(hgd:o.guard=none)(x:Operand)(t:TypeId)
 (ho:o.op = .load t x){u v:Value}(hx:a.eval x=u)(hr:(Instr.loadAt t u).run P w = .ok v w)(h:wpListIn F B P ops Q rest (a.put o.dst v) w):wpListIn F B P ops Q (o::rest) a w:=by
 refine wpListIn_plain hgd fun K hK=>?_;unfold Oper.wpIn;refine⟨by simp [Oper.about,ho],?_⟩;rw [Oper.semAt_plain F _ _ lN];simp [execOp,ho,hx,hr,Bg];exact hK _ _ h
def Mh(v:Int×List UInt8×Nat):Array Value:=#[.agg (My v).toArray]
theorem Md(k:Nat)(hk:k<10)(v:Int×List UInt8×Nat)(hv:B7[k]? = some v)(w:World):(Instr.index 267 (.agg Fm.toArray) (I_ (k:Int))).run prog w = .ok (.agg (My v).toArray) w:=by
 have h:k=0\/k=1\/k=2\/k=3\/k=4\/k=5\/k=6\/k=7\/k=8\/k=9:=bB;rcases h with rfl | rfl | rfl | rfl | rfl | rfl | rfl | rfl | rfl | rfl<;>(simp only [B7,Aj,Ao,Option.some.injEq] at hv;subst hv;show _=_;kernel_rfl)
theorem eQ(l:List UInt8)(s:ByteArray):((⟨l.toArray⟩:ByteArray).toList==s.toList)=(l==s.data.toList):=by
 rw [ED,ED]
theorem Xn(n:Int)(l:List UInt8)(st:Int)(s:ByteArray)(wb:Nat)(b:Bool)(hb:(l==s.data.toList)=b)(w:World)(E:w.cell? (A_ wb 0)=some (Dz s)):
  Calls prog 96 #[pH #[pE pK n,Dz ⟨l.toArray⟩,I_ st],p_ wb 0] w fun e w'=>e = pJ (pI b)/\Aa [] w w':=by
 have HK:=lH ((Aa.refl [] w).alloc (.cells #[pE pK n,Dz ⟨l.toArray⟩,I_ st] 199));have B:=HK.o.cellsV _ _ E;have he:=eQ l s;rw [hb] at he;obtain⟨t,D⟩:∃t:ByteArray,(⟨l.toArray⟩:ByteArray)=t:=⟨_,rfl⟩;rw [D] at he HK B ⊢;clear D hb;go_enter func96,ntmps96;go_wp2;go_ret;exact⟨rfl,HK.o⟩
theorem Z8(B n:Int)(l:List UInt8)(st:Nat)(b:Bool)(hb:(setsR B &&& st != 0)=b)(hst:st=1\/st=2\/st=4)(w:World):
  Calls prog 108 #[pE pK B,pH #[pE pK n,Dz ⟨l.toArray⟩,I_ (st:Nat)]] w fun e w'=>e = pJ (pI b)/\Aa [] w w':=by
 obtain⟨r,hr⟩:=eX (setsR B);have D:r=7\/r=3\/r=1\/r=0:=by
  rw [<- hr];unfold setsR
  repeat' split
  all_goals simp
 have hs:=fun W=>S8 B W;rw [hr] at hb hs;have HS:=lH hs;have HK:=lH ((Aa.refl [] w).alloc (.cells #[pE pK n,Dz ⟨l.toArray⟩,I_ (st:Nat)] 199));have HB:=lH hb;obtain⟨t,E⟩:∃t:ByteArray,(⟨l.toArray⟩:ByteArray)=t:=⟨_,rfl⟩;rw [E] at HK ⊢;have c2:(w.alloc (.cells #[pE pK n,Dz t,I_ (st:Nat)] 199)).cell? (A_ w 2)=some (I_ (st:Nat)):=(Blk.new w 199 #[pE pK n,Dz t,I_ (st:Nat)]).cell 2;clear E hb hs hr;go_enter func108,ntmps108;go_wp2
 go_region_held3 (fun w'=>w'.cell? (A_ w 2)=some (I_ (st:Nat))) (first | exact c2) (first | (go_at_call 130;refine(HS.o _).mono ?_;rintro e w1 ⟨rfl,rfl⟩))
 all_goals go_wp2
 all_goals go_ret
 refine⟨Jv ?_,HK.o.drew⟩;rw [<- HB.o];rcases D with rfl | rfl | rfl | rfl<;>rcases hst with rfl | rfl | rfl<;>rfl
theorem ZY:∀x∈B7,x.2.2=1\/x.2.2=2\/x.2.2=4:=bE
theorem Ut(n l tb:Nat)(wb:Nat)(s:ByteArray)(J Jx:List (Int×List UInt8×Nat)->World->Prop)(W:World)(hJ:PG [] J)(hV:∀z A,J z A->Er A/\A.cell? (A_ tb 0)=some (.func (.func 96) #[] #[pG (some (A_ wb 0))])/\A.cell? (A_ wb 0)=some (Dz s))
 (hY:∀pre x W1,J pre W1->pre++[x] <+: B7.filter (fun v=>v.2.1==s.data.toList)->YieldAt Bx (n - 1) prog l (Mh x) W1 fun e W'=>
   (e = pJ (pI true)/\J (pre++[x]) W')\/(e = pJ (pI false)/\Jx (pre++[x]) W'))
 (h0:J [] W):
  CallsIn Bx n prog 148 #[.func (.yield l) #[] #[],p_ tb 0] W fun e W'=>(∃v,e = pJ v)/\
   (J (B7.filter (fun v=>v.2.1==s.data.toList)) W'\/(∃pre,pre <+: B7.filter (fun v=>v.2.1==s.data.toList)/\Jx pre W')):=by
 have HJ:=lH hJ;have HV:=lH hV;have HY:=lH hY;have T:=lH h0;clear hJ hV hY h0;have ab:Fence.wide.depth.isSome=true->1<=n:=by intro h;cases h
 refine callsIn_of_wp func148 rfl trivial ?_ rfl;simp only [ntmps148,Cz,Av,D4,pL,pM,Bt,Bu,Cd,BD,BH,AL];gi_wp2;refine BW (wpIn_seq (wpIn_label ?_));obtain⟨VC,F⟩:=eX Fm.toArray;have af:=lH F
 gi_step
 gi_step
 gi_step
 refine GV _ rfl _ 267 rfl rfl (KR (HV.o _ _ T.o).1) ?_;rw [F];clear F;gi_wp2
 gi_loopw [6] (fun i wr=>∃k:Nat,i = I_ k/\k<=10/\Hi (J ((B7.take k).filter (fun v=>v.2.1==s.data.toList)) wr)) (fun i _=>10 - (intOf i).toNat)
 case atStart=>exact⟨0,rfl,Ba _,T⟩
 case round=>
  obtain⟨k,rfl,hk,X⟩:=hrel;by_cases hlt:k<10
  ·have i1:(0:Int)<=(k:Int):=bB;have i2:(k:Int)<10:=bB;obtain⟨⟨M,O,N⟩,hx⟩:∃x,B7[k]? = some x:=⟨_,Aq (by simpa [B7] using hlt)⟩;have B:=fun W'=>Md k hlt (M,O,N) hx W';rw [af.o] at B;simp only [My] at B;have hk0:=(Aa.refl [] wr).alloc (.cells #[pE pK M,Dz ⟨O.toArray⟩,I_ (N:Nat)] 199);have hb:=Blk.new wr 199 #[pE pK M,Dz ⟨O.toArray⟩,I_ (N:Nat)];have d0:=hb.ce 0;have d1:=hb.ce 1;have d2:=hb.ce 2;have G:=HJ.o _ _ _ X.o hk0;obtain⟨al,hv2,am⟩:=HV.o _ _ G;obtain⟨b,ac⟩:=eX ((fun v=>v.2.1==s.data.toList) (M,O,N));have U:=lH G;have HPB:=lH ac;have HX:=lH hx;have HB:=lH hb;clear hk0 hb G ac hx;gi_wp2_with fail;refine⟨trivial,ab,?_⟩;refine(callsIn_wide.2 (Xn M O (N:Nat) s wb b HPB.o _ (by have:=(HV.o _ _ U.o).2.2;exact this))).mono ?_;rintro e w1 ⟨rfl,hk1⟩;have aa:=HJ.o _ _ _ U.o hk1;have HB1:=lH (HB.o.keeps hk1 bA);have HJ2:=lH aa;clear aa hk1 d0 d1 d2 al hv2 am B;cases b with
   | false=>
    have hz:(B7.take (k+1)).filter (fun v=>v.2.1==s.data.toList)=(B7.take k).filter (fun v=>v.2.1==s.data.toList):=by rw [A0 HX.o,E5,List.filter_cons,HPB.o];simp
    have E:Hi (J ((B7.take (k+1)).filter (fun v=>v.2.1==s.data.toList)) w1):=lH (by rw [hz];exact HJ2.o);clear hz;gi_wp2;refine⟨(fun f hf=>by cases hf),?_⟩;gi_wp2;go_roundw;case rel=>exact⟨k+1,by go_num,by omega,E⟩
    case measure=>simp [intOf];omega
   | true=>
    have hz:(B7.take (k+1)).filter (fun v=>v.2.1==s.data.toList)=(B7.take k).filter (fun v=>v.2.1==s.data.toList)++[(M,O,N)]:=by rw [A0 HX.o,E5,List.filter_cons,HPB.o];simp
    have D:(B7.take k).filter (fun v=>v.2.1==s.data.toList)++[(M,O,N)] <+: B7.filter (fun v=>v.2.1==s.data.toList):=by rw [<- hz];exact(List.take_prefix _ _).filter _
    have ad:=Dq (HY.o _ _ _ HJ2.o D);rw [<- hz] at ad;obtain⟨fn,tmps,assign,body,hy,hR⟩:=ad;simp only [Mh,My] at hy;have d0:=HB1.o.ce 0;have d1:=HB1.o.ce 1;have d2:=HB1.o.ce 2;have Y:Hi ((B7.take (k+1)).filter (fun v=>v.2.1==s.data.toList) <+: B7.filter (fun v=>v.2.1==s.data.toList)):=lH (by rw [hz];exact D);clear hz D;gi_wp2;refine⟨ab,?_⟩;refine hR.mono ?_;rintro e W3 ⟨g,rfl,hT,hF⟩;clear hR hy d0 d1 d2;cases g with
    | false=>
     have aj:=lH (hF.out rfl);clear hT hF;gi_wp2;try rw [AY]
     go_end0
     exact⟨⟨_,rfl⟩,.inr ⟨_,Y.o,aj.out⟩⟩
    | true=>
     have E:=lH (hT.out rfl);clear hT hF;gi_wp2;go_roundw;case rel=>exact⟨k+1,by go_num,by omega,E⟩
     case measure=>simp [intOf];omega
  ·obtain rfl:k=10:=bB;gi_wp2;try rw [AY]
   go_end0
   exact⟨⟨_,rfl⟩,.inl X.o⟩
theorem Xj(n tb:Nat)(wb:Nat)(s:ByteArray):
  QL Bx n prog 148 #[pG (some (A_ tb 0))] Mh (B7.filter (fun v=>v.2.1==s.data.toList)) (fun A=>Er A/\A.cell? (A_ tb 0)=some (.func (.func 96) #[] #[pG (some (A_ wb 0))])/\A.cell? (A_ wb 0)=some (Dz s)):=fun l J Jx W hJ _ hV hY h0=>
 Ut n l tb wb s J Jx W hJ hV hY h0
theorem Xi(n l tb:Nat)(B:Int)(J Jx:List (Int×List UInt8×Nat)->World->Prop)(W:World)(hJ:PG [] J)(hV:∀z A,J z A->Er A/\A.cell? (A_ tb 0)=some (.func (.func 108) #[pE pK B] #[]))
 (hY:∀pre x W1,J pre W1->pre++[x] <+: B7.filter (fun v=>setsR B &&& v.2.2 != 0)->YieldAt Bx (n - 1) prog l (Mh x) W1 fun e W'=>
   (e = pJ (pI true)/\J (pre++[x]) W')\/(e = pJ (pI false)/\Jx (pre++[x]) W'))
 (h0:J [] W):
  CallsIn Bx n prog 148 #[.func (.yield l) #[] #[],p_ tb 0] W fun e W'=>(∃v,e = pJ v)/\
   (J (B7.filter (fun v=>setsR B &&& v.2.2 != 0)) W'\/(∃pre,pre <+: B7.filter (fun v=>setsR B &&& v.2.2 != 0)/\Jx pre W')):=by
 have HJ:=lH hJ;have HV:=lH hV;have HY:=lH hY;have U:=lH h0;clear hJ hV hY h0;have ab:Fence.wide.depth.isSome=true->1<=n:=by intro h;cases h
 refine callsIn_of_wp func148 rfl trivial ?_ rfl;simp only [ntmps148,Cz,Av,D4,pL,pM,Bt,Bu,Cd,BD,BH,AL];gi_wp2;refine BW (wpIn_seq (wpIn_label ?_));obtain⟨VC,G⟩:=eX Fm.toArray;have af:=lH G
 gi_step
 gi_step
 gi_step
 refine GV _ rfl _ 267 rfl rfl (KR (HV.o _ _ U.o).1) ?_;rw [G];clear G;gi_wp2
 gi_loopw [6] (fun i wr=>∃k:Nat,i = I_ k/\k<=10/\Hi (J ((B7.take k).filter (fun v=>setsR B &&& v.2.2 != 0)) wr)) (fun i _=>10 - (intOf i).toNat)
 case atStart=>exact⟨0,rfl,Ba _,U⟩
 case round=>
  obtain⟨k,rfl,hk,X⟩:=hrel;by_cases hlt:k<10
  ·have i1:(0:Int)<=(k:Int):=bB;have i2:(k:Int)<10:=bB;obtain⟨⟨N,T,O⟩,hx⟩:∃x,B7[k]? = some x:=⟨_,Aq (by simpa [B7] using hlt)⟩;have D:=fun W'=>Md k hlt (N,T,O) hx W';rw [af.o] at D;simp only [My] at D;have hk0:=(Aa.refl [] wr).alloc (.cells #[pE pK N,Dz ⟨T.toArray⟩,I_ (O:Nat)] 199);have hb:=Blk.new wr 199 #[pE pK N,Dz ⟨T.toArray⟩,I_ (O:Nat)];have d0:=hb.ce 0;have d1:=hb.ce 1;have d2:=hb.ce 2;have M:=HJ.o _ _ _ X.o hk0;obtain⟨am,hv2⟩:=HV.o _ _ M;obtain⟨b,ac⟩:=eX ((fun v=>setsR B &&& v.2.2 != 0) (N,T,O));have ae:=lH M;have HPB:=lH ac;have HX:=lH hx;have HB:=lH hb;clear hk0 hb M ac hx;gi_wp2_with fail;refine⟨trivial,ab,?_⟩;refine(callsIn_wide.2 (Z8 B N T O b HPB.o (ZY _ (CD HX.o)) _)).mono ?_;rintro e w1 ⟨rfl,hk1⟩;have aa:=HJ.o _ _ _ ae.o hk1;have HB1:=lH (HB.o.keeps hk1 bA);have HJ2:=lH aa;clear aa hk1 d0 d1 d2 am hv2 D;cases b with
   | false=>
    have hz:(B7.take (k+1)).filter (fun v=>setsR B &&& v.2.2 != 0)=(B7.take k).filter (fun v=>setsR B &&& v.2.2 != 0):=by rw [A0 HX.o,E5,List.filter_cons,HPB.o];simp
    have F:Hi (J ((B7.take (k+1)).filter (fun v=>setsR B &&& v.2.2 != 0)) w1):=lH (by rw [hz];exact HJ2.o);clear hz;gi_wp2;refine⟨(fun f hf=>by cases hf),?_⟩;gi_wp2;go_roundw;case rel=>exact⟨k+1,by go_num,by omega,F⟩
    case measure=>simp [intOf];omega
   | true=>
    have hz:(B7.take (k+1)).filter (fun v=>setsR B &&& v.2.2 != 0)=(B7.take k).filter (fun v=>setsR B &&& v.2.2 != 0)++[(N,T,O)]:=by rw [A0 HX.o,E5,List.filter_cons,HPB.o];simp
    have E:(B7.take k).filter (fun v=>setsR B &&& v.2.2 != 0)++[(N,T,O)] <+: B7.filter (fun v=>setsR B &&& v.2.2 != 0):=by rw [<- hz];exact(List.take_prefix _ _).filter _
    have ad:=Dq (HY.o _ _ _ HJ2.o E);rw [<- hz] at ad;obtain⟨fn,tmps,assign,body,hy,hR⟩:=ad;simp only [Mh,My] at hy;have d0:=HB1.o.ce 0;have d1:=HB1.o.ce 1;have d2:=HB1.o.ce 2;have Y:Hi ((B7.take (k+1)).filter (fun v=>setsR B &&& v.2.2 != 0) <+: B7.filter (fun v=>setsR B &&& v.2.2 != 0)):=lH (by rw [hz];exact E);clear hz E;gi_wp2;refine⟨ab,?_⟩;refine hR.mono ?_;rintro e W3 ⟨g,rfl,hT,hF⟩;clear hR hy d0 d1 d2;cases g with
    | false=>
     have ak:=lH (hF.out rfl);clear hT hF;gi_wp2;try rw [AY]
     go_end0
     exact⟨⟨_,rfl⟩,.inr ⟨_,Y.o,ak.out⟩⟩
    | true=>
     have F:=lH (hT.out rfl);clear hT hF;gi_wp2;go_roundw;case rel=>exact⟨k+1,by go_num,by omega,F⟩
     case measure=>simp [intOf];omega
  ·obtain rfl:k=10:=bB;gi_wp2;try rw [AY]
   go_end0
   exact⟨⟨_,rfl⟩,.inl X.o⟩
theorem ZO(n tb:Nat)(role:Int):
  QL Bx n prog 148 #[pG (some (A_ tb 0))] Mh (B7.filter (fun v=>setsR role &&& v.2.2 != 0)) (fun A=>Er A/\A.cell? (A_ tb 0)=some (.func (.func 108) #[pE pK role] #[])):=fun l J Jx W hJ _ hV hY h0=>
 Xi n l tb role J Jx W hJ hV hY h0
end
section
open Go.RowKit Go.Shelf
attribute [local go_sem] pN Lr Ls Lp Lq
attribute [local go_sem ↓] wp_at_zero wp_at_succ
def Rl(n:Nat)(s:ByteArray):ByteArray:=s.extract 0 (min s.size n)
theorem VS(n:Nat)(s:ByteArray):(Rl n s).size<=n:=by unfold Rl;rw [ByteArray.size_extract];omega
theorem Q5{α:Type}{enc:α->List Value}{n:Nat}{wr:World}{B:Nat}{v:Value}{ys:List α}{t e:TypeId}(M:prog.underlying t=some (.slice e))(hi:D1 (prog.info? e) n=true)(h0:0<n)(hn:∀x,(enc x).length=n)(E:∀x,∀u∈enc x,u.oneCell'=true)
 (hv:wr.ownsRow B e n v ys.length (ys.flatMap enc))(J:B<=wr.heap.size)(x:α)(hm:ys.length+1<=1000000)(G:TypeId)(W:World)(hk:Aa [] wr W):
  ∃g c W4,(BI #[t,t] G #[v,pF (some (A_ W 0)) 1 1]).run prog (W.alloc (.cells (enc x).toArray e)) = .ok (pF (some (A_ g 0)) (ys.length+1) c) W4/\
   W4.ownsRow B e n (pF (some (A_ g 0)) (ys.length+1) c) (ys.length+1) ((ys++[x]).flatMap enc)/\Aa v.ownBlock.toList wr W4:=by
 have hrow:=Ah hv hk (fun _ _=>by simp);obtain⟨g,c,W4,F,D,hk4,_⟩:=CO (enc:=enc) prog M hi h0 hn E hrow (A8 J hk.size) x hm G;rw [show(ys++[x]).length=ys.length+1 by simp] at D;exact⟨g,c,W4,F,D,(hk.mono bA).trans hk4⟩
def Rm(o:GF):GF:={ o with name:=Rl 66 o.name }
def Jg(L:List GF):List GF:=(L.take 12).map Rm
theorem Wb(a:Option Addr)(c:Nat)(L:List GF)(n:Nat)(hn:L.length=n)(hm:n<=9223372036854775807)(hs:∀o∈L,o.name.size<=maxLen)(w:World)(h:IE w a c L):
  Calls prog 24 #[pF a n c] w fun e w'=>∃a' n' c',e = pJ (.slice a' n' c')/\IE w' a' c' (Jg L)/\(Jg L).length=n'/\(∀g o,a'=some (A_ g o)->w.heap.size<=g)/\Aa [] w w':=by
 have H:=lH h;have HN:=lH hn;have HS:=lH hs;clear h hn hs;go_enter func24,ntmps24;go_wp2;go_loopw [3,4] (fun v i wr=>∃k:Nat,k<=n/\k<=12/\i = I_ k/\Hi (wr.ownsRow w 81 2 v ((L.take k).map Rm).length (((L.take k).map Rm).flatMap Eg))/\Hi (Aa [] w wr)) (fun _ i _=>12 - (intOf i).toNat)
 case atStart=>exact⟨0,Ba _,Ba _,rfl,lH (BQ _ _ _ _),lH (Aa.refl _ _)⟩
 case round=>
  obtain⟨k,hkn,ad,rfl,HR,HK⟩:=hrel;by_cases hlt:k<n/\k<12
  ·obtain⟨h1,h2⟩:=hlt
   obtain⟨x,hx⟩:∃x,L[k]? = some x:=⟨_,Aq lZ⟩;obtain⟨g,off,x',rfl,hg,D,hat⟩:=H.o.at_k (k:=k) lZ;obtain rfl:x=x':=by rw [hx] at D;injection D
   have q0:wr.cell? (A_ g (off+k*2))=_:=(HK.o.cell (p:=A_ g _) hg bA).trans (hat 0 _ rfl);have q1:wr.cell? (A_ g (off+k*2+1))=_:=(HK.o.cell (p:=A_ g _) hg bA).trans (hat 1 _ rfl);have hsz:x.name.size<=maxLen:=HS.o x (CD hx);unfold maxLen at hsz;obtain⟨m,J⟩:∃m:Nat,min x.name.size 66=m:=⟨_,rfl⟩;have z1:(if(66:Int)<(x.name.size:Int) then(66:Int) else(x.name.size:Int))=(m:Int):=by split<;>omega
   have z2:m<=x.name.size:=bB;have i1:(0:Int)<=(k:Int):=bB;have i2:(k:Int)<(n:Int):=bB;have i3:(k:Int)<12:=bB;obtain⟨ys,B⟩:=eX ((L.take k).map Rm);have Y:Hi ((L.take (k+1)).map Rm=ys++[(⟨x.name.extract 0 m,x.role⟩:GF)]):=lH (by rw [A0 hx,pO,B,<- J];rfl);rw [B] at HR;have aa:Hi (ys.length<=12):=lH (by rw [<- B,Bd,Ax];omega);have U:=lH (Q5 (enc:=Eg) (t:=22) underlying22 bC bE Fc MW HR.o HK.o.size (⟨x.name.extract 0 m,x.role⟩:GF) (by have:=aa.o;omega) 22);have af:g∉u3.ownBlock.toList:=fun hm=>by have:=AZ HR.o _ hm;omega
   have T:Hi (∀W,Aa u3.ownBlock.toList wr W->Aa [] w W):=lH fun W hW=>HK.o.own hW (AZ HR.o);have ag:g<wr.heap.size:=BS hg HK.o.size;clear hx D hat B hsz J hg;go_wp2_with fail;refine wp_region_held_drew (S:=(Aa u3.ownBlock.toList wr)) bC nT (fun hHeld=>?_);refine rK 0 ?_;refine rK 1 ?_;refine rK 2 ?_;refine rK 3 ?_;refine rK 4 ?_;refine rK 5 ?_;refine rK 6 ?_;refine rK 7 ?_;refine rK 8 ?_;refine rK 9 ?_;refine rK 10 ?_;refine rK 11 ?_;refine rK 12 ?_;refine rK 13 ?_;refine rK 14 ?_;refine rK 15 ?_;refine rK 16 ?_;refine rK 17 ?_;refine rK 18 ?_;refine rK 19 ?_;refine rC 20 fun K hK=>?_;go_simp
   (try clear rH);refine rP hK nT fun rH hHeld=>?_;clear hK K
   refine rC 21 fun K hK=>?_
   (obtain⟨g4,c4,W4,M,ac,hk4⟩:=U.o _ ((Aa.refl [] wr).drew);have X:=lH ac;refine BG _ _ 22 bD bD bD bD M ?_)
   (try clear rH);refine rP hK nT fun rH hHeld=>?_;clear hK K
   refine rK 22 ?_;refine wpAnyH_done bC ?_ _
   (go_wp2_with fail;go_roundw;(case rel=>exact⟨k+1,by omega,by omega,by go_num,lH (by rw [Y.o,Al,Bp];exact X.o),lH (T.o _ hk4)⟩);(case measure=>(simp [intOf];omega)))
  ·have e1:((n:Nat):Int)<=(k:Int)\/(12:Int)<=(k:Int):=bB;have eL:Jg L=(L.take k).map Rm:=by
    have h1:=HN.o;unfold Jg;rcases pP k 12 with h | h
    ·rw [Ak (by omega:L.length<=12),Ak (by omega:L.length<=k)]
    ·rw [show k=12 by omega]
   obtain⟨a',c',rfl,O,G⟩:=AR.of_row Fc HR.o;have E:=lH G;have F:Hi (IE wr a' c' (Jg L)):=lH (by rw [eL];exact O);obtain⟨N,hN⟩:=eX (((L.take k).map Rm).length);rw [hN];have HLE:Hi ((Jg L).length=N):=lH (by rw [eL,hN]);clear O eL hlt hN G;rcases pP k n with hk | hk
   ·have i2:(k:Int)<(n:Int):=bB;have i3:¬(k:Int)<12:=bB;clear e1;go_wp2_with fail;go_ret;exact⟨_,_,_,rfl,F.o,HLE.o,E.o,HK.o⟩
   ·have i2:¬(k:Int)<(n:Int):=bB;clear e1;go_wp2_with fail;go_ret;exact⟨_,_,_,rfl,F.o,HLE.o,E.o,HK.o⟩
theorem AR.head_run{α:Type}{enc:α->List Value}{n:Nat}{t e:TypeId}(E:prog.underlying t=some (.slice e))(he:prog.elem t=e)(hz:∀W,(sizeOf e).run prog W = .ok n W){w:World}{a:Option Addr}{c:Nat}{xs:List α}(h:AR enc n w a c xs){N:Nat}(hN:xs.length=N)(k:Nat)(hk:k<=N):
  (∀W,(AV t (pF a N c) none (some (I_ (k:Int))) none).run prog W = .ok (pF a k c) W)/\AR enc n w a c (xs.take k):=by
 have B:prog.underlying t=some (.slice (prog.elem t)):=by rw [he];exact E
 have F:k<=c:=by have:=h.le;omega
 have D:=fun W=>run_slice_h (P:=prog) W t a N c B .i64 k bB bB;simp only [he,hz,Result.andThen_ok,pW] at D;refine⟨fun W=>(D W).trans ?_,h.take k⟩;unfold sliced;cases a with
 | none=>simp
 | some q=>
  by_cases h0:c=0
  ·simp [h0]
  ·simp [h0,Addr.add]
theorem Iy(n K:Nat)(I:Int)(m:Nat)(h:min n K=m)(hI:I=(K:Int):=by rfl):(if I<(n:Int) then I else(n:Int))=(m:Int)/\min (n:Int) I=(m:Int)/\m<=n:=⟨by split<;>omega,by omega,by omega⟩
theorem VZ(a:Option Addr)(c:Nat)(L:List EX)(n:Nat)(hn:L.length=n)(hm:n<=9223372036854775807)(w:World)(h:Ku w a c L):
  Calls prog 61 #[pF a n c] w fun e w'=>∃a' n' c',e = pJ (.slice a' n' c')/\Ku w' a' c' (L.take 18)/\(L.take 18).length=n'/\w'.ownsRow w 55 5 (.slice a' n' c') n' ((L.take 18).flatMap B8)/\Aa [] w w':=by
 obtain⟨m,B⟩:∃m:Nat,min n 18=m:=⟨_,rfl⟩;obtain⟨U,z2,O⟩:=Iy n 18 18 m B;obtain⟨hr,M⟩:=AR.head_run (t:=128) underlying128 bC (fun W=>by kernel_rfl) h hn m O;have N:L.take m=L.take 18:=by rw [<- B,<- hn,Nat.min_comm,<- List.take_eq_take_min]
 rw [N] at M;have hl:(L.take 18).length=m:=by rw [Ax,hn,Nat.min_comm];exact B
 obtain⟨T,z,D,E,F,G,J⟩:=Ck MP;obtain⟨v',w',h1,h2,h3⟩:=AR.app (ys:=[]) prog underlying128 D E F rfl G bE Cv FA (BQ w w 55 5) (Aw _) M (by rw [hl];simp;omega) J 128;rw [hl] at h1;rw [BH] at h2;obtain⟨a',c',rfl,hs,_⟩:=AR.of_row Cv h2;rw [hl] at h2;rw [hl] at h1;have HR:Hi (Calls prog 61 #[pF a n c] w fun e w1=>e = pJ (.slice a' m c')/\w'=w1):=lH (by
  clear h M N hl hs h2 h3 B;go_enter func61,ntmps61;go_wp2_with (at_builtin;refine Au _ rfl _ _ 128 rfl rfl rfl h1 ?_);go_ret;exact⟨rfl,rfl⟩)
 refine HR.o.mono ?_;rintro e w1 ⟨rfl,rfl⟩;exact⟨a',m,c',rfl,hs,hl,h2,(Aa.refl [] w).grown h3 (fun k hk=>by simp [EZ] at hk)⟩
def Fq(s:Fz):Fz:=⟨s.gens.take 66,s.used.take 66,s.free.take 66⟩
theorem L8{α:Type}{L:List α}{n m:Nat}(hn:L.length=n)(h:min n 66=m):L.take m=L.take 66/\(L.take 66).length=m:=
 ⟨by rw [<- h,<- hn,Nat.min_comm,<- List.take_eq_take_min],by rw [Ax,hn,Nat.min_comm];exact h⟩
theorem VO(v:DF)(s:Fz)(gn un fn:Nat)(hg:s.gens.length=gn)(hu:s.used.length=un)(hf:s.free.length=fn)(w:World)(hG:F1 w v.ga v.gc s.gens)(Y:GX w v.ua v.uc s.used)(hF:F1 w v.fa v.fc s.free):
  Calls prog 60 #[pH (S_ v gn un fn)] w fun e w'=>∃g u f,e = pJ (pH (S_ v g u f))/\Dy w' v (Fq s)/\((Fq s).gens.length=g/\(Fq s).used.length=u/\(Fq s).free.length=f)/\Aa [] w w':=by
 obtain⟨g,D⟩:∃m:Nat,min gn 66=m:=⟨_,rfl⟩;obtain⟨u,E⟩:∃m:Nat,min un 66=m:=⟨_,rfl⟩;obtain⟨f,B⟩:∃m:Nat,min fn 66=m:=⟨_,rfl⟩;obtain⟨ah,ai,N⟩:=Iy gn 66 66 g D;obtain⟨aj,ak,O⟩:=Iy un 66 66 u E;obtain⟨af,ag,M⟩:=Iy fn 66 66 f B;obtain⟨rg,G⟩:=AR.head_run (t:=23) underlying23 bC (fun W=>by kernel_rfl) hG hg g N;obtain⟨ru,J⟩:=AR.head_run (t:=24) underlying24 bC (fun W=>by kernel_rfl) Y hu u O;obtain⟨rf,F⟩:=AR.head_run (t:=23) underlying23 bC (fun W=>by kernel_rfl) hF hf f M;obtain⟨U,lg⟩:=L8 hg D;obtain⟨X,lu⟩:=L8 hu E;obtain⟨T,lf⟩:=L8 hf B;rw [U] at G;rw [X] at J;rw [T] at F;have HM:Hi (Dy w v (Fq s)):=lH ⟨G,J,F,by show(s.gens.take 66).length<=1000;omega,by show(s.used.take 66).length<=1000;omega,by show(s.free.take 66).length<=1000;omega⟩;have HL:Hi ((Fq s).gens.length=g/\(Fq s).used.length=u/\(Fq s).free.length=f):=lH ⟨lg,lu,lf⟩;clear G J F U X T lg lu lf D E B hg hu hf hG Y hF;obtain⟨w0,hw0⟩:=eX ((w.alloc (.cells (S_ v gn un fn) 26)).alloc (.cells IY.k 26));have HK0:Hi (Aa [] w w0):=lH lX;have hb0:Blk w0 w 26 (S_ v gn un fn):=by rw [<- hw0];exact(Blk.new w _ _).alloc _
 have hb1:Blk w0 (w+1) 26 IY.k:=by rw [<- hw0];exact Ar _ _ _ _ bA
 have q0:=hb0.rl;have q1:=hb1.rl;clear hb0 hb1;go_enter func60,ntmps60;go_wp2_with fail;clear hw0;refine wp_region_held_drew (S:=(Aa [w.heap.size+1] w0)) bC kH (fun hHeld=>?_);refine rK 0 ?_;refine rK 1 ?_;refine rK 2 ?_;refine rK 3 ?_;refine rK 4 ?_;refine rK 5 ?_;refine rK 6 ?_;refine rK 7 ?_;refine rK 8 ?_;refine rK 9 ?_;refine rK 10 ?_;refine rK 11 ?_;refine rK 12 ?_;refine rK 13 ?_;refine rK 14 ?_;refine rK 15 ?_;refine rK 16 ?_;refine rK 17 ?_;refine rK 18 ?_;refine rK 19 ?_;refine rK 20 ?_;refine rK 21 ?_;refine rC 22 fun K hK=>?_;go_simp
 (try clear rH);refine rP hK kH fun rH hHeld=>?_;clear hK K
 refine wpAnyH_done bC ?_ _
 (go_wp2_with fail;exact bodyPost_ret (v:=pH (S_ v g u f)) (by simp [results,results60,go_sem,q1]) rfl ⟨g,u,f,rfl,HM.o.keeps (HK0.o.own hHeld bF),HL.o,HK0.o.own hHeld bF⟩)
def F0(s:ByteArray):ByteArray:=s.extract 0 (min s.size 310)
theorem OQ(s:ByteArray):(F0 s).size<=310:=by unfold F0;rw [ByteArray.size_extract];omega
theorem EU(s:ByteArray)(w:World):Calls prog 10 #[Dz s] w fun r w'=>r = pJ (Dz (F0 s))/\w=w':=by
 obtain⟨m,hm⟩:∃m:Nat,min s.size 310=m:=⟨_,rfl⟩;obtain⟨h1,h3,h2⟩:=Iy s.size 310 310 m hm;unfold F0;rw [hm];go_enter func10,ntmps10;go_wp2_with fail;go_ret;exact⟨rfl,rfl⟩
def Ot(c:El):El:={ c with key:=Rl 65 c.key }
def GN(L:List El):List El:=(L.take 6).map Ot
theorem Wa(a:Option Addr)(c:Nat)(L:List El)(n:Nat)(hn:L.length=n)(hm:n<=9223372036854775807)(hs:∀o∈L,o.key.size<=maxLen)(w:World)(h:Hg w a c L):
  Calls prog 62 #[pF a n c] w fun e w'=>∃a' n' c',e = pJ (.slice a' n' c')/\Hg w' a' c' (GN L)/\(GN L).length=n'/\w'.ownsRow w 209 4 (.slice a' n' c') n' ((GN L).flatMap BT)/\Aa [] w w':=by
 have H:=lH h;have HN:=lH hn;have HS:=lH hs;clear h hn hs;go_enter func62,ntmps62;go_wp2;go_loopw [3,4] (fun v i wr=>∃k:Nat,k<=n/\k<=6/\i = I_ k/\Hi (wr.ownsRow w 209 4 v ((L.take k).map Ot).length (((L.take k).map Ot).flatMap BT))/\Hi (Aa [] w wr)) (fun _ i _=>6 - (intOf i).toNat)
 case atStart=>exact⟨0,Ba _,Ba _,rfl,lH (BQ _ _ _ _),lH (Aa.refl _ _)⟩
 case round=>
  obtain⟨k,hkn,ac,rfl,HR,HK⟩:=hrel;by_cases hlt:k<n/\k<6
  ·obtain⟨h1,h2⟩:=hlt
   obtain⟨x,hx⟩:∃x,L[k]? = some x:=⟨_,Aq lZ⟩;obtain⟨g,off,x',rfl,hg,G,hat⟩:=H.o.at_k (k:=k) lZ;obtain rfl:x=x':=by rw [hx] at G;injection G
   have q0:wr.cell? (A_ g (off+k*4))=_:=(HK.o.cell (p:=A_ g _) hg bA).trans (hat 0 _ rfl);have q1:wr.cell? (A_ g (off+k*4+1))=_:=(HK.o.cell (p:=A_ g _) hg bA).trans (hat 1 _ rfl);have q2:wr.cell? (A_ g (off+k*4+2))=_:=(HK.o.cell (p:=A_ g _) hg bA).trans (hat 2 _ rfl);have q3:wr.cell? (A_ g (off+k*4+3))=_:=(HK.o.cell (p:=A_ g _) hg bA).trans (hat 3 _ rfl);have hsz:x.key.size<=maxLen:=HS.o x (CD hx);unfold maxLen at hsz;obtain⟨m,F⟩:∃m:Nat,min x.key.size 65=m:=⟨_,rfl⟩;obtain⟨z1,z2,z3⟩:=Iy x.key.size 65 65 m F;have i1:(0:Int)<=(k:Int):=bB;have i2:(k:Int)<(n:Int):=bB;have i3:(k:Int)<6:=bB;obtain⟨ys,D⟩:=eX ((L.take k).map Ot);have aa:Hi ((L.take (k+1)).map Ot=ys++[(⟨x.id,x.key.extract 0 m,x.from_,x.to_⟩:El)]):=lH (by rw [A0 hx,pO,D,<- F];rfl);rw [D] at HR;have ab:Hi (ys.length<=6):=lH (by rw [<- D,Bd,Ax];omega);have X:=lH (Q5 (enc:=BT) (t:=129) underlying129 bC bE D0 Iq HR.o HK.o.size (⟨x.id,x.key.extract 0 m,x.from_,x.to_⟩:El) (by have:=ab.o;omega) 129);have U:Hi (∀W,Aa u3.ownBlock.toList wr W->Aa [] w W):=lH fun W hW=>HK.o.own hW (AZ HR.o);have ae:g<wr.heap.size:=BS hg HK.o.size;clear hx G hat D hsz F hg;go_wp2_with (at_builtin;obtain⟨g4,c4,W4,B,M,hk4⟩:=X.o _ ((Aa.refl [] wr).alloc (.cells #[pE pK x.id,Dz (x.key.extract 0 m),I_ x.from_,I_ x.to_] 209));rw [Eo] at B;refine Au _ rfl _ _ 129 rfl rfl rfl B ?_;have Y:=lH M;have HK4:=lH (U.o _ hk4);clear M hk4 B);go_roundw;case rel=>exact⟨k+1,by omega,by omega,by go_num,lH (by rw [aa.o,Al,Bp];exact Y.o),HK4⟩
   case measure=>(simp [intOf];omega)
  ·have e1:((n:Nat):Int)<=(k:Int)\/(6:Int)<=(k:Int):=bB;have T:GN L=(L.take k).map Ot:=by
    have h1:=HN.o;unfold GN;rcases pP k 6 with h | h
    ·rw [Ak (by omega:L.length<=6),Ak (by omega:L.length<=k)]
    ·rw [show k=6 by omega]
   obtain⟨a',c',rfl,O,_⟩:=AR.of_row D0 HR.o;have E:Hi (wr.ownsRow w 209 4 (.slice a' ((L.take k).map Ot).length c') ((L.take k).map Ot).length ((GN L).flatMap BT)):=lH (by rw [T];exact HR.o);have J:Hi (Hg wr a' c' (GN L)):=lH (by rw [T];exact O);obtain⟨N,hN⟩:=eX (((L.take k).map Ot).length);rw [hN] at E ⊢;have HLE:Hi ((GN L).length=N):=lH (by rw [T,hN]);clear O T hlt hN;rcases pP k n with hk | hk
   ·have i2:(k:Int)<(n:Int):=bB;have i3:¬(k:Int)<6:=bB;clear e1;go_wp2_with fail;go_ret;exact⟨_,_,_,rfl,J.o,HLE.o,E.o,HK.o⟩
   ·have i2:¬(k:Int)<(n:Int):=bB;clear e1;go_wp2_with fail;go_ret;exact⟨_,_,_,rfl,J.o,HLE.o,E.o,HK.o⟩
end
section
open Go.RowKit Go.Shelf
attribute [local go_sem] pN
attribute [local go_sem ↓] wp_at_zero wp_at_succ
theorem Zo{α:Type}{l:List α}{x:α}(h : []++[x] <+: l):l.head? = some x:=by
 obtain⟨t,rfl⟩:=h;rfl
theorem Pz(f:Value)(w:World)(hf:∃a b c,f = .func a b c):Calls prog 95 #[f] w fun r w'=>r = pJ (.func (.func 148) #[] #[pG (some (A_ w 0))])/\w.alloc (.cells #[f] 200)=w':=by
 obtain⟨a,b,c,rfl⟩:=hf;go_enter func95,ntmps95;go_wp2;go_ret;exact⟨rfl,rfl⟩
structure jI(w:World)(s:ByteArray)(tb:Nat)(A:World):Prop where
 ww:Blk A w.heap.size 9 #[Dz s]
 c2:Blk A (w.heap.size+1) 3 #[pE pK 0]
 c3:Blk A (w.heap.size+1+1) 40 #[pE pK 0]
 tb:Blk A tb 200 #[.func (.func 96) #[] #[pG (some ⟨w,0,none⟩)]]
 kw:Aa [] w A
 vt:Er A
theorem jI.keeps{w:World}{s:ByteArray}{tb:Nat}{A A':World}{S:List Nat}(h:jI w s tb A)(hk:Aa S A A')(hS:∀y∈S,tb<y)(ht:w.heap.size+2<tb)(hg:1<w.heap.size):jI w s tb A':=
 have hn:∀y,y<=tb->y∉S:=fun y hy hm=>by have:=hS y hm;omega
 ⟨h.ww.keeps hk (hn _ bB),h.c2.keeps hk (hn _ bB),h.c3.keeps hk (hn _ bB),h.tb.keeps hk (hn _ bB),h.kw.own hk bM,h.vt.keeps hk (hn _ bB)⟩
structure lB(w:World)(s:ByteArray)(A:World):Prop where
 run:∃n:Int,verbR s=(n,0)∧Blk A (w.heap.size+1) 3 #[pE pK n]
 c3:Blk A (w.heap.size+1+1) 40 #[pE pK 0]
 kw:Aa [] w A
theorem lB.keeps{w:World}{s:ByteArray}{A B:World}{S:List Nat}(h:lB w s A)(hk:Aa S A B)(hS:∀y∈S,w.heap.size+2<y):lB w s B:=by
 obtain⟨n,h1,h2⟩:=h.run;have hn:∀y,y<=w.heap.size+2->y∉S:=fun y hy hm=>by have:=hS y hm;omega
 exact⟨⟨n,h1,h2.keeps hk (hn _ bB)⟩,h.c3.keeps hk (hn _ bB),h.kw.own hk bM⟩
theorem XB(s:ByteArray)(w:World)(hv:Er w):Calls prog 43 #[Dz s] w fun x w'=>x = pJ (.tuple #[pE pK (verbR s).1,I_ (verbR s).2])/\Aa [] w w':=by
 refine(callsIn_wide (n:=9)).1 ?_;have O:1<w.heap.size:=Be w _ (hv 0 _ rfl);have Y:=lH hv;clear hv;refine callsIn_of_wp_marks func43 rfl trivial ?_ rfl;simp only [ntmps43,Cz,Av,D4,pL,pM,Bt,Bu,Cd,BD,BH,AL];gi_wp2_with fail;refine⟨trivial,(callsIn_wide.2 (Pz _ _ ⟨_,_,_,rfl⟩)).mono ?_⟩;rintro e w1 ⟨rfl,hw1⟩;gi_wp2_with fail;have hsz:w1.heap.size=w.heap.size+4:=by rw [<- hw1];simp
 have U:jI w s (w+1+1+1) w1:=by
  have hk:Aa [] w w1:=by rw [<- hw1];exact((((Aa.refl [] w).alloc _).alloc _).alloc _).alloc _
  refine⟨?_,?_,?_,?_,hk,Y.o.keeps hk bA⟩<;>rw [<- hw1]
  ·exact(((Blk.new w _ _).alloc _).alloc _).alloc _
  ·exact((Ar _ _ _ _ bA).alloc _).alloc _
  ·exact(Ar _ _ _ _ bA).alloc _
  ·exact Ar _ _ _ _ bA
 have X:=lH U;clear U hw1;refine Cc rfl bB (gf:=148) (lb:=#[pG (some (A3 w 0))]) rfl trivial (enters_of func148 bC rfl) (Xj 8 (w+1+1+1) w s) (fun _=>rfl)
  (fun F A=>F = []/\jI w s (w+1+1+1) A) (fun _ A=>lB w s A)
  (fun F A A' h hk=>⟨h.1,h.2.keeps hk bF bB O⟩)
  (fun F A A' h hk=>h.keeps hk bF)
  (fun F A h=>⟨h.2.vt,by simpa using h.2.tb.cell 0,by simpa using h.2.ww.cell 0⟩) ⟨rfl,X.o⟩
  (fun x W=>({ tmps:=#[Dz s,p_ w 0,p1 w 0,p2 w 0,p_ W 0,.func (.func 96) #[] #[pG (some (A_ w 0))],
     .func (.func 148) #[] #[pG (some (A3 w 0))],pH #[pE pK x.1,Dz ⟨x.2.1.toArray⟩,I_ (x.2.2:Nat)],UD,UD],defers:=[] },W.alloc (.cells #[pE pK x.1,Dz ⟨x.2.1.toArray⟩,I_ (x.2.2:Nat)] 199)))
  (fun x W=>(Aa.refl [] W).alloc _) ?assign ?body ?done ?stop
 case assign=>
  rintro l ⟨T,vw,vs⟩ W K hK;simp only [Mh,My];gi_wp2;exact hK
 case body=>
  rintro l F ⟨T,vw,vs⟩ W W2 ⟨rfl,hI⟩ D J hk2;dsimp only at hk2 ⊢;have B:verbR s=(T,0):=by
   have h1:=Zo D;rw [List.head?_filter] at h1;unfold verbR;rw [h1]
  have E:=(hI.keeps ((Aa.refl [] W).alloc (.cells #[pE pK T,Dz ⟨vw.toArray⟩,I_ (vs:Nat)] 199)) bA bB O).keeps hk2 bF bB O;have hb:=(Blk.new W 199 #[pE pK T,Dz ⟨vw.toArray⟩,I_ (vs:Nat)]).keeps hk2 bI;have d0:=hb.ce 0;have q2:=E.c2.ce 0;have q3:=E.c3.ce 0;have f2:=E.c2.frozen 0;have f3:=E.c3.frozen 0;have ah:W.heap.size<=W2.heap.size:=by have:=hk2.size;rw [Eo] at this;omega
  have N:=lH E;have M:=lH B;clear hI D hk2 E hb B;gi_wp2;have hk3:Aa [w.heap.size+1,w.heap.size+1+1] W2 ((W2.setCell (A1 w 0) (I_ T)).setCell (A2 w 0) (I_ 0)):=((Aa.refl _ W2).setCell (p:=A1 w 0) (.inl bA) _).setCell (p:=A2 w 0) (.inl bA) _;refine⟨hk3.size,fun y hy=>hk3.block y gB iT,⟨T,M.o,?_⟩,?_,N.o.kw.own hk3 bF⟩
  ·exact(N.o.c2.set_ 0 (I_ T)).far bA _
  ·exact(N.o.c3.far bA _).set_ 0 (I_ 0)
 case done=>
  rintro W ⟨D,hI⟩ J hK;have B:verbR s=(0,121):=by
   unfold verbR;have:B7.find? (fun v=>v.2.1==s.data.toList)=none:=by
    rw [List.find?_eq_none];intro x hx hp;have:x∈B7.filter (fun v=>v.2.1==s.data.toList):=List.mem_filter.2 ⟨hx,hp⟩;rw [D] at this;cases this
   rw [this]
  have q2:=hI.c2.ce 0;have q3:=hI.c3.ce 0;have f2:=hI.c2.frozen 0;have f3:=hI.c3.frozen 0;have HI:=lH hI;have M:=lH B;clear hI B D;gi_wp2;obtain⟨WF,G⟩:=eX ((W.setCell (A1 w 0) (I_ 0)).setCell (A2 w 0) (I_ 121));have hk3:Aa [w.heap.size+1,w.heap.size+1+1] W WF:=by rw [<- G];exact((Aa.refl _ W).setCell (p:=A1 w 0) (.inl bA) _).setCell (p:=A2 w 0) (.inl bA) _
  have d2:Blk WF (w+1) 3 #[pE pK 0]:=by rw [<- G];exact(HI.o.c2.set_ 0 (I_ 0)).far bA _
  have d3:Blk WF (w+1+1) 40 #[pE pK 121]:=by rw [<- G];exact(HI.o.c3.far bA _).set_ 0 (I_ 121)
  rw [G];have ac:WF.heap[w1.heap.size]? = some (.deferred (some [])):=(hk3.block _ bB bI).trans hK;refine⟨by simp,.inl ⟨_,_,rfl,run_takeDeferred ac,?_⟩⟩;have hk4:=AG (S:=[w1.heap.size]) WF (.deferred none) (l:=w1.heap.size) bA;have e2:=(d2.keeps hk4 bG).ce 0;have e3:=(d3.keeps hk4 bG).ce 0;refine⟨.tuple #[pE pK 0,I_ 121],by simp [results,results43,go_sem,e2,e3],?_⟩;rw [M.o];exact⟨rfl,(HI.o.kw.own hk3 bF).own hk4 bF⟩
 case stop=>
  rintro F W D hX J hK;obtain⟨n,h1,h2⟩:=hX.run;have HX:=lH hX;clear hX;gi_wp2;refine⟨by simp,.inl ⟨_,_,rfl,run_takeDeferred hK,?_⟩⟩;have hk4:=AG (S:=[w1.heap.size]) W (.deferred none) (l:=w1.heap.size) bA;have e2:=(h2.keeps hk4 bG).ce 0;have e3:=(HX.o.c3.keeps hk4 bG).ce 0;refine⟨.tuple #[pE pK n,I_ 0],by simp [results,results43,go_sem,e2,e3],?_⟩;rw [h1];exact⟨rfl,HX.o.kw.own hk4 bF⟩
def KU(met:List ByteArray)(o:GF):Bool:=decide (o≠⟨⟨#[]⟩,0⟩)&&!decide (o.name∈met)
theorem OE(A B:List GF):∀(met:List ByteArray),Cn met (A++B)=(Cn met A&&Cn (met++A.map (·.name)) B):=by
 induction A with
 | nil=>intro met;simp [Cn]
 | cons o A ih=>intro met;simp [Cn,ih,EJ]
theorem Ml{L:List GF}{k:Nat}{o:GF}(h:L[k]? = some o):Cn [] (L.take (k+1))=(Cn [] (L.take k)&&KU ((L.take k).map (·.name)) o):=by
 rw [A0 h,OE];simp [Cn,KU]
theorem Nz{L:List GF}{k:Nat}{o:GF}(h:L[k]? = some o)(hb:KU ((L.take k).map (·.name)) o=false):Cn [] L=false:=by
 have e:L=L.take (k+1)++L.drop (k+1):=(Dn _ _).symm;rw [e,OE,Ml h,hb];simp
theorem iB(a b:ByteArray)(x y:Int)(w:World):(binOp .eql 81 (pH #[Dz a,I_ x]) (pH #[Dz b,I_ y])).run prog w = .ok (pI (decide (a=b)&&decide (x=y))) w:=by
 have hS:prog.underlying 81=some (.struct (prog.fieldsOf 81)):=bC;have hp:prog.stoodInHeld 81=false:=bC;rw [run_eql_struct,show(10000:Nat)=9999+1 from rfl,run_equalIn_agg w 9999 81 _ _ hS hp];simp only [CK,underlying81];go_simp;by_cases h1:a=b
 ·subst h1
  by_cases h2:x=y<;>simp [h2]
 ·have:¬a.toList=b.toList:=fun e=>h1 (by
   rw [ED,ED] at e;obtain⟨⟨l⟩⟩:=a;obtain⟨⟨m⟩⟩:=b;have B:l=m:=e;rw [B])
  simp [h1,this]
theorem Un{w:World}{b:Nat}{met:List ByteArray}(h:DV Dz w b met)(k:ByteArray):(Ed 154 (.map (some b)) (Dz k) false).run prog w = .ok (pI (decide (k∈met))) w:=
 by
 have h1:=h.look RZ underlying154 underlying9 bC k;rw [h1];have h2:∀(p:Prop) (i j:Decidable p),@decide p i = @decide p j:=fun p i j=>decide_eq_decide.2 Iff.rfl;rw [h2]
theorem Ve{w:World}{b:Nat}{met:List ByteArray}(h:DV Dz w b met)(k:ByteArray)(hn:k∉met):∃o,(Instr.mapUpdate 154 (.map (some b)) (Dz k) (pI true)).run prog w = .ok () (w.putObj b o)/\DV Dz (w.putObj b o) b (met++[k]):=
 h.update RZ underlying154 underlying9 k hn
theorem Kg(a:Option Addr)(c:Nat)(L:List GF)(n:Nat)(hn:L.length=n)(hL:n<=1000000)(hs:∀o∈L,o.name.size<=maxLen)(b:Bool)(hb:G9 L=b)(w:World)(h:IE w a c L):
  Calls prog 36 #[pF a n c] w fun e w'=>e = pJ (pI b)/\Aa [] w w':=by
 have HH:=lH h;have HN:=lH hn;have HB:=lH hb;have HS:=lH hs;clear h hn hb hs;have am:=fun W=>run_makeMap (P:=prog) 154 W;have hgd:prog.eqGuardType prog.depth 81=false:=bC;have X:DV Dz ((w.alloc (.map #[] 0)).alloc (.cells #[Dz ⟨#[]⟩,I_ 0] 81)) w ([]:List ByteArray):=(DV.new w).keeps ((Aa.refl [] _).alloc _) bA;have Y:=Ar (w.alloc (.map #[] 0)) 81 #[Dz ⟨#[]⟩,I_ 0] (w+1) bA;have ad:=lH X;have ae:=lH Y;clear X Y;go_enter func36,ntmps36;go_wp2;go_loopw [11] (fun i wr=>∃k:Nat,i = I_ k/\k<=n/\Hi (Cn [] (L.take k)=true)/\Hi (DV Dz wr w ((L.take k).map (·.name)))/\Hi (Blk wr (w+1) 81 #[Dz ⟨#[]⟩,I_ 0])/\Hi (Aa [] w wr)) (fun i _=>n - (intOf i).toNat)
 case atStart=>exact⟨0,rfl,Ba _,lH rfl,ad,ae,lH (((Aa.refl [] w).alloc _).alloc _)⟩
 case round=>
  obtain⟨k,rfl,hk,HP,HST,af,HK⟩:=hrel;by_cases hlt:k<n
  ·obtain⟨g,off,⟨nm,J⟩,rfl,hg,hx,hat⟩:=HH.o.at_k (k:=k) bO
   have q0:=hat 0 (Dz nm) rfl;have q1:=hat 1 (I_ J) rfl;rw [AT] at q0;rw [<- HK.o.cell (p:=A_ g (off+k*2)) hg bA] at q0;rw [<- HK.o.cell (p:=A_ g (off+k*2+1)) hg bA] at q1;have i1:(0:Int)<=(k:Int):=bB;have i2:(k:Int)<(n:Int):=bB;have HX:=lH hx;have hk0:=(Aa.refl [] wr).alloc (.cells #[Dz nm,I_ J] 81);have B:=HST.o.keeps hk0 bA;have E:=Blk.new wr 81 #[Dz nm,I_ J];have d0:=E.ce 0;have d1:=E.ce 1;have F:=af.o.keeps hk0 bA;have n0:=F.ce 0;have n1:=F.ce 1;have hlk:=Un B nm;have ah:=fun W=>iB nm ⟨#[]⟩ J 0 W;obtain⟨y1,N⟩:=eX ((decide (nm=⟨#[]⟩)&&decide (J=0)));obtain⟨y2,G⟩:=eX (decide (nm∈(L.take k).map (·.name)));rw [G] at hlk;rw [N] at ah;have hst:KU ((L.take k).map (·.name)) ⟨nm,J⟩=(!y1&&!y2):=by
    unfold KU;rw [G]
    congr 1
    rw [<- N];by_cases h1:nm=⟨#[]⟩<;>by_cases h2:J=0<;>simp [h1,h2]
   have HOS:=lH hst;have HY2:=lH G;have HK0:=lH (HK.o.alloc (.cells #[Dz nm,I_ J] 81));have U:=lH B;have O:=lH F;have aj:=lH E;clear hat hg hx hk0 B E F N G hst;cases y1 with
   | true=>
    obtain rfl:b=false:=by rw [<- HB.o];unfold G9;rw [Nz HX.o lV];rfl
    go_wp2;go_ret;exact⟨rfl,HK0.o⟩
   | false=>
    cases y2 with
    | true=>
     obtain rfl:b=false:=by rw [<- HB.o];unfold G9;rw [Nz HX.o lV];rfl
     go_wp2;go_ret;exact⟨rfl,HK0.o⟩
    | false=>
     obtain⟨o,an,D⟩:=Ve U.o nm (of_decide_eq_false HY2.o);have ag:Hi (Cn [] (L.take (k+1))=true):=lH (by rw [Ml HX.o,HP.o,HOS.o];rfl);have M:Hi (DV Dz ((wr.alloc (.cells #[Dz nm,I_ J] 81)).putObj w o) w ((L.take (k+1)).map (·.name))):=lH (by rw [A0 HX.o,pO];exact D);have T:=lH (O.o.keeps (Ec _ w o) bA);have HK2:=lH (HK0.o.own (Ec _ w o) bF);clear D;go_wp2;go_roundw;case rel=>exact⟨k+1,by go_num,by omega,ag,M,T,HK2⟩
     case measure=>simp [intOf];omega
  ·obtain rfl:k=n:=bB;have aa:Cn [] L=true:=by
    have:=HP.o
    rwa [Ak bL] at this
   obtain⟨y,hy⟩:=eX (L.all WC);have ab:b=(decide (k<=10)&&y):=by rw [<- HB.o];unfold G9;rw [aa,hy,HN.o];rfl
   have HBB:=lH ab;have HY:=lH hy;clear aa hy ab;by_cases h10:k<=10
   ·have i3:(k:Int)<=10:=bB;obtain rfl:b=y:=by rw [HBB.o,decide_eq_true h10];rfl
    have HF:=lH (Blk.new wr 156 XG);have HKF:=lH (HK.o.alloc (.cells XG 156));clear h10;go_wp2_with fail;refine(YW a c L k HN.o hL HS.o _ _ b HY.o _ (HH.o.keeps HKF.o) HF.o).mono ?_;rintro e w1 ⟨rfl,hk1⟩;have HK1:=lH (HKF.o.trans hk1);clear hk1;go_wp2;go_ret;exact⟨rfl,HK1.o⟩
   ·have i3:¬(k:Int)<=10:=bB;obtain rfl:b=false:=by rw [HBB.o,decide_eq_false h10];rfl
    clear h10;go_wp2;go_ret;exact⟨rfl,HK.o⟩
theorem G3(n l m:Int)(b:Bool)(hb:Em n l m=b)(w:World):Calls prog 217 #[pE pK n,I_ l,I_ m] w fun e w'=>e = pJ (pI b)/\w=w':=by
 obtain⟨B,h1⟩:=eX (decide (l<=n));unfold Em at hb;rw [h1] at hb;cases B with
 | false=>
  obtain rfl:b=false:=by rw [<- hb];rfl
  have f1:decide (n≥l)=false:=h1;clear hb h1;go_enter func217,ntmps217;go_wp2;go_ret;exact⟨rfl,rfl⟩
 | true=>
  obtain rfl:decide (n<=m)=b:=by rw [<- hb];rfl
  have f1:decide (n≥l)=true:=h1;clear hb h1;go_enter func217,ntmps217;go_wp2;go_ret;exact⟨rfl,rfl⟩
theorem Kf(k:ByteArray)(b:Bool)(hb:Ns k=b)(w:World):Calls prog 218 #[Dz k] w fun e w'=>e = pJ (pI b)/\w=w':=by
 obtain⟨B,h1⟩:=eX (decide (1<=k.size));unfold Ns at hb;rw [h1] at hb;cases B with
 | false=>
  obtain rfl:b=false:=by rw [<- hb];rfl
  have f1:decide ((k.size:Int)≥1)=false:=decide_eq_false (by have:=of_decide_eq_false h1;omega);clear hb h1;go_enter func218,ntmps218;go_wp2;go_ret;exact⟨rfl,rfl⟩
 | true=>
  obtain rfl:decide (k.size<=64)=b:=by rw [<- hb];rfl
  have f1:decide ((k.size:Int)≥1)=true:=decide_eq_true (by have:=of_decide_eq_true h1;omega);have D:decide ((k.size:Int)<=64)=decide (k.size<=64):=decide_eq_decide.2 bB;clear hb h1;go_enter func218,ntmps218;go_wp2;go_ret;exact⟨rfl,rfl⟩
def SB(c:El):Bool:=decide (0<=c.from_)&&(decide (c.from_<c.to_)&&decide (c.to_<=1000000000000))
theorem cD(c:El):IR c=(Em c.id 1 1000000000&&Ns c.key&&SB c):=by unfold IR Em SB;simp only [EJ]
theorem Y8(c:El)(b:Bool)(hb:Em c.id 1 1000000000=b)(w:World):Calls prog 176 #[pH #[pE pK c.id,Dz c.key,I_ c.from_,I_ c.to_]] w fun e w'=>e = pJ (pI b)/\Aa [] w w':=by
 have HB:=lH hb;have HK:=lH ((Aa.refl [] w).alloc (.cells #[pE pK c.id,Dz c.key,I_ c.from_,I_ c.to_] 315));clear hb;go_enter func176,ntmps176;go_wp2_with fail;refine(G3 _ _ _ b HB.o _).mono ?_;rintro e w1 ⟨rfl,rfl⟩;go_wp2;go_ret;exact⟨rfl,HK.o⟩
theorem Wm(c:El)(b:Bool)(hb:Ns c.key=b)(w:World):Calls prog 177 #[pH #[pE pK c.id,Dz c.key,I_ c.from_,I_ c.to_]] w fun e w'=>e = pJ (pI b)/\Aa [] w w':=by
 have HB:=lH hb;have HK:=lH ((Aa.refl [] w).alloc (.cells #[pE pK c.id,Dz c.key,I_ c.from_,I_ c.to_] 315));clear hb;go_enter func177,ntmps177;go_wp2_with fail;refine(Kf _ b HB.o _).mono ?_;rintro e w1 ⟨rfl,rfl⟩;go_wp2;go_ret;exact⟨rfl,HK.o⟩
theorem TG(c:El)(b:Bool)(hb:SB c=b)(w:World):Calls prog 178 #[pH #[pE pK c.id,Dz c.key,I_ c.from_,I_ c.to_]] w fun e w'=>e = pJ (pI b)/\Aa [] w w':=by
 have HK:=lH ((Aa.refl [] w).alloc (.cells #[pE pK c.id,Dz c.key,I_ c.from_,I_ c.to_] 315));obtain⟨i,k,x,y⟩:=c;dsimp only at hb HK ⊢;unfold SB at hb;dsimp only at hb;obtain⟨b1,h1⟩:=eX (decide (0<=x));obtain⟨B,h2⟩:=eX (decide (x<y));rw [h1,h2] at hb;have f1:decide (x≥0)=b1:=h1;clear h1;cases b1<;>cases B<;>simp only [Ep,DJ] at hb<;>
 ·subst hb
  go_enter func178,ntmps178;go_wp2;go_ret;exact⟨rfl,HK.o⟩
def Vy:Array Value:=#[.func (.func 176) #[] #[],.func (.func 177) #[] #[],.func (.func 178) #[] #[]]
theorem Rn(a:Option Addr)(c:Nat)(L:List El)(n:Nat)(hn:L.length=n)(hL:n<=1000000)(fb:Nat)(ty:TypeId)(b:Bool)(hb:L.all IR=b)(w:World)(h:AR BT 4 w a c L)(hf:Blk w fb ty Vy):
  Calls prog 175 #[pF a n c,pF (some (A_ fb 0)) 3 3] w fun e w'=>e = pJ (pI b)/\Aa [] w w':=by
 have HH:=lH h;have HN:=lH hn;have HB:=lH hb;have HF:=lH hf;clear h hn hb hf;go_enter func175,ntmps175;go_wp2;go_loopw [11] (fun i wr=>∃k:Nat,i = I_ k/\k<=n/\Hi ((L.take k).all IR=true)/\Hi (Aa [] w wr)) (fun i _=>n - (intOf i).toNat)
 case atStart=>exact⟨0,rfl,Ba _,lH rfl,lH (Aa.refl _ _)⟩
 case round=>
  obtain⟨k,rfl,hk,HP,HK⟩:=hrel;by_cases hlt:k<n
  ·obtain⟨g,off,⟨E,F,a2,G⟩,rfl,hg,hx,hat⟩:=HH.o.at_k (k:=k) bO
   have q0:=hat 0 (I_ E) rfl;have q1:=hat 1 (Dz F) rfl;have q2:=hat 2 (I_ a2) rfl;have q3:=hat 3 (I_ G) rfl;rw [AT] at q0;rw [<- HK.o.cell (p:=A_ g (off+k*4)) hg bA] at q0;rw [<- HK.o.cell (p:=A_ g (off+k*4+1)) hg bA] at q1;rw [<- HK.o.cell (p:=A_ g (off+k*4+2)) hg bA] at q2;rw [<- HK.o.cell (p:=A_ g (off+k*4+3)) hg bA] at q3;have i1:(0:Int)<=(k:Int):=bB;have i2:(k:Int)<(n:Int):=bB;obtain⟨b1,hb1⟩:=eX (Em (El.mk E F a2 G).id 1 1000000000);obtain⟨b2,hb2⟩:=eX (Ns (El.mk E F a2 G).key);obtain⟨b3,Y⟩:=eX (SB ⟨E,F,a2,G⟩);have hp:IR ⟨E,F,a2,G⟩=(b1&&b2&&b3):=by rw [<- hb1,<- hb2,<- Y];exact cD _
   have HX:=lH hx;have HPX:=lH hp;have H1:=lH hb1;have H2:=lH hb2;have H3:=lH Y;have hk0:=HK.o.alloc (.cells #[pE pK E,Dz F,I_ a2,I_ G] 209);have ab:=Blk.new wr 209 #[pE pK E,Dz F,I_ a2,I_ G];have ac:=HF.o.keeps hk0 bA;have HK0:=lH hk0;have B:=lH ab;have D:=lH ac;clear hat hg hx hp hb1 hb2 Y hk0 ab ac;go_wp2;refine wp_loop_rounds 4 ?_;rw [rounds_succ];have T:=D.o.cell 0;have U:=D.o.cell 1;have X:=D.o.cell 2;have J:=B.o.cell 0;have M:=B.o.cell 1;have N:=B.o.cell 2;have O:=B.o.cell 3;simp only [Vy,An,Aj,Ao] at T U X J M N O;go_wp2_with fail;refine(Y8 ⟨E,F,a2,G⟩ b1 H1.o _).mono ?_;rintro e w1 ⟨rfl,hk1⟩;clear T U X J M N O q0 q1 q2 q3;have D:=lH (D.o.keeps hk1 bA);have B:=lH (B.o.keeps hk1 bA);have HK1:=lH (HK0.o.trans hk1);clear hk1;cases b1 with
   | false=>
    obtain rfl:b=false:=by rw [<- HB.o];exact Ih HX.o jZ
    go_wp2;go_ret;exact⟨rfl,HK1.o⟩
   | true=>
    go_wp2_with fail;rw [rounds_succ];have T:=D.o.cell 0;have U:=D.o.cell 1;have X:=D.o.cell 2;have J:=B.o.cell 0;have M:=B.o.cell 1;have N:=B.o.cell 2;have O:=B.o.cell 3;simp only [Vy,An,Aj,Ao] at T U X J M N O;go_wp2_with fail;refine(Wm ⟨E,F,a2,G⟩ b2 H2.o _).mono ?_;rintro e w2 ⟨rfl,hk2⟩;clear T U X J M N O;have D:=lH (D.o.keeps hk2 bA);have B:=lH (B.o.keeps hk2 bA);have HK2:=lH (HK1.o.trans hk2);clear hk2;cases b2 with
    | false=>
     obtain rfl:b=false:=by rw [<- HB.o];exact Ih HX.o jZ
     go_wp2;go_ret;exact⟨rfl,HK2.o⟩
    | true=>
     go_wp2_with fail;rw [rounds_succ];have T:=D.o.cell 0;have U:=D.o.cell 1;have X:=D.o.cell 2;have J:=B.o.cell 0;have M:=B.o.cell 1;have N:=B.o.cell 2;have O:=B.o.cell 3;simp only [Vy,An,Aj,Ao] at T U X J M N O;go_wp2_with fail;refine(TG ⟨E,F,a2,G⟩ b3 H3.o _).mono ?_;rintro e w3 ⟨rfl,hk3⟩;clear T U X J M N O;have aa:=lH (HK2.o.trans hk3);clear hk3;cases b3 with
     | false=>
      obtain rfl:b=false:=by rw [<- HB.o];exact Ih HX.o jZ
      go_wp2;go_ret;exact⟨rfl,aa.o⟩
     | true=>
      have ae:Hi ((L.take (k+1)).all IR=true):=lH (by rw [Kz HX.o,HP.o,HPX.o];rfl);go_wp2_with fail;rw [rounds_succ];go_wp2;go_roundw;case rel=>exact⟨k+1,by go_num,by omega,ae,aa⟩
      case measure=>simp [intOf];omega
  ·obtain rfl:k=n:=bB;obtain rfl:b=true:=by rw [<- HB.o,<- HP.o,Ak bL]
   go_wp2;go_ret;exact⟨rfl,HK.o⟩
def Jb(a:Int):Bool:=decide (0<=a)&&decide (a<=4294967295)
theorem Nk(a:Int)(b:Bool)(hb:Jb a=b)(w:World):Calls prog 277 #[pE pK a] w fun e w'=>e = pJ (pI b)/\w=w':=by
 obtain⟨b1,h1⟩:=eX (decide (0<=a));unfold Jb at hb;rw [h1] at hb;have f1:decide (a≥0)=b1:=h1;clear h1;cases b1<;>simp only [Ep,DJ] at hb<;>
 ·subst hb
  go_enter func277,ntmps277;go_wp2;go_ret;exact⟨rfl,rfl⟩
theorem Z6(n:Nat):wrap64 (wrap64 ((2:Int) ^ (32 - n)) - 1)=((2 ^ (32 - n) - 1:Nat):Int):=by
 have h1:(2:Int) ^ (32 - n)=((2 ^ (32 - n):Nat):Int):=bA;have h2:2 ^ (32 - n)<=2 ^ 32:=Nat.pow_le_pow_right bE bB;have h3:1<=2 ^ (32 - n):=Nat.one_le_two_pow;rw [h1];generalize 2 ^ (32 - n)=x at h2 h3 ⊢;have h4:(2:Nat) ^ 32=4294967296:=bE;have e1:wrap64 (x:Int)=(x:Int):=IntWalk.wrap64_in _ ⟨by omega,by omega⟩;rw [e1,IntWalk.wrap64_in _ ⟨by omega,by omega⟩];omega
theorem Z5(a:Int)(n:Nat)(hn:n<=32)(w:World):Calls prog 278 #[pH #[pE pK a,I_ (n:Int)]] w fun e w'=>e = pJ (I_ ((2 ^ (32 - n) - 1:Nat):Int))/\Aa [] w w':=by
 have HK:=lH ((Aa.refl [] w).alloc (.cells #[pE pK a,I_ (n:Int)] 394));have hw:IntKind.i64.wrap (32 - (n:Int))=((32 - n:Nat):Int):=by rw [show 32 - (n:Int)=((32 - n:Nat):Int) by omega];exact IntWalk.i64_in _ bB
 go_enter func278,ntmps278;go_wp2;go_ret;exact⟨by rw [Z6];rfl,HK.o⟩
theorem MJ(a b:Nat)(B:a<9223372036854775808)(hb:b<9223372036854775808):bits .and .i64 (a:Int) (b:Int)=((a &&& b:Nat):Int):=by
 have hx:a &&& b<2 ^ 63:=Nat.and_lt_two_pow _ bB;have h1:(BitVec.ofInt 64 (a:Int)).toNat=a:=by
  rw [BitVec.ofInt_natCast,BitVec.toNat_ofNat];exact Nat.mod_eq_of_lt bB
 have h2:(BitVec.ofInt 64 (b:Int)).toNat=b:=by
  rw [BitVec.ofInt_natCast,BitVec.toNat_ofNat];exact Nat.mod_eq_of_lt bB
 show IntKind.i64.wrap ((BitVec.ofInt 64 (a:Int) &&& BitVec.ofInt 64 (b:Int)).toNat:Int)=_;rw [BitVec.toNat_and,h1,h2];exact IntWalk.i64_in _ bB
theorem V5(a b:Nat)(B:a<9223372036854775808)(hb:b<9223372036854775808):bits .or .i64 (a:Int) (b:Int)=((a ||| b:Nat):Int):=by
 have hx:a ||| b<2 ^ 63:=Nat.or_lt_two_pow bB bB
 have h1:(BitVec.ofInt 64 (a:Int)).toNat=a:=by
  rw [BitVec.ofInt_natCast,BitVec.toNat_ofNat];exact Nat.mod_eq_of_lt bB
 have h2:(BitVec.ofInt 64 (b:Int)).toNat=b:=by
  rw [BitVec.ofInt_natCast,BitVec.toNat_ofNat];exact Nat.mod_eq_of_lt bB
 show IntKind.i64.wrap ((BitVec.ofInt 64 (a:Int) ||| BitVec.ofInt 64 (b:Int)).toNat:Int)=_;rw [BitVec.toNat_or,h1,h2];exact IntWalk.i64_in _ bB
theorem Yu(a:Int)(n:Nat)(h0:0<=a)(h1:a<=4294967295):(bits BinOp.and pK a ((2 ^ (32 - n) - 1:Nat):Int)==0)=decide (a.toNat % 2 ^ (32 - n)=0):=by
 obtain⟨x,rfl⟩:∃x:Nat,a=x:=⟨a.toNat,by omega⟩;have h2:2 ^ (32 - n)<=2 ^ 32:=Nat.pow_le_pow_right bE bB;rw [MJ _ _ bB bB,Nat.and_two_pow_sub_one_eq_mod,pW,DI,beq_iff_eq,decide_eq_true_iff];generalize x % 2 ^ (32 - n)=y;omega
theorem TD(a:Int)(n:Nat)(hn:n<=32)(h0:0<=a)(h1:a<=4294967295)(b:Bool)(hb:decide (a.toNat % 2 ^ (32 - n)=0)=b)(w:World):Calls prog 247 #[pH #[pE pK a,I_ (n:Int)]] w fun e w'=>e = pJ (pI b)/\Aa [] w w':=by
 have HK:=lH ((Aa.refl [] w).alloc (.cells #[pE pK a,I_ (n:Int)] 394));have D:=Blk.new w 394 #[pE pK a,I_ (n:Int)];obtain⟨wz,hwz⟩:=eX (w.alloc (.cells #[pE pK a,I_ (n:Int)] 394));rw [hwz] at D HK;have HS:Hi (∀W,Aa [] wz W->Aa [] wz W/\W.cell? (A_ w 0)=some (I_ a)/\W.cell? (A_ w 1)=some (I_ (n:Int))):=lH fun W hk=>⟨hk,(D.keeps hk bA).cell 0,(D.keeps hk bA).cell 1⟩;clear D;go_enter func247,ntmps247;go_wp2;clear hwz;refine wp_region_held_drew (S:=(fun w':World=>Aa [] wz w'/\w'.cell? (A_ w 0)=some (I_ a)/\w'.cell? (A_ w 1)=some (I_ (n:Int)))) bC (by((try dsimp only);(first | exact HS.o _ ((Aa.refl [] wz).drew) | exact HS.o _ (hHeld.1.trans B)))) (fun hHeld=>?_);refine rQ 0 ?_;refine rQ 1 ?_;refine rQ 2 ?_;refine rQ 3 ?_;refine rC 4 fun K hK=>?_;go_simp;refine(Z5 a n hn _).mono ?_;rintro r wb ⟨rfl,B⟩;refine rO hK (by((try dsimp only);(first | exact HS.o _ ((Aa.refl [] wz).drew) | exact HS.o _ (hHeld.1.trans B)))) fun hHeld=>?_;clear hK K;refine rQ 5 ?_;refine rQ 6 ?_;refine rQ 7 ?_;refine wpAnyH_done bC ?_ _
 (go_wp2;go_ret;exact⟨Jv (by rw [Yu a n h0 h1];exact hb),HK.o.trans (by first | exact(((Aa.refl [] wz).drew).trans B) | exact((Aa.refl [] wz).trans B))⟩)
theorem RN(a n:Int)(b:Bool)(hb:(decide (0<=n)&&(decide (n<=32)&&Jb a))=b)(w:World):Calls prog 246 #[pH #[pE pK a,I_ n]] w fun e w'=>e = pJ (pI b)/\Aa [] w w':=by
 have HK:=lH ((Aa.refl [] w).alloc (.cells #[pE pK a,I_ n] 394));obtain⟨b1,h1⟩:=eX (decide (0<=n));obtain⟨D,h2⟩:=eX (decide (n<=32));obtain⟨E,h3⟩:=eX (Jb a);rw [h1,h2,h3] at hb;have f1:decide (n≥0)=b1:=h1;have B:=lH h3;clear h1 h3;cases b1<;>cases D<;>simp only [Ep,DJ] at hb
 ·subst hb
  go_enter func246,ntmps246;go_wp2;go_ret;exact⟨rfl,HK.o⟩
 ·subst hb
  go_enter func246,ntmps246;go_wp2;go_ret;exact⟨rfl,HK.o⟩
 ·subst hb
  go_enter func246,ntmps246;go_wp2;go_ret;exact⟨rfl,HK.o⟩
 ·subst hb
  go_enter func246,ntmps246;go_wp2_with fail;refine(Nk a E B.o _).mono ?_;rintro e w1 ⟨rfl,rfl⟩;go_wp2;go_ret;exact⟨rfl,HK.o⟩
def XF:Array Value:=#[.func (.func 246) #[] #[],.func (.func 247) #[] #[]]
theorem Ke(a n:Int)(b:Bool)(hb:FI a n=b)(w:World):Calls prog 215 #[pH #[pE pK a,I_ n]] w fun e w'=>e = pJ (pI b)/\Aa [] w w':=by
 obtain⟨wz,hwz⟩:=eX ((w.alloc (.cells #[pE pK a,I_ n] 51)).alloc (.cells XF 392));have HK0:Hi (Aa [] w wz):=lH lY;have HB0:Hi (Blk wz w 51 #[pE pK a,I_ n]):=lH kI;have HB1:Hi (Blk wz (w+1) 392 XF):=lH aF;obtain⟨M,h1⟩:=eX ((decide (0<=n)&&(decide (n<=32)&&Jb a)));have F:FI a n=(M&&decide (a.toNat % 2 ^ (32 - n.toNat)=0)):=by rw [<- h1];unfold FI Jb;simp only [EJ]
 rw [F] at hb;have N:=lH h1;have HB:=lH hb;have G:=HB1.o.cell 0;have J:=HB1.o.cell 1;have D:=HB0.o.cell 0;have E:=HB0.o.cell 1;simp only [XF,An,Aj,Ao] at G J D E;simp only [XF] at hwz;clear h1 F hb;go_enter func215,ntmps215;go_wp2;refine wp_loop_rounds 3 ?_;rw [rounds_succ];go_wp2_with fail;refine(RN a n M N.o _).mono ?_;rintro e w1 ⟨rfl,hk1⟩;have HK1:=lH (HK0.o.trans hk1);have hb0:=HB0.o.keeps hk1 bA;have hb1:=HB1.o.keeps hk1 bA;clear G J D E hk1 hwz;cases M with
 | false=>
  obtain rfl:b=false:=by rw [<- HB.o];rfl
  go_wp2;go_ret;exact⟨rfl,HK1.o⟩
 | true=>
  have hr:=N.o;unfold Jb at hr;simp only [Af,decide_eq_true_eq] at hr;obtain⟨m,rfl⟩:∃m:Nat,n=m:=⟨n.toNat,by omega⟩;have HBB:Hi (decide (a.toNat % 2 ^ (32 - m)=0)=b):=lH (by rw [<- HB.o,DJ,pW]);have B:=lH hr;have G:=hb1.cell 0;have J:=hb1.cell 1;have D:=hb0.cell 0;have E:=hb0.cell 1;simp only [XF,An,Aj,Ao] at G J D E;clear hb0 hb1 hr;go_wp2_with fail;rw [rounds_succ];go_wp2_with fail;refine(TD a m (by have:=B.o;omega) (by have:=B.o;omega) (by have:=B.o;omega) b HBB.o _).mono ?_;rintro e w2 ⟨rfl,hk2⟩;have HK2:=lH (HK1.o.trans hk2);clear hk2 G J D E;cases b with
  | false=>
   go_wp2;go_ret;exact⟨rfl,HK2.o⟩
  | true=>
   go_wp2_with fail;rw [rounds_succ];go_wp2;go_ret;exact⟨rfl,HK2.o⟩
theorem WH(x y:Int)(b:Bool)(hb:decide (x<=y)=b)(w:World):Calls prog 249 #[pH #[pE pK x,I_ y]] w fun e w'=>e = pJ (pI b)/\Aa [] w w':=by
 have HK:=lH ((Aa.refl [] w).alloc (.cells #[pE pK x,I_ y] 399));subst hb;go_enter func249,ntmps249;go_wp2;go_ret;exact⟨rfl,HK.o⟩
theorem Uc(x y:Int)(b:Bool)(hb:decide (0<=x)=b)(w:World):Calls prog 250 #[pH #[pE pK x,I_ y]] w fun e w'=>e = pJ (pI b)/\Aa [] w w':=by
 have HK:=lH ((Aa.refl [] w).alloc (.cells #[pE pK x,I_ y] 399));subst hb;go_enter func250,ntmps250;go_wp2;go_ret;exact⟨rfl,HK.o⟩
theorem Sm(x y:Int)(b:Bool)(hb:decide (y<=65535)=b)(w:World):Calls prog 251 #[pH #[pE pK x,I_ y]] w fun e w'=>e = pJ (pI b)/\Aa [] w w':=by
 have HK:=lH ((Aa.refl [] w).alloc (.cells #[pE pK x,I_ y] 399));subst hb;go_enter func251,ntmps251;go_wp2;go_ret;exact⟨rfl,HK.o⟩
def Ta:Array Value:=#[.func (.func 249) #[] #[],.func (.func 250) #[] #[],.func (.func 251) #[] #[]]
theorem Zg(x y:Int)(fb:Nat)(ty:TypeId)(b:Bool)(hb:Hd x y=b)(w:World)(hf:Blk w fb ty Ta):Calls prog 248 #[pH #[pE pK x,I_ y],pF (some (A_ fb 0)) 3 3] w fun e w'=>e = pJ (pI b)/\Aa [] w w':=by
 obtain⟨wz,hwz⟩:=eX ((w.alloc (.cells #[pE pK x,I_ y] 53)));have HK0:Hi (Aa [] w wz):=lH jV;have hb0:Blk wz w 53 #[pE pK x,I_ y]:=by rw [<- hwz];exact Blk.new w _ _
 have hb1:Blk wz fb ty Ta:=hf.keeps HK0.o bA;obtain⟨b1,h1⟩:=eX (decide (x<=y));obtain⟨b2,h2⟩:=eX (decide (0<=x));obtain⟨b3,h3⟩:=eX (decide (y<=65535));have Y:Hd x y=(b1&&(b2&&b3)):=by rw [<- h1,<- h2,<- h3];unfold Hd;simp only [EJ]
 rw [Y] at hb;have H1:=lH h1;have H2:=lH h2;have H3:=lH h3;have HB:=lH hb;clear h1 h2 h3 Y hb hf;have HB0:=lH hb0;have HB1:=lH hb1;clear hb0 hb1;go_enter func248,ntmps248;go_wp2;refine wp_loop_rounds 4 ?_;rw [rounds_succ];have hb0:=HB0.o;have hb1:=HB1.o;clear hwz;have E:=hb1.cell 0;have F:=hb1.cell 1;have G:=hb1.cell 2;have B:=hb0.cell 0;have D:=hb0.cell 1;simp only [Ta,An,Aj,Ao] at E F G B D;have J:=lH hb0;have O:=lH hb1;clear hb0 hb1;go_wp2_with fail;refine(WH x y b1 H1.o _).mono ?_;rintro e w1 ⟨rfl,hk1⟩;have HK1:=lH (HK0.o.trans hk1);have hb0:=J.out.keeps hk1 bA;have hb1:=O.out.keeps hk1 bA;clear E F G B D hk1;cases b1 with
 | false=>
  obtain rfl:b=false:=by rw [<- HB.o];simp
  go_wp2;go_ret;exact⟨rfl,HK1.o⟩
 | true=>
  go_wp2_with fail;rw [rounds_succ];have E:=hb1.cell 0;have F:=hb1.cell 1;have G:=hb1.cell 2;have B:=hb0.cell 0;have D:=hb0.cell 1;simp only [Ta,An,Aj,Ao] at E F G B D;have M:=lH hb0;have T:=lH hb1;clear hb0 hb1;go_wp2_with fail;refine(Uc x y b2 H2.o _).mono ?_;rintro e w2 ⟨rfl,hk2⟩;have HK2:=lH (HK1.o.trans hk2);have hb0:=M.out.keeps hk2 bA;have hb1:=T.out.keeps hk2 bA;clear E F G B D hk2;cases b2 with
  | false=>
   obtain rfl:b=false:=by rw [<- HB.o];simp
   go_wp2;go_ret;exact⟨rfl,HK2.o⟩
  | true=>
   go_wp2_with fail;rw [rounds_succ];have E:=hb1.cell 0;have F:=hb1.cell 1;have G:=hb1.cell 2;have B:=hb0.cell 0;have D:=hb0.cell 1;simp only [Ta,An,Aj,Ao] at E F G B D;have N:=lH hb0;have U:=lH hb1;clear hb0 hb1;go_wp2_with fail;refine(Sm x y b3 H3.o _).mono ?_;rintro e w3 ⟨rfl,hk3⟩;have X:=lH (HK2.o.trans hk3);have hb0:=N.out.keeps hk3 bA;have hb1:=U.out.keeps hk3 bA;clear E F G B D hk3;cases b3 with
   | false=>
    obtain rfl:b=false:=by rw [<- HB.o];simp
    go_wp2;go_ret;exact⟨rfl,X.o⟩
   | true=>
    go_wp2_with fail;rw [rounds_succ];obtain rfl:b=true:=by rw [<- HB.o];rfl
    go_wp2;go_ret;exact⟨rfl,X.o⟩
theorem N7(x y:Int)(b:Bool)(hb:Hd x y=b)(w:World):Calls prog 216 #[pH #[pE pK x,I_ y]] w fun e w'=>e = pJ (pI b)/\Aa [] w w':=by
 have HK0:=lH (((Aa.refl [] w).alloc (.cells #[pE pK x,I_ y] 53)).alloc (.cells Ta 397));have HB1:=lH (Ar (w.alloc (.cells #[pE pK x,I_ y] 53)) 397 Ta (w+1) bA);have HB:=lH hb;clear hb;go_enter func216,ntmps216;go_wp2_with fail;refine(Zg x y _ 397 b HB.o _ HB1.o).mono ?_;rintro e w1 ⟨rfl,hk1⟩;have HK1:=lH (HK0.o.trans hk1);clear hk1;go_wp2;go_ret;exact⟨rfl,HK1.o⟩
theorem I2(r:EX)(b:Bool)(hb:La r=b)(w:World):Calls prog 174 #[pH (L_ r)] w fun e w'=>e = pJ (pI b)/\Aa [] w w':=by
 obtain⟨B,a,n,x,y⟩:=r;dsimp only at hb ⊢;obtain⟨D,h1⟩:=eX (FI a n);obtain⟨b2,h2⟩:=eX (Hd x y);have hp:La ⟨B,a,n,x,y⟩=(D&&b2):=by rw [<- h1,<- h2];rfl
 rw [hp] at hb;have HK0:=lH ((Aa.refl [] w).alloc (.cells #[pI B,I_ a,I_ n,I_ x,I_ y] 311));have HB0:=lH (Blk.new w 311 #[pI B,I_ a,I_ n,I_ x,I_ y]);have E:=lH h1;have H2:=lH h2;have HB:=lH hb;clear h1 h2 hp hb;go_enter func174,ntmps174;go_wp2_with fail;refine(Ke a n D E.o _).mono ?_;rintro e w1 ⟨rfl,hk1⟩;have HK1:=lH (HK0.o.trans hk1);have hb0:=HB0.o.keeps hk1 bA;have F:=hb0.ce 3;have G:=hb0.ce 4;clear hk1 hb0;cases D with
 | false=>
  obtain rfl:b=false:=by rw [<- HB.o];rfl
  go_wp2;go_ret;exact⟨rfl,HK1.o⟩
 | true=>
  obtain rfl:b=b2:=by rw [<- HB.o];rfl
  go_wp2_with fail;refine(N7 x y b H2.o _).mono ?_;rintro e w2 ⟨rfl,hk2⟩;have HK2:=lH (HK1.o.trans hk2);clear hk2;go_wp2;go_ret;exact⟨rfl,HK2.o⟩
def aR:Array Value:=#[.func (.func 174) #[] #[]]
theorem QM(a:Option Addr)(c:Nat)(L:List EX)(n:Nat)(hn:L.length=n)(hL:n<=1000000)(fb:Nat)(ty:TypeId)(b:Bool)(hb:L.all La=b)(w:World)(h:AR B8 5 w a c L)(hf:Blk w fb ty aR):
  Calls prog 173 #[pF a n c,pF (some (A_ fb 0)) 1 1] w fun e w'=>e = pJ (pI b)/\Aa [] w w':=by
 have HH:=lH h;have HN:=lH hn;have HB:=lH hb;have HF:=lH hf;clear h hn hb hf;go_enter func173,ntmps173;go_wp2;go_loopw [11] (fun i wr=>∃k:Nat,i = I_ k/\k<=n/\Hi ((L.take k).all La=true)/\Hi (Aa [] w wr)) (fun i _=>n - (intOf i).toNat)
 case atStart=>exact⟨0,rfl,Ba _,lH rfl,lH (Aa.refl _ _)⟩
 case round=>
  obtain⟨k,rfl,hk,HP,HK⟩:=hrel;by_cases hlt:k<n
  ·obtain⟨g,off,⟨D,E,a2,F,G⟩,rfl,hg,hx,hat⟩:=HH.o.at_k (k:=k) bO
   have U:=hat 0 (pI D) rfl;have q1:=hat 1 (I_ E) rfl;have q2:=hat 2 (I_ a2) rfl;have q3:=hat 3 (I_ F) rfl;have q4:=hat 4 (I_ G) rfl;rw [AT] at U;rw [<- HK.o.cell (p:=A_ g (off+k*5)) hg bA] at U;rw [<- HK.o.cell (p:=A_ g (off+k*5+1)) hg bA] at q1;rw [<- HK.o.cell (p:=A_ g (off+k*5+2)) hg bA] at q2;rw [<- HK.o.cell (p:=A_ g (off+k*5+3)) hg bA] at q3;rw [<- HK.o.cell (p:=A_ g (off+k*5+4)) hg bA] at q4;have i1:(0:Int)<=(k:Int):=bB;have i2:(k:Int)<(n:Int):=bB;obtain⟨T,hb1⟩:=eX (La ⟨D,E,a2,F,G⟩);have hp:La ⟨D,E,a2,F,G⟩=(T):=by rw [<- hb1];try(rfl)
   have X:=lH hx;have HPX:=lH hp;have H1:=lH hb1;have hk0:=HK.o.alloc (.cells #[pI D,I_ E,I_ a2,I_ F,I_ G] 55);have J:=Blk.new wr 55 #[pI D,I_ E,I_ a2,I_ F,I_ G];have M:=HF.o.keeps hk0 bA;have HK0:=lH hk0;have B:=lH J;have N:=lH M;clear hat hg hx hp hb1 hk0 J M;go_wp2;refine wp_loop_rounds 2 ?_;rw [rounds_succ];have s0:=N.o.cell 0;have Y:=B.o.cell 0;have d1:=B.o.cell 1;have d2:=B.o.cell 2;have d3:=B.o.cell 3;have d4:=B.o.cell 4;simp only [aR,An,Aj,Ao] at s0 Y d1 d2 d3 d4;go_wp2_with fail;refine(I2 ⟨D,E,a2,F,G⟩ T H1.o _).mono ?_;rintro e w1 ⟨rfl,hk1⟩;clear s0 Y d1 d2 d3 d4 U q1 q2 q3 q4;have HK1:=lH (HK0.o.trans hk1);clear hk1;cases T with
   | false=>
    obtain rfl:b=false:=by rw [<- HB.o];exact Ih X.o (by rw [HPX.o];try rfl)
    go_wp2;go_ret;exact⟨rfl,HK1.o⟩
   | true=>
    have O:Hi ((L.take (k+1)).all La=true):=lH (by rw [Kz X.o,HP.o,HPX.o];try rfl);go_wp2_with fail;rw [rounds_succ];go_wp2;go_roundw;case rel=>exact⟨k+1,by go_num,by omega,O,HK1⟩
    case measure=>simp [intOf];omega
  ·obtain rfl:k=n:=bB;obtain rfl:b=true:=by rw [<- HB.o,<- HP.o,Ak bL]
   go_wp2;go_ret;exact⟨rfl,HK.o⟩
theorem JU(a:Option Addr)(c:Nat)(L:List EX)(n:Nat)(hn:L.length=n)(hL:n<=1000000)(b:Bool)(hb:Ew L=b)(w:World)(h:Ku w a c L):Calls prog 138 #[pF a n c] w fun e w'=>e = pJ (pI b)/\Aa [] w w':=by
 obtain⟨y,hy⟩:=eX (L.all La);have B:b=(decide (n<=16)&&y):=by rw [<- hb];unfold Ew;rw [hy,hn]
 have HBB:=lH B;have E:=lH hy;have HN:=lH hn;have HH:=lH h;clear hb hy B hn h;by_cases h10:n<=16
 ·have F:(n:Int)<=16:=bB;obtain rfl:b=y:=by rw [HBB.o,decide_eq_true h10];rfl
  have D:=lH (Blk.new w 309 aR);have HKF:=lH ((Aa.refl [] w).alloc (.cells aR 309));clear h10;go_enter func138,ntmps138;go_wp2_with fail;refine(QM a c L n HN.o hL _ _ b E.o _ (HH.o.keeps HKF.o) D.o).mono ?_;rintro e w1 ⟨rfl,hk1⟩;have HK1:=lH (HKF.o.trans hk1);clear hk1;go_wp2;go_ret;exact⟨rfl,HK1.o⟩
 ·have F:¬(n:Int)<=16:=bB;obtain rfl:b=false:=by rw [HBB.o,decide_eq_false h10];rfl
  clear h10;go_enter func138,ntmps138;go_wp2;go_ret;exact⟨rfl,Aa.refl [] w⟩
structure Kw(w:World)(tb:Nat)(v:DF)(s:Fz)(gn un fn:Nat):Prop where
 blk:Blk w tb 250 (S_ v gn un fn)
 m:Dy w v s
 lg:s.gens.length=gn
 lu:s.used.length=un
 lf:s.free.length=fn
theorem Kw.keeps{w w':World}{tb:Nat}{v:DF}{s:Fz}{gn un fn:Nat}(h:Kw w tb v s gn un fn)(hk:Aa [] w w'):Kw w' tb v s gn un fn:={ h with blk:=h.blk.keeps hk bA,m:=h.m.keeps hk }
theorem Kw.cells{w:World}{tb:Nat}{v:DF}{s:Fz}{gn un fn:Nat}(h:Kw w tb v s gn un fn):w.cell? (A_ tb 0)=some (pF v.ga gn v.gc)/\w.cell? (A_ tb 1)=some (pF v.ua un v.uc)/\w.cell? (A_ tb 2)=some (pF v.fa fn v.fc):=⟨h.blk.cell 0,h.blk.cell 1,h.blk.cell 2⟩
def Mj(gn un:Nat):Bool:=decide (1<=gn)&&decide (gn<=64)&&decide (un=gn)
theorem TE(B:Nat)(v:DF)(s:Fz)(gn un fn:Nat)(b:Bool)(hb:Mj gn un=b)(w:World)(h:Kw w B v s gn un fn):
  Calls prog 133 #[pG (some (A_ B 0))] w fun e w'=>e = pJ (pI b)/\Aa [] w w':=by
 obtain⟨E,F,G⟩:=h.cells;clear h;by_cases h1:1<=gn
 ·have i1:(1:Int)<=(gn:Int):=bB;by_cases h2:gn<=64
  ·have i2:(gn:Int)<=64:=bB;by_cases h3:un=gn
   ·subst h3
    obtain rfl:b=true:=by rw [<- hb];simp [Mj,h1,h2]
    clear hb h1 h2;go_enter func133,ntmps133;go_wp2;go_quiet (fail);go_wp2;go_ret;exact⟨rfl,(Aa.refl [] w).drewN _⟩
   ·have D:((un:Int)==(gn:Int))=false:=by simp;omega
    obtain rfl:b=false:=by rw [<- hb];simp [Mj,h3]
    clear hb h1 h2 h3;go_enter func133,ntmps133;go_wp2;go_quiet (fail);go_wp2;go_ret;exact⟨rfl,(Aa.refl [] w).drewN _⟩
  ·have i2:decide ((gn:Int)<=64)=false:=decide_eq_false bB
   obtain rfl:b=false:=by rw [<- hb];simp [Mj,h2]
   clear hb h1 h2;go_enter func133,ntmps133;go_wp2;go_quiet (fail);go_wp2;go_ret;exact⟨rfl,(Aa.refl [] w).drewN _⟩
 ·have i1:decide ((1:Int)<=(gn:Int))=false:=decide_eq_false bB
  obtain rfl:b=false:=by rw [<- hb];simp [Mj,h1]
  clear hb h1;go_enter func133,ntmps133;go_wp2;go_quiet (fail);go_wp2;go_ret;exact⟨rfl,(Aa.refl [] w).drewN _⟩
def Qu(n:Int):Bool:=decide (0<=n)&&decide (n<=1000000000)
theorem PN(n:Int)(b:Bool)(hb:Qu n=b)(w:World):Calls prog 171 #[pE pK n] w fun e w'=>e = pJ (pI (!b))/\w=w':=by
 by_cases h1:n<0
 ·obtain rfl:b=false:=by rw [<- hb];simp [Qu];omega
  clear hb;go_enter func171,ntmps171;go_wp2;go_ret;exact⟨rfl,rfl⟩
 ·have B:0<=n:=bB;by_cases h2:1000000000<n
  ·obtain rfl:b=false:=by rw [<- hb];simp [Qu];omega
   clear hb;go_enter func171,ntmps171;go_wp2;go_ret;exact⟨rfl,rfl⟩
  ·have D:n<=1000000000:=bB;obtain rfl:b=true:=by rw [<- hb];simp [Qu];omega
   clear hb h1 h2;go_enter func171,ntmps171;go_wp2;go_ret;exact⟨Jv bG,rfl⟩
theorem Qv(a:Option Addr)(c:Nat)(L:List Int)(n:Nat)(hn:L.length=n)(hL:n<=1000000)(b:Bool)(hb:L.all Qu=b)(w:World)(h:F1 w a c L):
  Calls prog 214 #[pF a n c,.func (.func 171) #[] #[]] w fun r w'=>(∃i:Int,r = pJ (I_ i)/\(decide (0<=i) = !b))/\w=w':=by
 have HH:=lH h;have HN:=lH hn;have HB:=lH hb;clear h hn hb;go_enter func214,ntmps214;go_wp2;go_loopw [5,8] (fun _ i wr=>∃k:Nat,k<=n/\i = I_ k/\Hi ((L.take k).all Qu=true)/\w=wr) (fun _ i _=>n - (intOf i).toNat)
 case atStart=>exact⟨0,Ba _,rfl,lH rfl,rfl⟩
 case round=>
  obtain⟨k,hk,rfl,E,rfl⟩:=hrel;by_cases hlt:k<n
  ·obtain⟨g,off,x,rfl,hg,hx,hat⟩:=HH.o.at_k (k:=k) bO
   have G:=hat 0 (I_ x) rfl;rw [AT,pR] at G;have i1:(0:Int)<=(k:Int):=bB;have i2:(k:Int)<(n:Int):=bB;obtain⟨y,hy⟩:=eX (Qu x);have F:=lH hx;have D:=lH hy;clear hat hg hx hy;go_wp2_with fail;refine(PN x y D.o _).mono ?_;rintro r w2 ⟨rfl,rfl⟩;cases y with
   | true=>
    have B:Hi ((L.take (k+1)).all Qu=true):=lH (by rw [Kz F.o,E.o,D.o];rfl);go_wp2;go_roundw;case rel=>exact⟨k+1,by omega,by go_num,B,trivial⟩
    case measure=>simp [intOf];omega
   | false=>
    obtain rfl:b=false:=by rw [<- HB.o];exact Ih F.o D.o
    go_wp2;go_ret;exact⟨⟨_,rfl,by simp⟩,rfl⟩
  ·obtain rfl:k=n:=bB;obtain rfl:b=true:=by
    rw [<- HB.o];have:=E.o
    rwa [Ak bL] at this
   go_wp2;go_ret;exact⟨⟨_,rfl,by simp⟩,rfl⟩
theorem Mw(a:Option Addr)(c:Nat)(L:List Int)(n:Nat)(hn:L.length=n)(hL:n<=1000000)(b:Bool)(hb:L.all Qu=b)(w:World)(h:F1 w a c L):
  Calls prog 172 #[pF a n c,.func (.func 171) #[] #[]] w fun r w'=>r = pJ (pI (!b))/\w=w':=by
 have HH:=lH h;have HN:=lH hn;have HB:=lH hb;clear h hn hb;go_enter func172,ntmps172;go_wp2_with fail;refine(Qv a c L n HN.o hL b HB.o w HH.o).mono ?_;rintro r w' ⟨⟨i,rfl,hi⟩,rfl⟩;go_wp2;go_ret;exact⟨rfl,rfl⟩
theorem QR(B:Nat)(v:DF)(s:Fz)(gn un fn:Nat)(b:Bool)(hb:UN s.gens=b)(w:World)(h:Kw w B v s gn un fn):
  Calls prog 134 #[pG (some (A_ B 0))] w fun e w'=>e = pJ (pI b)/\w=w':=by
 obtain⟨D,E,F⟩:=h.cells;have hl:=h.m.sg;rw [h.lg] at hl;have HC:=lH (Mw v.ga v.gc s.gens gn h.lg bB b hb w h.m.g);clear h hb;go_enter func134,ntmps134;go_wp2_with fail;refine HC.o.mono ?_;rintro r w' ⟨rfl,rfl⟩;go_wp2;go_ret;exact⟨Jv bA,rfl⟩
theorem JK:∀(u u':List Bool) (g g':List Int) (i:Nat),u.length=g.length->usedL i (u++u') (g++g')=usedL i u g++usedL (i+u.length) u' g'
 | [],u',[],g',i,_=>by simp [usedL]
 | true::u,u',z::g,g',i,h=>by
  simp only [Av,Nat.add_right_cancel_iff] at h;simp only [AL,usedL,JK u u' g g' (i+1) h,Av];rw [show i+1+u.length=i+(u.length+1) by omega]
 | false::u,u',z::g,g',i,h=>by
  simp only [Av,Nat.add_right_cancel_iff] at h;simp only [AL,usedL,JK u u' g g' (i+1) h,Av];rw [show i+1+u.length=i+(u.length+1) by omega]
 | [],_,_::_,_,_,h=>by simp at h
 | _::_,_,[],_,_,h=>by simp at h
def Hz(s:Fz)(k:Nat):List (Int×Int):=usedL 0 (s.used.take k) (s.gens.take k)
theorem Uw{s:Fz}{k:Nat}{b:Bool}{z:Int}(h1:s.used[k]? = some b)(h2:s.gens[k]? = some z):Hz s (k+1)=Hz s k++(if b then [((k:Int),z)] else []):=by
 unfold Hz;have B:=(Ad.1 h1).1;have D:=(Ad.1 h2).1;rw [A0 h1,A0 h2,JK _ _ _ _ _ nH];rw [Ax,AW,DE bB];cases b<;>simp [usedL]
theorem Xm(s:Fz)(h:s.used.length=s.gens.length)(k:Nat):Hz s k <+: usedL 0 s.used s.gens:=by
 unfold Hz;have:=JK (s.used.take k) (s.used.drop k) (s.gens.take k) (s.gens.drop k) 0 (by rw [Ax,Ax,h]);rw [Dn,Dn] at this;rw [this];exact List.prefix_append _ _
def RQ(h:Int×Int):Array Value:=#[pH #[pE pK h.1,pE pK h.2]]
theorem SJ(p:Addr)(w:World):Calls prog 131 #[pG (some p)] w fun r w'=>r = pJ (.func (.func 170) #[] #[pG (some (A_ w 0))])/\w.alloc (.cells #[pG (some p)] 248)=w':=by
 go_enter func131,ntmps131;go_wp2;go_ret;exact⟨rfl,rfl⟩
theorem ZU(n l pb tb:Nat)(v:DF)(s:Fz)(gn fn:Nat)(ad:gn<=1000)(J Jx:List (Int×Int)->World->Prop)(W:World)(hV:∀z A,J z A->A.cell? (A_ pb 0)=some (p_ tb 0)/\Kw A tb v s gn gn fn)
 (hY:∀pre x W1,J pre W1->pre++[x] <+: usedL 0 s.used s.gens->YieldAt Bx (n - 1) prog l (RQ x) W1 fun e W'=>
   (e = pJ (pI true)/\J (pre++[x]) W')\/(e = pJ (pI false)/\Jx (pre++[x]) W'))
 (h0:J [] W):
  CallsIn Bx n prog 170 #[.func (.yield l) #[] #[],p_ pb 0] W fun e W'=>(∃v,e = pJ v)/\
   (J (usedL 0 s.used s.gens) W'\/(∃pre,pre <+: usedL 0 s.used s.gens/\Jx pre W')):=by
 have HV:=lH hV;have HY:=lH hY;have ae:Hi (J (Hz s 0) W):=lH (by simpa [Hz,usedL] using h0);obtain⟨p0,F⟩:=hV _ _ h0;obtain⟨c0,c1,c2⟩:=F.cells;have Y:=F.lu;have X:=F.lg;have N:=lH Y;have M:=lH X;clear hV hY h0 F Y X;have ag:Fence.wide.depth.isSome=true->1<=n:=by intro h;cases h
 refine callsIn_of_wp func170 rfl trivial ?_ rfl;simp only [ntmps170,Cz,Av,D4,pL,pM,Bt,Bu,Cd,BD,BH,AL];gi_wp2;refine BW (wpIn_seq (wpIn_label ?_));gi_wp2
 gi_loopw [11] (fun i wr=>∃k:Nat,i = I_ k/\k<=gn/\Hi (J (Hz s k) wr)) (fun i _=>gn - (intOf i).toNat)
 case atStart=>exact⟨0,rfl,Ba _,ae⟩
 case round=>
  obtain⟨k,rfl,hk,D⟩:=hrel;clear p0 c0 c1 c2;obtain⟨p0,E⟩:=HV.o _ _ D.o;obtain⟨c0,c1,c2⟩:=E.cells;by_cases hlt:k<gn
  ·have i1:(0:Int)<=(k:Int):=bB;have i2:(k:Int)<(gn:Int):=bB;obtain⟨g1,o1,b,O,_,hx1,hat1⟩:=E.m.u.at_k (k:=k) (by rw [N.o];exact hlt);obtain⟨g2,o2,z,U,_,hx2,hat2⟩:=E.m.g.at_k (k:=k) (by rw [M.o];exact hlt);have q1:=hat1 0 (pI b) rfl;have q2:=hat2 0 (I_ z) rfl;rw [AT,pR] at q1 q2;rw [U] at c0;rw [O] at c1;have hsn:=Uw hx1 hx2;rw [O];clear E hat1 hat2 hx1 hx2 O U;cases b with
   | false=>
    have G:Hi (J (Hz s (k+1)) wr):=lH (by rw [hsn];simpa using D.o);clear hsn;gi_wp2;refine⟨(fun f hf=>by cases hf),?_⟩;gi_wp2;go_roundw;case rel=>exact⟨k+1,by go_num,by omega,G⟩
    case measure=>simp [intOf];omega
   | true=>
    have B:Hz s k++[((k:Int),z)] <+: usedL 0 s.used s.gens:=by
     have:=Xm s (by rw [N.o,M.o]) (k+1);rw [hsn] at this;exact this
    have aa:=Dq (HY.o _ _ _ D.o B);rw [show Hz s k++[((k:Int),z)]=Hz s (k+1) by rw [hsn];rfl] at aa B;obtain⟨ap,tmps,assign,body,hy,hR⟩:=aa;simp only [RQ] at hy;have T:=lH B;clear hsn B;gi_wp2;refine⟨ag,?_⟩;refine hR.mono ?_;rintro e W3 ⟨g,rfl,E,hF⟩;clear hR hy p0 c0 c1 c2 q1 q2;cases g with
    | false=>
     have af:=lH (hF.out rfl);clear E hF;gi_wp2;try rw [AY]
     go_end0
     exact⟨⟨_,rfl⟩,.inr ⟨_,T.o,af.out⟩⟩
    | true=>
     have G:=lH (E.out rfl);clear E hF;gi_wp2;go_roundw;case rel=>exact⟨k+1,by go_num,by omega,G⟩
     case measure=>simp [intOf];omega
  ·obtain rfl:k=gn:=bB;clear E;gi_wp2;try rw [AY]
   go_end0
   refine⟨⟨_,rfl⟩,.inl ?_⟩;have:=D.o;unfold Hz at this
   rwa [Ak (by rw [N.o];exact Aw _),Ak (by rw [M.o];exact Aw _)] at this
theorem SK(n pb tb:Nat)(v:DF)(s:Fz)(gn fn:Nat)(hg:gn<=1000):
  QL Bx n prog 170 #[pG (some (A_ pb 0))] RQ (usedL 0 s.used s.gens) (fun A=>A.cell? (A_ pb 0)=some (p_ tb 0)/\Kw A tb v s gn gn fn):=fun l J Jx W _ _ hV hY h0=>
 ZU n l pb tb v s gn fn hg J Jx W hV hY h0
def G2(used:List Bool)(met:List Int)(i:Int):Bool:=decide (0<=i)&&decide (i<used.length)&&!(used.getD i.toNat true)&&!decide (i∈met)
theorem RG(D:List Bool)(A B:List Int):∀(met:List Int),Fk D met (A++B)=(Fk D met A&&Fk D (met++A) B):=by
 induction A with
 | nil=>intro met;simp [Fk]
 | cons o A ih=>intro met;simp [Fk,ih,EJ]
theorem OZ{B:List Bool}{L:List Int}{k:Nat}{i:Int}(h:L[k]? = some i):Fk B [] (L.take (k+1))=(Fk B [] (L.take k)&&G2 B (L.take k) i):=by
 rw [A0 h,RG];simp [Fk,G2]
theorem KN{B:List Bool}{L:List Int}{k:Nat}{i:Int}(h:L[k]? = some i)(hb:G2 B (L.take k) i=false):Fk B [] L=false:=by
 have e:L=L.take (k+1)++L.drop (k+1):=(Dn _ _).symm;rw [e,RG,OZ h,hb];simp
theorem H8:∀(u:List Bool) (g:List Int) (i:Nat),u.length=g.length->(usedL i u g).length=u.count true
 | [],[],_,_=>rfl
 | true::u,_::g,i,h=>by simp only [usedL,Av,List.count_cons];rw [H8 u g (i+1) bK];simp
 | false::u,_::g,i,h=>by simp only [usedL,List.count_cons];rw [H8 u g (i+1) bK];simp
 | [],_::_,_,h=>by simp at h
 | _::_,[],_,h=>by simp at h
theorem ZE{w:World}{b:Nat}{B:List Int}(h:DV (pE .i64) w b B)(k:Int):(Ed 107 (.map (some b)) (I_ k) false).run prog w = .ok (pI (decide (k∈B))) w:=by
 have h1:=h.look KQ underlying107 underlying3 bC k;rw [h1]
theorem Vd{w:World}{b:Nat}{met:List Int}(h:DV (pE .i64) w b met)(k:Int)(hn:k∉met):∃o,(Instr.mapUpdate 107 (.map (some b)) (I_ k) (pI true)).run prog w = .ok () (w.putObj b o)/\DV (pE .i64) (w.putObj b o) b (met++[k]):=
 h.update KQ underlying107 underlying3 k hn
theorem ZD{w:World}{b:Nat}{B:List Int}(h:DV (pE .i64) w b B)(D:TypeId):(Builtin.len_ #[107] D #[.map (some b)]).run prog w = .ok (I_ (B.length:Nat)) w:=by
 obtain⟨E,c,hb,he⟩:=h;have hl:=congrArg List.length he;simp only [Bd,BX] at hl;simp [Builtin.len_,run_underlying underlying107,MapKept.run_getObj_map hb,goInt,hl]
structure iZ(w:World)(tb:Nat)(v:DF)(s:Fz)(gn fn nb pb:Nat)(m:Nat)(A:World):Prop where
 box:Blk A nb 3 #[pE pK ((gn:Int) - m)]
 st:DV (pE .i64) A w.heap.size s.free
 pb:A.cell? ⟨pb,0,none⟩=some (pG (some ⟨tb,0,none⟩))
 tab:Kw A tb v s gn gn fn
 kw:Aa [] w A
theorem iZ.keeps{w:World}{D:Nat}{v:DF}{s:Fz}{gn fn B pb m:Nat}{A E:World}{S:List Nat}(h:iZ w D v s gn fn B pb m A)(F:Kw w D v s gn gn fn)(hk:Aa S A E)(hS:∀y∈S,pb<y/\B<y/\w.heap.size<y):iZ w D v s gn fn B pb m E:=by
 have hkw:=h.kw.own hk (fun y hy=>by have:=(hS y hy).2.2;omega);exact⟨h.box.keeps hk (fun hm=>by have:=hS _ hm;omega),h.st.keeps hk (fun hm=>by have:=hS _ hm;omega),(hk.cell (p:=A_ pb 0) (Be _ _ h.pb) (fun hm=>by have:=hS _ hm;dsimp only at this;omega)).trans h.pb,F.keeps hkw,hkw⟩
theorem QQ(E:Nat)(v:DF)(s:Fz)(gn fn:Nat)(b:Bool)(hb:(Fk s.used [] s.free&&decide (s.gens.length=s.free.length+s.used.count true))=b)(w:World)(h:Kw w E v s gn gn fn):
  Calls prog 135 #[pG (some (A_ E 0))] w fun e w'=>e = pJ (pI b)/\Aa [] w w':=by
 refine(callsIn_wide (n:=9)).1 ?_;obtain⟨c0,c1,c2⟩:=h.cells;have T:gn<=1000:=by have:=h.m.sg;rw [h.lg] at this;exact this
 have aj:fn<=1000:=by have:=h.m.sf;rw [h.lf] at this;exact this
 have a0:=h.blk.lt;have D:=lH h;have HB:=lH hb;have az:=fun W=>run_makeMap (P:=prog) 107 W;clear h hb;refine callsIn_of_wp_marks func135 rfl trivial ?_ rfl;simp only [ntmps135,Cz,Av,D4,pL,pM,Bt,Bu,Cd,BD,BH,AL];gi_wp2
 gi_loopw [14] (fun i wr=>∃k:Nat,i = pE pK k/\k<=fn/\Hi (Fk s.used [] (s.free.take k)=true)/\Hi (DV (pE .i64) wr w (s.free.take k))/\Hi (Aa [] w wr)) (fun i _=>fn - (intOf i).toNat)
 case atStart=>exact⟨0,rfl,Ba _,lH rfl,lH (DV.new w),lH ((Aa.refl [] w).alloc _)⟩
 case round=>
  obtain⟨k,rfl,hk,HP,HST,HK⟩:=hrel;obtain⟨c0,c1,c2⟩:=(D.o.keeps HK.o).cells;by_cases hlt:k<fn
  ·have i1:(0:Int)<=(k:Int):=by omega
   have i2:(k:Int)<(fn:Int):=by omega
   obtain⟨g,off,x,ha,hg,hx,hat⟩:=D.o.m.f.at_k (k:=k) (by rw [D.o.lf];exact hlt);have q0:=hat 0 (pE pK x) rfl;rw [AT,pR] at q0;rw [<- HK.o.cell (p:=A_ g (off+k)) hg bA] at q0;rw [ha] at c2 ⊢;have X:=lH hx;have ad:Hi (s.used.length=gn):=lH D.o.lu;clear hat hg hx ha;by_cases hx0:x<0
   ·obtain rfl:b=false:=by rw [<- HB.o,KN X.o (by simp [G2];omega)];rfl
    gi_wp2;exact⟨_,by simp [results,results135,go_sem],rfl,HK.o⟩
   ·obtain⟨m,rfl⟩:∃m:Nat,x=m:=⟨x.toNat,by omega⟩
    have i3:¬(m:Int)<0:=by omega
    by_cases hxu:gn<=m
    ·have i4:(gn:Int)<=(m:Int):=by omega
     obtain rfl:b=false:=by rw [<- HB.o,KN X.o (by simp [G2,ad.o];omega)];rfl
     gi_wp2;exact⟨_,by simp [results,results135,go_sem],rfl,HK.o⟩
    ·have i4:¬(gn:Int)<=(m:Int):=by omega
     have i5:(0:Int)<=(m:Int):=by omega
     have i6:(m:Int)<(gn:Int):=by omega
     obtain⟨g1,o1,u,af,hg1,hx1,hat1⟩:=D.o.m.u.at_k (k:=m) (by rw [D.o.lu];omega);have q1:=hat1 0 (pI u) rfl;rw [AT,pR] at q1;rw [<- HK.o.cell (p:=A_ g1 (o1+m)) hg1 bA] at q1;rw [af] at c1;obtain⟨y,hy⟩:=eX (decide ((m:Int)∈s.free.take k));have hlk:=ZE HST.o (m:Int);rw [hy] at hlk;have N:G2 s.used (s.free.take k) (m:Int)=(!u&&!y):=by
      unfold G2;rw [hy,ad.o,decide_eq_true i5,decide_eq_true i6,pW,AO,hx1];simp
     have G:=lH N;have HY:=lH hy;clear hat1 hg1 hx1 af N hy hx0 hxu;cases u with
     | true=>
      obtain rfl:b=false:=by rw [<- HB.o,KN X.o (by rw [G.o];rfl)];rfl
      gi_wp2;exact⟨_,by simp [results,results135,go_sem],rfl,HK.o⟩
     | false=>
      cases y with
      | true=>
       obtain rfl:b=false:=by rw [<- HB.o,KN X.o (by rw [G.o];rfl)];rfl
       gi_wp2;exact⟨_,by simp [results,results135,go_sem],rfl,HK.o⟩
      | false=>
       obtain⟨o,a1,M⟩:=Vd HST.o (m:Int) (of_decide_eq_false HY.o);have al:Hi (Fk s.used [] (s.free.take (k+1))=true):=lH (by rw [OZ X.o,HP.o,G.o];rfl);have ab:Hi (DV (pE .i64) (wr.putObj w o) w (s.free.take (k+1))):=lH (by rw [A0 X.o];exact M);have HK2:=lH (HK.o.own (Ec _ w o) bF);clear M;gi_wp2;go_roundw;case rel=>exact⟨k+1,by go_num,by omega,al,ab,HK2⟩
       case measure=>simp [intOf];omega
  ·obtain rfl:k=fn:=by omega
   have hst:=HST.o;have hp:=HP.o;rw [Ak (by rw [D.o.lf];exact Aw _)] at hst hp;have ag:b=decide (gn=k+s.used.count true):=by rw [<- HB.o,hp,D.o.lg,D.o.lf];rfl
   have J:=H8 s.used s.gens 0 (by rw [D.o.lu,D.o.lg]);have HBB:=lH ag;have ac:=lH J;have U:=lH hst;clear hst hp ag J;gi_wp2_with (fail);refine⟨trivial,(callsIn_wide.2 (SJ _ _)).mono ?_⟩;rintro e w1 ⟨rfl,hw1⟩;gi_wp2_with (fail);have hsz:w1.heap.size=wr.heap.size+2:=by rw [<- hw1];simp
   have hwr:w.heap.size<wr.heap.size:=U.o.lt;have ae:iZ w E v s gn k wr (wr+1) 0 w1:=by
    have hk2:Aa [] wr w1:=by rw [<- hw1];exact((Aa.refl [] wr).alloc _).alloc _
    refine⟨?_,U.o.keeps hk2 bA,?_,D.o.keeps (HK.o.trans hk2),HK.o.trans hk2⟩
    ·rw [<- hw1];have:=(Blk.new wr 3 #[pE pK (gn:Int)]).alloc (.cells #[pG (some (A_ E 0))] 248);simpa using this
    ·rw [<- hw1];exact(Ar _ 248 _ _ bA).cell 0
   have ak:=lH ae;clear ae hw1;refine Cc rfl bB (gf:=170) (lb:=#[pG (some (A1 wr 0))]) rfl trivial (enters_of func170 bC rfl) (SK 8 (wr+1) E v s gn k T) (fun _=>rfl)
    (fun B A=>iZ w E v s gn k wr (wr+1) B.length A) (fun _ _=>False)
    (fun B A A' h hk=>h.keeps D.o hk bF)
    (fun B A A' h hk=>h)
    (fun B A h=>⟨h.pb,h.tab⟩) ak.o
    (fun x W=>({ tmps:=#[pG (some (A_ E 0)),UD,u2,.map (some w),UD,u5,pG (some (A_ wr 0)),.map (some w),pG (some (A_ E 0)),pG (some (A_ E 0)),pG (some (A_ E 0)),pG (some (A_ E 2)),pF v.fa k v.fc,pE pK (k:Int),pE pK (k:Int),pI false,u16,u17,u18,u19,u20,u21,u22,u23,u24,u25,u26,u27,u28,u29,u30,u31,u32,u33,u34,u35,u36,u37,u38,u39,u40,u41,u42,u43,u44,u45,u46,u47,pG (some (A_ E 0)),pG (some (A_ E 0)),pG (some (A_ E 0)),pG (some (A_ E 0)),pF v.ga gn v.gc,pE pK (gn:Int),pG (some (A_ E 0)),.func (.func 170) #[] #[pG (some (A1 wr 0))],pH #[pE pK x.1,pE pK x.2],UD,UD,UD,UD,UD,UD],defers:=[] },W))
    (fun x W=>Aa.refl [] W) ?assign ?body ?done ?stop
   case assign=>
    rintro l ⟨x1,x2⟩ W K hK;simp only [RQ];gi_wp2;exact hK
   case body=>
    rintro l B ⟨x1,x2⟩ W W2 hI Y aa hk2;dsimp only at hk2 ⊢;have O:=hI.keeps D.o hk2 bF;have an:B.length+1<=gn:=by
     have h1:=Y.length_le;rw [ac.o] at h1;have h2:=List.count_le_length (a:=true) (l:=s.used);have h3:=D.o.lu;simp only [Al,Bp] at h1;omega
    have d0:=O.box.ce 0;have f0:=O.box.frozen 0;obtain⟨x,hx⟩:∃x:Int,(gn:Int) - (B.length:Nat)=x:=⟨_,rfl⟩;rw [hx] at d0;have hx1:wrap64 (x - 1)=x - 1:=by unfold wrap64;omega
    have hx2:IntKind.i64.wrap (x - 1)=x - 1:=by rw [IntKind.wrap_i64];omega
    have X:=lH hx;have F:=lH O;have ah:W.heap.size<=W2.heap.size:=hk2.size;have am:=lH ah;clear hI hk2 O hx an ah;gi_wp2;have hk4:Aa [wr.heap.size] W2 (W2.setCell (A_ wr 0) (pE pK (x - 1))):=(Aa.refl _ W2).setCell (p:=A_ wr 0) (.inl bA) _;have hkw:=F.o.kw.own hk4 bF;refine⟨hk4.size,fun y hy=>hk4.block y ?_ ?_,?_,F.o.st.keeps hk4 bI,(hk4.cell (p:=A1 wr 0) (Be _ _ F.o.pb) bA).trans F.o.pb,D.o.keeps hkw,hkw⟩
    ·simp only [Ac,Ab,or_false] at hy
     have h9:=am.o;omega
    ·simp only [Ac,Ab,or_false] at hy ⊢;omega
    ·have:=F.o.box.set_ 0 (pE pK (x - 1))
     rw [Al,Bp];rw [show(gn:Int) - ((B.length+1:Nat):Int)=x - 1 by have:=X.o;omega];exact this
   case done=>
    rintro W hI aa hK;have d0:=hI.box.ce 0;rw [ac.o] at d0;have hln:=fun ty=>ZD hI.st ty;rw [D.o.lf] at hln;obtain⟨x,hx⟩:∃x:Int,(gn:Int) - ((s.used.count true:Nat):Int)=x:=⟨_,rfl⟩;rw [hx] at d0;have aq:(x==(k:Int))=b:=by rw [HBB.o,<- hx,DI,beq_iff_eq,decide_eq_true_eq];omega
    have F:=lH hI;clear hI hx;gi_wp2;refine⟨by simp,.inl ⟨_,_,rfl,run_takeDeferred hK,?_⟩⟩;have hk4:=AG (S:=[w1.heap.size]) W (.deferred none) (l:=w1.heap.size) bA;refine⟨_,by simp [results,results135,go_sem],rfl,F.o.kw.own hk4 bF⟩
   case stop=>
    rintro B W Y hX aa hK;exact hX.elim
def QT:Array Value:=#[.func (.func 133) #[] #[],.func (.func 134) #[] #[],.func (.func 135) #[] #[]]
theorem Uo(E:Nat)(v:DF)(s:Fz)(gn un fn O:Nat)(ty:TypeId)(b:Bool)(hb:Dv s=b)(w:World)(h:Kw w E v s gn un fn)(hf:Blk w O ty QT):
  Calls prog 132 #[pG (some (A_ E 0)),pF (some (A_ O 0)) 3 3] w fun e w'=>e = pJ (pI b)/\Aa [] w w':=by
 have G:=lH h;have F:=lH hf;obtain⟨J,h1⟩:=eX (Mj gn un);obtain⟨M,h2⟩:=eX (UN s.gens);obtain⟨b3,h3⟩:=eX ((Fk s.used [] s.free&&decide (s.gens.length=s.free.length+s.used.count true)));have D:b=(J&&(M&&b3)):=by
  rw [<- hb,<- h1,<- h2,<- h3];unfold Dv Mj;rw [h.lg,h.lu];simp only [EJ]
 have HBB:=lH D;have N:=lH h1;have H2:=lH h2;have Y:=lH h3;clear h hf h1 h2 h3 hb D;go_enter func132,ntmps132;go_wp2;refine wp_loop_rounds 4 ?_;rw [rounds_succ];have T:=F.o.cell 0;simp only [QT,An,Aj] at T;go_wp2_with fail;refine(TE E v s gn un fn J N.o _ G.o).mono ?_;rintro e w1 ⟨rfl,hk1⟩;clear T;have HK1:=lH hk1;clear hk1;cases J with
 | false=>
  obtain rfl:b=false:=HBB.o;go_wp2;go_ret;exact⟨rfl,HK1.o⟩
 | true=>
  go_wp2_with fail;rw [rounds_succ];have U:=(F.o.keeps HK1.o bA).cell 1;simp only [QT,An,Aj,Ao] at U;go_wp2_with fail;refine(QR E v s gn un fn M H2.o _ (G.o.keeps HK1.o)).mono ?_;rintro e w2 ⟨rfl,rfl⟩;clear U;cases M with
  | false=>
   obtain rfl:b=false:=HBB.o;go_wp2;go_ret;exact⟨rfl,HK1.o⟩
  | true=>
   go_wp2_with fail;rw [rounds_succ];have X:=(F.o.keeps HK1.o bA).cell 2;simp only [QT,An,Aj,Ao] at X;obtain rfl:un=gn:=by
    have:=N.o;simp only [Mj,Af,decide_eq_true_eq] at this;omega
   go_wp2_with fail;refine(QQ E v s un fn b3 Y.o _ (G.o.keeps HK1.o)).mono ?_;rintro e w3 ⟨rfl,hk3⟩;clear X;have B:=lH (HK1.o.trans hk3);clear hk3;obtain rfl:b=b3:=HBB.o;cases b with
   | false=>
    go_wp2;go_ret;exact⟨rfl,B.o⟩
   | true=>
    go_wp2_with fail;rw [rounds_succ];go_wp2;go_ret;exact⟨rfl,B.o⟩
theorem DR(v:DF)(s:Fz)(gn un fn:Nat)(hg:s.gens.length=gn)(hu:s.used.length=un)(hf:s.free.length=fn)(b:Bool)(hb:Dv s=b)(w:World)(h:Dy w v s):
  Calls prog 78 #[pH (S_ v gn un fn)] w fun e w'=>e = pJ (pI b)/\Aa [] w w':=by
 have hk:=(((Aa.refl [] w).alloc (.cells (S_ v gn un fn) 26)).alloc (.cells (S_ v gn un fn) 250)).alloc (.cells QT 254);have HC:=lH (fun W (hkk:Aa [] w W) (hb1:Blk W (w+1) 250 (S_ v gn un fn)) (hb2:Blk W (w+1+1) 254 QT)=>Uo (w+1) v s gn un fn (w+1+1) 254 b hb W ⟨hb1,h.keeps hkk,hg,hu,hf⟩ hb2);have HK:=lH hk;have HB1:=lH ((Ar (w.alloc (.cells (S_ v gn un fn) 26)) 250 (S_ v gn un fn) (w+1) bA).alloc (.cells QT 254));have HB2:=lH (Ar ((w.alloc (.cells (S_ v gn un fn) 26)).alloc (.cells (S_ v gn un fn) 250)) 254 QT (w+1+1) bA);clear hk h hb hg hu hf;go_enter func78,ntmps78;go_wp2_with fail;refine(HC.o _ HK.o HB1.o HB2.o).mono ?_;rintro e w1 ⟨rfl,hk1⟩;have HK1:=lH (HK.o.trans hk1);clear hk1;go_wp2;go_ret;exact⟨rfl,HK1.o⟩
def Hr(l:Int)(L:List El):Int:=(L.getLast?.map (·.id)).getD l
def J6(met:List Int)(last:Int)(c:El):Bool:=!met.contains c.id&&decide (last<=c.id)
theorem PT:∀(A B:List El) (m:List Int) (l:Int),CT m l (A++B)=(CT m l A&&CT (m++A.map (·.id)) (Hr l A) B)
 | [],B,m,l=>by simp [CT,Hr]
 | c::A,B,m,l=>by
  have h:Hr l (c::A)=Hr c.id A:=by
   unfold Hr;rw [List.getLast?_cons];cases A.getLast?<;>rfl
  rw [AL,CT,CT,PT A B,h];simp only [CR,EJ];rw [CC];rfl
theorem cE(m:List Int)(l:Int)(c:El):CT m l [c]=J6 m l c:=by simp [CT,J6]
theorem Rj{L:List El}{k:Nat}{c:El}(h:L[k]? = some c):CT [] 0 (L.take (k+1))=(CT [] 0 (L.take k)&&J6 ((L.take k).map (·.id)) (Hr 0 (L.take k)) c):=by
 rw [A0 h,PT,cE,BH]
theorem UF{L:List El}{k:Nat}{c:El}(h:L[k]? = some c)(hb:J6 ((L.take k).map (·.id)) (Hr 0 (L.take k)) c=false):CT [] 0 L=false:=by
 have h2:=Rj h;rw [hb,Bool.and_false] at h2;rw [<- Dn (k+1) L,PT,h2,Ep]
theorem Ws{L:List El}{k:Nat}{c:El}(h:L[k]? = some c):Hr 0 (L.take (k+1))=c.id:=by
 rw [A0 h];simp [Hr]
theorem Kb(a:Option Addr)(c:Nat)(L:List El)(n:Nat)(hn:L.length=n)(hL:n<=1000000)(b:Bool)(hb:DK L=b)(w:World)(h:Hg w a c L):
  Calls prog 139 #[pF a n c] w fun e w'=>e = pJ (pI b)/\Aa [] w w':=by
 have HH:=lH h;have HN:=lH hn;have HB:=lH hb;clear h hn hb;have al:=fun W=>run_makeMap (P:=prog) 107 W;have ad:Hi (DV (pE .i64) (w.alloc (.map #[] 0)) w ([]:List Int)):=lH (DV.new w);go_enter func139,ntmps139;go_wp2;go_loopw [10,4] (fun i l wr=>∃k:Nat,i = I_ k/\k<=n/\l = I_ (Hr 0 (L.take k))/\Hi (CT [] 0 (L.take k)=true)/\Hi (DV (pE .i64) wr w ((L.take k).map (·.id)))/\Hi (Aa [] w wr)) (fun i _ _=>n - (intOf i).toNat)
 case atStart=>exact⟨0,rfl,Ba _,rfl,lH rfl,ad,lH ((Aa.refl [] w).alloc _)⟩
 case round=>
  obtain⟨k,rfl,hk,G,HP,HST,HK⟩:=hrel;obtain⟨la,M⟩:=eX (Hr 0 (L.take k));rw [M] at G;obtain rfl:=G;have af:=lH M;clear M;by_cases hlt:k<n
  ·obtain⟨g,off,⟨id,O,N,T⟩,rfl,hg,hx,hat⟩:=HH.o.at_k (k:=k) bO
   have q0:=hat 0 (I_ id) rfl;have q1:=hat 1 (Dz O) rfl;have q2:=hat 2 (I_ N) rfl;have q3:=hat 3 (I_ T) rfl;rw [AT] at q0;rw [<- HK.o.cell (p:=A_ g (off+k*4)) hg bA] at q0;rw [<- HK.o.cell (p:=A_ g (off+k*4+1)) hg bA] at q1;rw [<- HK.o.cell (p:=A_ g (off+k*4+2)) hg bA] at q2;rw [<- HK.o.cell (p:=A_ g (off+k*4+3)) hg bA] at q3;have i1:(0:Int)<=(k:Int):=bB;have i2:(k:Int)<(n:Int):=bB;have Y:=lH hx;have hk0:=(Aa.refl [] wr).alloc (.cells #[pE pK id,Dz O,I_ N,I_ T] 209);have B:=HST.o.keeps hk0 bA;have E:=Blk.new wr 209 #[pE pK id,Dz O,I_ N,I_ T];have d0:=E.ce 0;have d1:=E.ce 1;have hlk:=ZE B id;obtain⟨y2,F⟩:=eX (decide (id∈(L.take k).map (·.id)));obtain⟨y3,ah⟩:=eX (decide (id<la));rw [F] at hlk;have hst:J6 ((L.take k).map (·.id)) (Hr 0 (L.take k)) ⟨id,O,N,T⟩=(!y2&&!y3):=by
    unfold J6;rw [af.o,List.contains_eq_mem,F,<- ah]
    congr 1
    rw [<- decide_not];exact decide_eq_decide.2 bH
   have HOS:=lH hst;have HY2:=lH F;have HK0:=lH (HK.o.alloc (.cells #[pE pK id,Dz O,I_ N,I_ T] 209));have X:=lH B;have ac:=lH E;have U:Hi (w.heap.size<wr.heap.size):=lH HST.o.lt;clear hat hg hx hk0 B E F hst;cases y2 with
   | true=>
    obtain rfl:b=false:=by rw [<- HB.o];unfold DK;rw [UF Y.o lV];rfl
    go_wp2;go_ret;exact⟨rfl,HK0.o⟩
   | false=>
    cases y3 with
    | true=>
     obtain rfl:b=false:=by rw [<- HB.o];unfold DK;rw [UF Y.o lV];rfl
     go_wp2;go_ret;exact⟨rfl,HK0.o⟩
    | false=>
     obtain⟨o,am,D⟩:=Vd (X.o.keeps ((Aa.refl [] _).drew) bA) id (of_decide_eq_false HY2.o);have ag:Hi (CT [] 0 (L.take (k+1))=true):=lH (by rw [Rj Y.o,HP.o,HOS.o];rfl);have J:Hi (DV (pE .i64) ((wr.alloc (.cells #[pE pK id,Dz O,I_ N,I_ T] 209)).drew.putObj w o) w ((L.take (k+1)).map (·.id))):=lH (by rw [A0 Y.o,pO];exact D);have ae:Hi (Hr 0 (L.take (k+1))=id):=lH (Ws Y.o);have HK2:=lH (HK0.o.drew.own (Ec _ w o) bF);have e0:=(ac.o.drew.keeps (Ec _ w o) (by have:=U.o;simp only [Ac,Ab,or_false];omega)).ce 0;clear D;go_wp2;go_region;go_wp2;go_roundw;case rel=>exact⟨k+1,by go_num,by omega,by rw [ae.o],ag,J,HK2⟩
     case measure=>simp [intOf];omega
  ·obtain rfl:k=n:=bB;have aa:CT [] 0 L=true:=by
    have:=HP.o
    rwa [Ak bL] at this
   obtain⟨y,hy⟩:=eX (L.all IR);have ab:b=(decide (k<=4)&&y):=by rw [<- HB.o];unfold DK;rw [aa,hy,HN.o];rfl
   have HBB:=lH ab;have HY:=lH hy;clear aa hy ab;by_cases h10:k<=4
   ·have i3:(k:Int)<=4:=bB;obtain rfl:b=y:=by rw [HBB.o,decide_eq_true h10];rfl
    have HF:=lH (Blk.new wr 313 Vy);have HKF:=lH (HK.o.alloc (.cells Vy 313));clear h10;go_wp2_with fail;refine(Rn a c L k HN.o hL _ _ b HY.o _ (HH.o.keeps HKF.o) HF.o).mono ?_;rintro e w1 ⟨rfl,hk1⟩;have HK1:=lH (HKF.o.trans hk1);clear hk1;go_wp2;go_ret;exact⟨rfl,HK1.o⟩
   ·have i3:¬(k:Int)<=4:=bB;obtain rfl:b=false:=by rw [HBB.o,decide_eq_false h10];rfl
    clear h10;go_wp2;go_ret;exact⟨rfl,HK.o⟩
theorem Nl(s:ByteArray)(b:Bool)(hb:IK s=b)(w:World):Calls prog 137 #[Dz s] w fun e w'=>e = pJ (pI b)/\Aa [] w w':=by
 have HB:=lH hb;clear hb;by_cases h0:s=⟨#[]⟩
 ·obtain rfl:b=false:=by rw [<- HB.o];simp [IK,h0]
  subst h0;clear HB;go_enter func137,ntmps137;go_wp2;go_ret;exact⟨rfl,Aa.refl [] w⟩
 ·have hne:=Vf h0
  by_cases h1:s.size<=40
  ·obtain⟨y,hy⟩:=eX (Gi s)
   obtain rfl:b=y:=by rw [<- HB.o,<- hy,Pa];simp [IK,h0,h1]
   have B:=lH hy;have i1:(s.size:Int)<=40:=bB;have hs:s.size<=maxLen:=by unfold maxLen;omega
   clear h0 h1 hy HB;go_enter func137,ntmps137;go_wp2_with fail;refine(Od s hs b B.o _).mono ?_;rintro e w1 ⟨rfl,hk⟩;have HK:=lH hk;clear hk;go_wp2;go_ret;exact⟨by(show pJ (pI (!s.toList.isEmpty&&b))=_;rw [E9.2 hne];rfl),HK.o⟩
  ·obtain rfl:b=false:=by rw [<- HB.o];simp [IK,h1]
   have i1:¬(s.size:Int)<=40:=bB;clear h0 h1 HB;go_enter func137,ntmps137;go_wp2;go_ret;exact⟨by(show pJ (pI _)=_;simp),Aa.refl [] w⟩
theorem O0(v:TV)(seq:Int)(b:Bool)(hb:(decide (1<=v.version)&&decide (v.version<=seq))=b)(w:World):Calls prog 81 #[pH (U_ v seq)] w fun e w'=>e = pJ (pI b)/\Aa [] w w':=by
 have HK:=lH ((Aa.refl [] w).alloc (.cells (U_ v seq) 166));obtain⟨b1,h1⟩:=eX (decide (1<=v.version));rw [h1] at hb;have f1:decide (v.version≥1)=b1:=h1;clear h1;cases b1<;>simp only [Ep,DJ] at hb<;>
 ·subst hb
  go_enter func81,ntmps81;go_wp2;go_ret;exact⟨rfl,HK.o⟩
def NV(st dl:Int):Bool:=decide (1<=st)&&(decide (st<=3)&&(decide (0<=dl)&&(decide (dl<=1000000000000)&&(decide (dl=0)||decide (st=3)))))
theorem O1(v:TV)(seq:Int)(b:Bool)(hb:NV v.state v.deadline=b)(w:World):Calls prog 82 #[pH (U_ v seq)] w fun e w'=>e = pJ (pI b)/\Aa [] w w':=by
 have HK:=lH ((Aa.refl [] w).alloc (.cells (U_ v seq) 166));obtain⟨E,hst⟩:=eX v.state;obtain⟨D,B⟩:=eX v.deadline;rw [hst,B] at hb HK;rw [hst,B];clear hst B;unfold NV at hb;obtain⟨b1,h1⟩:=eX (decide (1<=E));obtain⟨J,h2⟩:=eX (decide (E<=3));obtain⟨b3,h3⟩:=eX (decide (0<=D));obtain⟨M,h4⟩:=eX (decide (D<=1000000000000));obtain⟨b5,F⟩:=eX (decide (D=0));obtain⟨b6,G⟩:=eX (decide (E=3));rw [h1,h2,h3,h4,F,G] at hb;have f1:decide (E≥1)=b1:=h1;have N:decide (D≥0)=b3:=h3;have O:(D==0)=b5:=by rw [<- F,DI];simp
 have T:(E==3)=b6:=by rw [<- G,DI];simp
 clear h1 h3 F G;cases b1 with
 | false=>
  simp only [Ep,DJ] at hb;subst hb;go_enter func82,ntmps82;go_wp2;go_ret;exact⟨rfl,HK.o⟩
 | true=>
  cases J with
  | false=>
   simp only [Ep,DJ] at hb;subst hb;go_enter func82,ntmps82;go_wp2;go_ret;exact⟨rfl,HK.o⟩
  | true=>
   cases b3 with
   | false=>
    simp only [Ep,DJ] at hb;subst hb;go_enter func82,ntmps82;go_wp2;go_ret;exact⟨rfl,HK.o⟩
   | true=>
    cases M with
    | false=>
     simp only [Ep,DJ] at hb;subst hb;go_enter func82,ntmps82;go_wp2;go_ret;exact⟨rfl,HK.o⟩
    | true=>
     simp only [Ep,DJ] at hb;cases b5<;>cases b6<;>simp only [Bool.false_or,Bool.true_or] at hb<;>
     ·subst hb
      go_enter func82,ntmps82;go_wp2;go_ret;exact⟨rfl,HK.o⟩
theorem RO(v:TV)(t:Ten)(seq:Int)(hs:t.rules.length<=1000/\t.creds.length<=1000)(b:Bool)(hb:(IK v.name&&(Ew t.rules&&DK t.creds))=b)(w:World)(h:Cj w v t):Calls prog 83 #[pH (U_ v seq)] w fun e w'=>e = pJ (pI b)/\Aa [] w w':=by
 obtain⟨G,h1⟩:=eX (IK v.name);obtain⟨J,h2⟩:=eX (Ew t.rules);obtain⟨b3,h3⟩:=eX (DK t.creds);rw [h1,h2,h3] at hb;have N:=lH (Nl v.name G h1);have H2:=lH (fun W (hk:Aa [] w W)=>JU v.ra v.rc t.rules v.rl h.rl (by have:=h.rl;omega) J h2 W (h.rs.keeps hk));have O:=lH (fun W (hk:Aa [] w W)=>Kb v.ca v.cc t.creds v.cl h.cl (by have:=h.cl;omega) b3 h3 W (h.cs.keeps hk));have HB:=lH hb;have HK0:=lH ((Aa.refl [] w).alloc (.cells (U_ v seq) 166));have D:=lH (Blk.new w 166 (U_ v seq));have T:=D.o.ce 2;clear h1 h2 h3 hb h hs;go_enter func83,ntmps83;go_wp2_with fail;refine(N.o _).mono ?_;rintro e w1 ⟨rfl,hk1⟩;have HK1:=lH (HK0.o.trans hk1);have B:=D.o.keeps hk1 bA;have U:=B.ce 5;have M:=B.ce 6;have E:=lH B;clear hk1 B T;cases G with
 | false=>
  obtain rfl:b=false:=by rw [<- HB.o];rfl
  go_wp2;go_ret;exact⟨rfl,HK1.o⟩
 | true=>
  go_wp2_with fail;refine(H2.o _ HK1.o).mono ?_;rintro e w2 ⟨rfl,hk2⟩;have HK2:=lH (HK1.o.trans hk2);have B:=E.o.keeps hk2 bA;clear U M;have M:=B.ce 6;clear hk2 B;cases J with
  | false=>
   obtain rfl:b=false:=by rw [<- HB.o];rfl
   go_wp2;go_ret;exact⟨rfl,HK2.o⟩
  | true=>
   obtain rfl:b=b3:=by rw [<- HB.o];rfl
   go_wp2_with fail;refine(O.o _ HK2.o).mono ?_;rintro e w3 ⟨rfl,hk3⟩;have F:=lH (HK2.o.trans hk3);clear hk3;go_wp2;go_ret;exact⟨rfl,F.o⟩
def XH:Array Value:=#[.func (.func 81) #[] #[],.func (.func 82) #[] #[],.func (.func 83) #[] #[]]
theorem eS{w:World}{v:TV}{t:Ten}(h:Cj w v t)(seq:Int):Gq seq t=((decide (1<=v.version)&&decide (v.version<=seq))&&(NV v.state v.deadline&&(IK v.name&&(Ew t.rules&&DK t.creds)))):=by
 unfold Gq EM FG Hf NV;rw [h.version,h.state,h.deadline,h.name];simp only [EJ]
theorem Uu(v:TV)(t:Ten)(seq:Int)(hs:t.rules.length<=1000/\t.creds.length<=1000)(fb:Nat)(ty:TypeId)(b:Bool)(hb:Gq seq t=b)(w:World)(h:Cj w v t)(hf:Blk w fb ty XH):Calls prog 80 #[pH (U_ v seq),pF (some (A_ fb 0)) 3 3] w fun e w'=>e = pJ (pI b)/\Aa [] w w':=by
 obtain⟨wz,hwz⟩:=eX ((w.alloc (.cells (U_ v seq) 166)));have HK0:Hi (Aa [] w wz):=lH jV;have hb0:Blk wz w 166 (U_ v seq):=by rw [<- hwz];exact Blk.new w _ _
 have hb1:Blk wz fb ty XH:=hf.keeps HK0.o bA;obtain⟨b1,h1⟩:=eX ((decide (1<=v.version)&&decide (v.version<=seq)));obtain⟨b2,h2⟩:=eX (NV v.state v.deadline);obtain⟨b3,h3⟩:=eX ((IK v.name&&(Ew t.rules&&DK t.creds)));rw [eS h seq,h1,h2,h3] at hb;have H1:=lH h1;have H2:=lH h2;have H3:=lH h3;have HB:=lH hb;have HT:=lH h;have HSZ:=lH hs;clear h1 h2 h3 hb hf h hs;have HB0:=lH hb0;have HB1:=lH hb1;clear hb0 hb1;go_enter func80,ntmps80;go_wp2;refine wp_loop_rounds 4 ?_;rw [rounds_succ];have hb0:=HB0.o;have hb1:=HB1.o;clear hwz;have T:=hb1.cell 0;have U:=hb1.cell 1;have X:=hb1.cell 2;have B:=hb0.cell 0;have D:=hb0.cell 1;have E:=hb0.cell 2;have F:=hb0.cell 3;have G:=hb0.cell 4;have J:=hb0.cell 5;have M:=hb0.cell 6;have N:=hb0.cell 7;have O:=hb0.cell 8;simp only [XH,An,Aj,Ao] at T U X B D E F G J M N O;have Y:=lH hb0;have ac:=lH hb1;clear hb0 hb1;go_wp2_with fail;refine(O0 v seq b1 H1.o _).mono ?_;rintro e w1 ⟨rfl,hk1⟩;have HK1:=lH (HK0.o.trans hk1);have hb0:=Y.out.keeps hk1 bA;have hb1:=ac.out.keeps hk1 bA;clear T U X B D E F G J M N O hk1;cases b1 with
 | false=>
  obtain rfl:b=false:=by rw [<- HB.o];simp
  go_wp2;go_ret;exact⟨rfl,HK1.o⟩
 | true=>
  go_wp2_with fail;rw [rounds_succ];have T:=hb1.cell 0;have U:=hb1.cell 1;have X:=hb1.cell 2;have B:=hb0.cell 0;have D:=hb0.cell 1;have E:=hb0.cell 2;have F:=hb0.cell 3;have G:=hb0.cell 4;have J:=hb0.cell 5;have M:=hb0.cell 6;have N:=hb0.cell 7;have O:=hb0.cell 8;simp only [XH,An,Aj,Ao] at T U X B D E F G J M N O;have aa:=lH hb0;have ad:=lH hb1;clear hb0 hb1;go_wp2_with fail;refine(O1 v seq b2 H2.o _).mono ?_;rintro e w2 ⟨rfl,hk2⟩;have HK2:=lH (HK1.o.trans hk2);have hb0:=aa.out.keeps hk2 bA;have hb1:=ad.out.keeps hk2 bA;clear T U X B D E F G J M N O hk2;cases b2 with
  | false=>
   obtain rfl:b=false:=by rw [<- HB.o];simp
   go_wp2;go_ret;exact⟨rfl,HK2.o⟩
  | true=>
   go_wp2_with fail;rw [rounds_succ];have T:=hb1.cell 0;have U:=hb1.cell 1;have X:=hb1.cell 2;have B:=hb0.cell 0;have D:=hb0.cell 1;have E:=hb0.cell 2;have F:=hb0.cell 3;have G:=hb0.cell 4;have J:=hb0.cell 5;have M:=hb0.cell 6;have N:=hb0.cell 7;have O:=hb0.cell 8;simp only [XH,An,Aj,Ao] at T U X B D E F G J M N O;have ab:=lH hb0;have ae:=lH hb1;clear hb0 hb1;go_wp2_with fail;refine(RO v t seq HSZ.o b3 H3.o _ (HT.o.keeps HK2.o)).mono ?_;rintro e w3 ⟨rfl,hk3⟩;have af:=lH (HK2.o.trans hk3);have hb0:=ab.out.keeps hk3 bA;have hb1:=ae.out.keeps hk3 bA;clear T U X B D E F G J M N O hk3;cases b3 with
   | false=>
    obtain rfl:b=false:=by rw [<- HB.o];simp
    go_wp2;go_ret;exact⟨rfl,af.o⟩
   | true=>
    go_wp2_with fail;rw [rounds_succ];obtain rfl:b=true:=by rw [<- HB.o];rfl
    go_wp2;go_ret;exact⟨rfl,af.o⟩
def tv0:TV:=⟨0,0,⟨#[]⟩,0,0,none,0,0,none,0,0,0⟩
def Mg(lv:List TV)(seq:Int)(k:Nat):Array Value:=(fun v:TV=>#[pE pK (k:Int),pH (U_ v seq)]) (lv.getD k tv0)
theorem E8{n:Nat}{B:List Nat}{x:Nat}(h:B++[x] <+: AC n):B=AC x/\x<n:=by
 have hl:B.length+1<=n:=by have:=h.length_le;simpa using this
 have h1:=List.prefix_iff_eq_take.1 h;rw [Al,Bp,List.take_range,DE hl,B3] at h1;obtain⟨h2,h3⟩:=List.append_inj h1 bA;injection h3 with h3
 subst h3;exact⟨h2,by omega⟩
theorem BZ{n k:Nat}(h:k<n):AC k++[k] <+: AC n:=by
 rw [<- B3];exact List.prefix_iff_eq_take.2 (by rw [AP,List.take_range,DE bB])
theorem FU(v:B6)(r:CJ)(gn un fn ln:Nat)(w:World):Calls prog 79 #[pH (R_ v gn un fn ln r.seq)] w fun e w'=>e = pJ (.func (.func 136) #[] #[pG (some (A_ w 0))])/\w.alloc (.cells (R_ v gn un fn ln r.seq) 29)=w':=by
 go_enter func79,ntmps79;go_wp2;go_ret;exact⟨rfl,rfl⟩
def jH(pb:Nat)(la:Option Addr)(lc ln:Nat)(lv:List TV)(seq:Int)(A:World):Prop:=A.cell? ⟨pb,3,none⟩=some (pF la ln lc)/\A.cell? ⟨pb,4,none⟩=some (pE pK seq)/\AR BE 8 A la lc lv
theorem SF(n l pb:Nat)(la:Option Addr)(lc ln:Nat)(lv:List TV)(hln:lv.length=ln)(O:ln<=1000)(seq:Int)(J Y:List Nat->World->Prop)(W:World)(hJ:PG [] J)(hV:∀z A,J z A->jH pb la lc ln lv seq A)
 (hY:∀pre x W1,J pre W1->pre++[x] <+: AC ln->YieldAt Bx (n - 1) prog l (Mg lv seq x) W1 fun e W'=>
   (e = pJ (pI true)/\J (pre++[x]) W')\/(e = pJ (pI false)/\Y (pre++[x]) W'))
 (h0:J [] W):
  CallsIn Bx n prog 136 #[.func (.yield l) #[] #[],p_ pb 0] W fun e W'=>(∃v,e = pJ v)/\
   (J (AC ln) W'\/(∃pre,pre <+: AC ln/\Y pre W')):=by
 have HV:=lH hV;have HY:=lH hY;have HST:=lH hJ;have HLN:=lH hln;have G:Hi (J (AC 0) W):=lH (by simpa using h0);obtain⟨N,F,_⟩:=hV _ _ h0;clear hV hY h0 hJ hln;have X:Fence.wide.depth.isSome=true->1<=n:=by intro h;cases h
 refine callsIn_of_wp func136 rfl trivial ?_ rfl;simp only [ntmps136,Cz,Av,D4,pL,pM,Bt,Bu,Cd,BD,BH,AL];gi_wp2;refine BW (wpIn_seq (wpIn_label ?_));gi_wp2
 gi_loopw [8] (fun i wr=>∃k:Nat,i = I_ k/\k<=ln/\Hi (J (AC k) wr)) (fun i _=>ln - (intOf i).toNat)
 case atStart=>exact⟨0,rfl,Ba _,G⟩
 case round=>
  obtain⟨k,rfl,hk,B⟩:=hrel;clear N F;by_cases hlt:k<ln
  ·have i1:(0:Int)<=(k:Int):=bB;have i2:(k:Int)<(ln:Int):=bB;obtain⟨N,F,hS⟩:=HV.o _ _ B.o;obtain⟨g1,o1,v,rfl,hg1,hx1,hat1⟩:=hS.at_k (k:=k) (by rw [HLN.o];exact hlt);have q0:=hat1 0 _ rfl;have q1:=hat1 1 _ rfl;have q2:=hat1 2 _ rfl;have q3:=hat1 3 _ rfl;have q4:=hat1 4 _ rfl;have q5:=hat1 5 _ rfl;have q6:=hat1 6 _ rfl;have q7:=hat1 7 _ rfl;rw [AT] at q0;have hk0:=(Aa.refl [] wr).alloc (.cells (T_ v) 131);have e4:=Ct F (.cells (T_ v) 131);have D:=HST.o _ _ _ B.o hk0;have hgd:lv.getD k tv0=v:=by rw [AO,hx1];rfl
   have E:=Dq (HY.o _ _ _ D (BZ hlt));rw [<- B3] at E;obtain⟨ag,tmps,assign,body,hy,hR⟩:=E;simp only [Mg,hgd] at hy;clear hS hat1 hx1 hg1 hk0 D hgd;gi_wp2;refine⟨X,?_⟩;refine hR.mono ?_;rintro e W3 ⟨g,rfl,U,hF⟩;clear hR hy N F q0 q1 q2 q3 q4 q5 q6 q7 e4;cases g with
   | false=>
    have T:=lH (hF.out rfl);clear U hF;gi_wp2;try rw [AY]
    go_end0
    exact⟨⟨_,rfl⟩,.inr ⟨_,by rw [B3];exact BZ hlt,T.out⟩⟩
   | true=>
    have M:=lH (U.out rfl);clear U hF;gi_wp2;go_roundw;case rel=>exact⟨k+1,by go_num,by omega,M⟩
    case measure=>simp [intOf];omega
  ·obtain rfl:k=ln:=bB;gi_wp2;try rw [AY]
   go_end0
   exact⟨⟨_,rfl⟩,.inl B.o⟩
theorem FV(n pb:Nat)(la:Option Addr)(lc ln:Nat)(lv:List TV)(hln:lv.length=ln)(h1000:ln<=1000)(seq:Int):
  QL Bx n prog 136 #[pG (some (A_ pb 0))] (Mg lv seq) (AC ln) (jH pb la lc ln lv seq):=fun l J Jx W hJ _ hV hY h0=>
 SF n l pb la lc ln lv hln h1000 seq J Jx W hJ hV hY h0
theorem GR{a b:ByteArray}(h:¬a=b):¬a.toList=b.toList:=fun e=>h (by
 rw [ED,ED] at e;obtain⟨⟨l⟩⟩:=a;obtain⟨⟨m⟩⟩:=b;have e2:l=m:=e;rw [e2])
theorem OX{α:Type}{p:α->Bool}{L:List α}{k:Nat}{x:α}(h:L[k]? = some x)(hf:(L.take k).find? p=none):(L.take (k+1)).find? p=if p x then some x else none:=by
 rw [A0 h,List.find?_append,hf];simp [List.find?_cons];split<;>simp_all
theorem cL{α:Type}{p:α->Bool}{L:List α}{k:Nat}{x:α}(h:L[k]? = some x)(hf:(L.take k).find? p=none)(hp:p x=true):L.find? p=some x:=by
 have e:L=L.take (k+1)++L.drop (k+1):=(Dn _ _).symm;rw [e,List.find?_append,OX h hf,hp];rfl
theorem Pj(a:Option Addr)(c:Nat)(L:List GF)(n:Nat)(hn:L.length=n)(hL:n<=1000000)(hs:∀o∈L,o.name.size<=maxLen)(B:ByteArray)(r e:Int)(hr:BM L B=(r,e))(w:World)(h:IE w a c L):
  Calls prog 19 #[pF a n c,Dz B] w fun x w'=>x = pJ (.tuple #[pE pK r,I_ e])/\Aa [] w w':=by
 have HH:=lH h;have HN:=lH hn;obtain⟨b,hb⟩:=eX (G9 L);have HB:=lH hb;have HS:=lH hs;have HR:=lH hr;clear h hn hb hs hr;go_enter func19,ntmps19;go_wp2_with fail;refine(Kg a c L n HN.o hL HS.o b HB.o w HH.o).mono ?_;rintro x w1 ⟨rfl,hk⟩;have HK:=lH hk;clear hk;cases b with
 | false=>
  obtain⟨rfl,rfl⟩:r=0/\e=120:=by
   have:=HR.o;unfold BM at this;rw [if_neg lT] at this;injection this with h1 h2
   exact⟨h1.symm,h2.symm⟩
  go_wp2;go_ret2;exact⟨rfl,HK.o⟩
 | true=>
  have F:(match L.find? (fun o=>o.name==B) with | some o=>(o.role,0) | none=>((0:Int),(120:Int)))=(r,e):=by
   have:=HR.o;unfold BM at this;rw [if_pos HB.o] at this;exact this
  have E:=lH F;clear F;go_wp2;go_loopw [13] (fun i wr=>∃k:Nat,i = I_ k/\k<=n/\Hi ((L.take k).find? (fun o=>o.name==B)=none)/\Hi (Aa [] w wr)) (fun i _=>n - (intOf i).toNat)
  case atStart=>exact⟨0,rfl,Ba _,lH rfl,HK⟩
  case round=>
   obtain⟨k,rfl,hk,HP,D⟩:=hrel;by_cases hlt:k<n
   ·obtain⟨g,off,⟨nm,N⟩,rfl,hg,hx,hat⟩:=HH.o.at_k (k:=k) bO
    have M:=hat 0 (Dz nm) rfl;have O:=hat 1 (I_ N) rfl;rw [AT] at M;rw [<- D.o.cell (p:=A_ g (off+k*2)) hg bA] at M;rw [<- D.o.cell (p:=A_ g (off+k*2+1)) hg bA] at O;have i1:(0:Int)<=(k:Int):=bB;have i2:(k:Int)<(n:Int):=bB;have J:=lH hx;clear hat hg hx;by_cases he:nm=B
    ·subst he
     obtain⟨rfl,rfl⟩:N=r/\(0:Int)=e:=by
      have:=E.o;rw [cL J.o HP.o bA] at this;injection this with h1 h2
      exact⟨h1,h2⟩
     go_wp2;go_ret2;exact⟨rfl,D.o.alloc _⟩
    ·have hne:(nm.toList==B.toList)=false:=beq_eq_false_iff_ne.2 (GR he)
     have G:Hi ((L.take (k+1)).find? (fun o=>o.name==B)=none):=lH (by rw [OX J.o HP.o,if_neg (by simpa using he)]);clear he;go_wp2;go_roundw;case rel=>exact⟨k+1,by go_num,by omega,G,lH (D.o.alloc _)⟩
     case measure=>simp [intOf];omega
   ·obtain rfl:k=n:=bB;obtain⟨rfl,rfl⟩:r=0/\e=120:=by
     have:=E.o;have h2:=HP.o;rw [Ak bL] at h2;rw [h2] at this;injection this with h1 h2
     exact⟨h1.symm,h2.symm⟩
    go_wp2;go_ret2;exact⟨rfl,D.o⟩
structure jE(w:World)(v:B6)(gn un fn ln:Nat)(seq:Int)(name:ByteArray)(A:World):Prop where
 nb:Blk A (w.heap.size+1) 9 #[Dz name]
 c4:Blk A (w.heap.size+1+1) 3 #[pE pK 0]
 c5:Blk A (w.heap.size+1+1+1) 4 #[pI false]
 pb:Blk A (w.heap.size+1+1+1+1) 29 (R_ v gn un fn ln seq)
 kw:Aa [] w A
theorem jE.keeps{w:World}{v:B6}{gn un fn ln:Nat}{seq:Int}{name:ByteArray}{A A':World}{S:List Nat}(h:jE w v gn un fn ln seq name A)(hk:Aa S A A')(hS:∀y∈S,w.heap.size+4<y):jE w v gn un fn ln seq name A':=
 have hn:∀y,y<=w.heap.size+4->y∉S:=fun y hy hm=>by have:=hS y hm;omega
 ⟨h.nb.keeps hk (hn _ bB),h.c4.keeps hk (hn _ bB),h.c5.keeps hk (hn _ bB),h.pb.keeps hk (hn _ bB),h.kw.own hk bM⟩
structure kZ(w:World)(k:Nat)(A:World):Prop where
 c4:Blk A (w.heap.size+1+1) 3 #[pE pK (k:Int)]
 c5:Blk A (w.heap.size+1+1+1) 4 #[pI true]
 kw:Aa [] w A
theorem kZ.keeps{w:World}{k:Nat}{A A':World}{S:List Nat}(h:kZ w k A)(hk:Aa S A A')(hS:∀y∈S,w.heap.size+3<y):kZ w k A':=
 have hn:∀y,y<=w.heap.size+3->y∉S:=fun y hy hm=>by have:=hS y hm;omega
 ⟨h.c4.keeps hk (hn _ bB),h.c5.keeps hk (hn _ bB),h.kw.own hk bM⟩
def kX(lv:List TV)(name:ByteArray)(k:Nat):Prop:=∀j<k,∀t,lv[j]? = some t->t.name≠name
theorem NA{w:World}: ∀ {V:List TV} {L:List Ten} (name:ByteArray),AX w V L->kX V name V.length->C7 L name=none
 | [],[],_,_,_=>rfl
 | v::V,t::L,name,h,hn=>by
  unfold C7;rw [List.findIdx?_cons];have h1:=hn 0 bA v rfl;rw [h.1.name] at h1;rw [if_neg bR];have:=NA (V:=V) (L:=L) name h.2 (fun j hj t ht=>hn (j+1) (by simpa using hj) t (by simpa using ht));unfold C7 at this;rw [this];rfl
 | [],_::_,_,h,_=>h.elim
 | _::_,[],_,h,_=>h.elim
theorem Sp{w:World}: ∀ {V:List TV} {L:List Ten} (name:ByteArray) (k:Nat) (u:TV),AX w V L->kX V name k->V[k]? = some u->u.name=name->C7 L name=some k
 | v::V,t::L,name,0,u,h,_,hu,hn=>by
  unfold C7;rw [List.findIdx?_cons];simp only [Aj,Option.some.injEq] at hu;subst hu;rw [if_pos (by rw [<- h.1.name,hn];simp)]
 | v::V,t::L,name,k+1,u,h,hN,hu,hn=>by
  unfold C7;rw [List.findIdx?_cons];have h1:=hN 0 bB v rfl;rw [h.1.name] at h1;rw [if_neg bR];have:=Sp (V:=V) (L:=L) name k u h.2 (fun j hj t ht=>hN (j+1) bB t (by simpa using ht)) (by simpa using hu) hn;unfold C7 at this;rw [this];rfl
 | [],[],_,_,_,_,_,hu,_=>by simp at hu
 | [],_::_,_,_,_,h,_,_,_=>h.elim
 | _::_,[],_,_,_,h,_,_,_=>h.elim
theorem Pv(v:B6)(r:CJ)(gn un fn ln:Nat)(hln:v.lv.length=ln)(U:ln<=1000)(seq:Int)(hsq:r.seq=seq)(B:ByteArray)(w:World)(hl:AR BE 8 w v.la v.lc v.lv)(ht:AX w v.lv r.l):
  Calls prog 153 #[pH (R_ v gn un fn ln seq),Dz B] w fun x w'=>x = pJ (.tuple #[pE pK (((C7 r.l B).getD 0:Nat):Int),pI (C7 r.l B).isSome])/\Aa [] w w':=by
 subst hsq;obtain⟨seq,O⟩:=eX r.seq;have X:=fun W=>FU v r gn un fn ln W;rw [O] at X ⊢;refine(callsIn_wide (n:=9)).1 ?_;have HL:=lH hl;have HT:=lH ht;have HLN:=lH hln;have ad:=lH X;clear hl ht hln X O;refine callsIn_of_wp_marks func153 rfl trivial ?_ rfl;simp only [ntmps153,Cz,Av,D4,pL,pM,Bt,Bu,Cd,BD,BH,AL];gi_wp2_with fail;refine⟨trivial,(callsIn_wide.2 (ad.o _)).mono ?_⟩;rintro e w1 ⟨rfl,hw1⟩;gi_wp2_with fail;have hsz:w1.heap.size=w.heap.size+5:=by rw [<- hw1];simp
 have Y:jE w v gn un fn ln seq B w1:=by
  have hk:Aa [] w w1:=by rw [<- hw1];exact(((((Aa.refl [] w).alloc _).alloc _).alloc _).alloc _).alloc _
  refine⟨?_,?_,?_,?_,hk⟩<;>rw [<- hw1]
  ·exact(((Ar _ _ _ _ bA).alloc _).alloc _).alloc _
  ·exact((Ar _ _ _ _ bA).alloc _).alloc _
  ·exact(Ar _ _ _ _ bA).alloc _
  ·exact Ar _ _ _ _ bA
 have ab:=lH Y;clear Y hw1;refine Cc rfl bB (gf:=136) (lb:=#[pG (some (A4 w 0))]) rfl trivial (enters_of func136 bC rfl) (FV 8 (w+1+1+1+1) v.la v.lc ln v.lv HLN.o U seq) (fun _=>rfl)
  (fun E A=>kX v.lv B E.length/\jE w v gn un fn ln seq B A) (fun _ A=>∃k,C7 r.l B=some k/\kZ w k A)
  (fun E A A' h hk=>⟨h.1,h.2.keeps hk bF⟩)
  (fun E A A' h hk=>by
   obtain⟨k,h1,h2⟩:=h;exact⟨k,h1,h2.keeps hk bF⟩)
  (fun E A h=>⟨h.2.pb.cell 3,h.2.pb.cell 4,HL.o.keeps h.2.kw⟩) ⟨fun j hj=>by simp at hj,ab.o⟩
  (fun k W=>(fun u:TV=>(({ tmps:=#[pH (R_ v gn un fn ln seq),Dz B,p_ w 0,p1 w 0,p2 w 0,p3 w 0,I_ (k:Int),p_ W 0,pH (R_ v gn un fn ln seq),
     .func (.func 136) #[] #[pG (some (A4 w 0))],I_ (k:Int),pH (U_ u seq),UD,UD,UD,UD,UD,UD],defers:=[] } : Act),W.alloc (.cells (U_ u seq) 166))) (v.lv.getD k tv0))
  (fun k W=>(Aa.refl [] W).alloc _) ?assign ?body ?done ?stop
 case assign=>
  intro l k W K hK;simp only [Mg];dsimp only at hK;generalize v.lv.getD k tv0=u at hK ⊢;gi_wp2;exact hK
 case body=>
  rintro l E k W W2 ⟨hN,hI⟩ J T hk2;obtain⟨rfl,hkn⟩:=E8 J;obtain⟨u,hu⟩:∃u,v.lv[k]? = some u:=⟨_,Aq iV⟩;have hgd:v.lv.getD k tv0=u:=by rw [AO,hu];rfl
  dsimp only at hk2 ⊢;rw [hgd] at hk2 ⊢;rw [AP] at hN;have am:W.heap.size<=W2.heap.size:=by have:=hk2.size;rw [Eo] at this;omega
  have D:=(hI.keeps ((Aa.refl [] W).alloc (.cells (U_ u seq) 166)) bA).keeps hk2 bF;have hb:=(Blk.new W 166 (U_ u seq)).keeps hk2 bI;have d2:=hb.ce 2;have q1:=D.nb.ce 0;have q4:=D.c4.ce 0;have q5:=D.c5.ce 0;have f4:=D.c4.frozen 0;have f5:=D.c5.frozen 0;have M:=lH D;have HU:=lH hu;have HN:=lH hN;clear hI J hk2 D hb hgd hu hN;by_cases hnm:u.name=B
  ·have ai:(u.name.toList==B.toList)=true:=by rw [hnm];simp
   have F:Hi (C7 r.l B=some k):=lH (Sp B k u HT.o HN.o HU.o hnm);clear hnm;gi_wp2;have hk3:Aa [w.heap.size+1+1,w.heap.size+1+1+1] W2 ((W2.setCell (A2 w 0) (I_ (k:Int))).setCell (A3 w 0) (pI true)):=((Aa.refl _ W2).setCell (p:=A2 w 0) (.inl bA) _).setCell (p:=A3 w 0) (.inl bA) _;refine⟨hk3.size,fun y hy=>hk3.block y gB iT,k,F.o,?_,?_,M.o.kw.own hk3 bF⟩
   ·exact(M.o.c4.set_ 0 (I_ (k:Int))).far bA _
   ·exact(M.o.c5.far bA _).set_ 0 (pI true)
  ·have ai:(u.name.toList==B.toList)=false:=by simpa using GR hnm
   have ac:Hi (kX v.lv B (AC k++[k]).length):=lH (by
    rw [Al,AP,Bp];intro j hj t G;rcases pP j k with h | h
    ·exact HN.o j h t G
    ·obtain rfl:j=k:=bB;rw [HU.o] at G;injection G with G
     rw [<- G];exact hnm)
   clear hnm;gi_wp2;exact⟨Aw _,fun _ _=>rfl,ac.o,M.o⟩
 case done=>
  rintro W ⟨hN,hI⟩ T hK;rw [AP] at hN;have F:Hi (C7 r.l B=none):=lH (NA B HT.o (by rw [HLN.o];exact hN));have q4:=hI.c4.ce 0;have q5:=hI.c5.ce 0;have f4:=hI.c4.frozen 0;have f5:=hI.c5.frozen 0;have HI:=lH hI;clear hI hN;gi_wp2;obtain⟨WF,N⟩:=eX ((W.setCell (A2 w 0) (I_ 0)).setCell (A3 w 0) (pI false));have hk3:Aa [w.heap.size+1+1,w.heap.size+1+1+1] W WF:=by rw [<- N];exact((Aa.refl _ W).setCell (p:=A2 w 0) (.inl bA) _).setCell (p:=A3 w 0) (.inl bA) _
  have d2:Blk WF (w+1+1) 3 #[pE pK 0]:=by rw [<- N];exact(HI.o.c4.set_ 0 (I_ 0)).far bA _
  have d3:Blk WF (w+1+1+1) 4 #[pI false]:=by rw [<- N];exact(HI.o.c5.far bA _).set_ 0 (pI false)
  rw [N];have ah:WF.heap[w1.heap.size]? = some (.deferred (some [])):=(hk3.block _ bB bI).trans hK;refine⟨by simp,.inl ⟨_,_,rfl,run_takeDeferred ah,?_⟩⟩;have hk4:=AG (S:=[w1.heap.size]) WF (.deferred none) (l:=w1.heap.size) bA;have e2:=(d2.keeps hk4 bG).ce 0;have e3:=(d3.keeps hk4 bG).ce 0;refine⟨.tuple #[pE pK 0,pI false],by simp [results,results153,go_sem,e2,e3],?_⟩;rw [F.o];exact⟨rfl,(HI.o.kw.own hk3 bF).own hk4 bF⟩
 case stop=>
  rintro E W J ⟨k,aa,hX⟩ T hK;have HX:=lH hX;have F:=lH aa;clear hX aa;gi_wp2;refine⟨by simp,.inl ⟨_,_,rfl,run_takeDeferred hK,?_⟩⟩;have hk4:=AG (S:=[w1.heap.size]) W (.deferred none) (l:=w1.heap.size) bA;have e2:=(HX.o.c4.keeps hk4 bG).ce 0;have e3:=(HX.o.c5.keeps hk4 bG).ce 0;refine⟨.tuple #[pE pK (k:Int),pI true],by simp [results,results153,go_sem,e2,e3],?_⟩;rw [F.o];exact⟨rfl,HX.o.kw.own hk4 bF⟩
theorem Nj:D1 (prog.info? 3) 1=true:=bC
def Kl(role:Int):List Int:=(B7.filter (fun v=>setsR role &&& v.2.2 != 0)).map (·.1)
theorem Wy(B D:Int):LJ B D=decide (D∈Kl B):=by
 unfold LJ Kl;rw [DI,decide_eq_true_eq,List.any_eq_true];simp only [BO,List.mem_filter,Af,beq_iff_eq];constructor
 ·rintro⟨x,h1,h2,h3⟩;exact⟨x,⟨h1,h3⟩,h2⟩
 ·rintro⟨x,⟨h1,h3⟩,h2⟩;exact⟨x,h1,h2,h3⟩
structure jJ(w:World)(role:Int)(pre:List (Int×List UInt8×Nat))(A:World):Prop where
 run:∃v,A.ownsRow (w.heap.size+4) 3 1 v (pre.map (·.1)).length ((pre.map (·.1)).flatMap Fb)∧Blk A w.heap.size 23 #[v]
 tb:Blk A (w.heap.size+1) 200 #[.func (.func 108) #[pE pK role] #[]]
 kw:Aa [] w A
 vt:Er A
theorem jJ.keeps{w:World}{B:Int}{D:List (Int×List UInt8×Nat)}{A E:World}{S:List Nat}(h:jJ w B D A)(hk:Aa S A E)(hS:∀y∈S,w.heap.size+2<=y/\y<w.heap.size+4)(hg:1<w.heap.size):jJ w B D E:=by
 obtain⟨v,h1,h2⟩:=h.run;have hn:∀y,y<w.heap.size+2->y∉S:=fun y hy hm=>by have:=hS y hm;omega
 exact⟨⟨v,Ah h1 hk (fun g hg2 hm=>by have:=(h1.lt g hg2).1;have:=hS g hm;omega),h2.keeps hk (hn _ bB)⟩,h.tb.keeps hk (hn _ bB),h.kw.own hk bM,h.vt.keeps hk (hn _ bB)⟩
theorem Vu(B:Int)(w:World)(hv:Er w):Calls prog 49 #[pE pK B] w fun x w'=>∃a c,x = pJ (pF a (Kl B).length c)/\F1 w' a c (Kl B)/\Aa [] w w':=by
 refine(callsIn_wide (n:=9)).1 ?_;have U:1<w.heap.size:=Be w _ (hv 0 _ rfl);have ai:=lH hv;clear hv;refine callsIn_of_wp_marks func49 rfl trivial ?_ rfl;simp only [ntmps49,Cz,Av,D4,pL,pM,Bt,Bu,Cd,BD,BH,AL];gi_wp2_with fail;refine⟨trivial,(callsIn_wide.2 (Pz _ _ ⟨_,_,_,rfl⟩)).mono ?_⟩;rintro e w1 ⟨rfl,hw1⟩;gi_wp2_with fail;have hsz:w1.heap.size=w.heap.size+2:=by rw [<- hw1];simp
 have ab:jJ w B [] w1:=by
  have hk:Aa [] w w1:=by rw [<- hw1];exact((Aa.refl [] w).alloc _).alloc _
  refine⟨⟨pF none 0 0,BQ _ _ _ _,?_⟩,?_,hk,ai.o.keeps hk bA⟩<;>rw [<- hw1]
  ·exact(Blk.new w _ _).alloc _
  ·exact Ar _ _ _ _ bA
 have ag:=lH ab;clear ab hw1;refine Cc rfl bB (gf:=148) (lb:=#[pG (some (A1 w 0))]) rfl trivial (enters_of func148 bC rfl) (ZO 8 (w+1) B) (fun _=>rfl)
  (fun D A=>jJ w B D A) (fun _ _=>False)
  (fun D A A' h hk=>h.keeps hk bF U)
  (fun D A A' h hk=>h)
  (fun D A h=>⟨h.vt,by simpa using h.tb.cell 0⟩) ag.o
  (fun x W=>({ tmps:=#[pE pK B,UD,pF none 0 0,p_ w 0,p_ W 0,I_ B,.func (.func 108) #[pE pK B] #[],
     .func (.func 148) #[] #[pG (some (A1 w 0))],pH #[pE pK x.1,Dz ⟨x.2.1.toArray⟩,I_ (x.2.2:Nat)],UD,UD,UD,UD,UD,UD],defers:=[] },W.alloc (.cells #[pE pK x.1,Dz ⟨x.2.1.toArray⟩,I_ (x.2.2:Nat)] 199)))
  (fun x W=>(Aa.refl [] W).alloc _) ?assign ?body ?done ?stop
 case assign=>
  rintro l ⟨vn,vw,vs⟩ W K hK;simp only [Mh,My];gi_wp2;exact hK
 case body=>
  rintro l D ⟨vn,vw,vs⟩ W W2 hI J T hk2;dsimp only at hk2 ⊢;have hb:=(Blk.new W 199 #[pE pK vn,Dz ⟨vw.toArray⟩,I_ (vs:Nat)]).keeps hk2 bI;have G:=(hI.keeps ((Aa.refl [] W).alloc (.cells #[pE pK vn,Dz ⟨vw.toArray⟩,I_ (vs:Nat)] 199)) bA U).keeps hk2 bF U;obtain⟨v,hrow,F⟩:=G.run;have an:W.heap.size+1<=W2.heap.size:=by have:=hk2.size;rw [Eo] at this;exact this
  have ad:(D.map (·.1)).length<=10:=by
   have h1:=J.length_le;have h2:=List.length_filter_le (fun v:Int×List UInt8×Nat=>setsR B &&& v.2.2 != 0) B7;have h3:B7.length=10:=bE;simp only [Al,Bp,Bd] at h1 ⊢;omega
  obtain⟨g,c,W3,N,M,hk3,ac⟩:=CO (enc:=Fb) prog (t:=23) underlying23 Nj bE Eu KH hrow bB vn bB 23;have d0:=hb.ce 0;have q0:=F.ce 0;have hgeS:=AZ hrow;have E:=F.keeps hk3 (fun hm=>by have:=hgeS _ hm;omega);have q3:=E.ce 0;have f3:=E.frozen 0;have O:=lH (E.set_ 0 (pF (some (A_ g 0)) ((D.map (·.1)).length+1) c));obtain⟨m,hm⟩:=eX ((D.map (·.1)).length+1);have ah:=lH (G.tb.keeps hk3 (fun hm=>by have:=hgeS _ hm;omega));have Y:=lH (G.vt.keeps hk3 (fun hm=>by have:=hgeS _ hm;omega));have HKW:=lH (G.kw.own hk3 jW);have HROW:=lH M;have HSZ:Hi (W2.heap.size<=W3.heap.size):=lH hk3.size;have af:Hi (∀k∈[w1.heap.size,w1.heap.size+1],W3.heap[k]? = W2.heap[k]?):=lH (fun k hk=>hk3.block k mY (fun hm=>by have:=hgeS k hm;simp only [Ac,Ab,or_false] at hk;omega));have ap:=lH ac;rw [hm] at N O HROW;have HM:=lH hm;simp only [Fb] at N;clear hI J hk2 G hb hrow F ad M hk3 ac hgeS E hm;gi_wp2_with (gi_at_builtin;refine EI _ rfl _ _ 23 rfl rfl rfl N ?_);have hk4:Aa [w.heap.size] W3 (W3.setCell (A_ w 0) (pF (some (A_ g 0)) m c)):=(Aa.refl _ W3).setCell (p:=A_ w 0) (.inl bA) _;refine⟨A8 HSZ.o hk4.size,fun y hy=>(hk4.block y mV iT).trans (af.o y hy),⟨_,?_,O.o⟩,ah.o.keeps hk4 bA,HKW.o.own hk4 bF,Y.o.keeps hk4 bI⟩;have h9:=Ah HROW.o hk4 (fun g' aj hm'=>by have:=(HROW.o.lt g' aj).1;simp only [Ac,Ab,or_false] at hm';omega);rw [pO];exact h9
 case done=>
  rintro W hI T hK;rw [hsz] at hK;obtain⟨v,hrow,F⟩:=hI.run;have q0:=F.ce 0;have HROW:=lH hrow;have HKW:=lH hI.kw;clear hI hrow F;gi_wp2;refine⟨by simp,.inl ⟨_,_,rfl,run_takeDeferred hK,?_⟩⟩;have hk4:=AG (S:=[w.heap.size+2]) W (.deferred none) (l:=w.heap.size+2) bA;have X:=Ah HROW.o hk4 (fun g hg hm=>by have:=(HROW.o.lt g hg).1;simp only [Ac,Ab,or_false] at hm;omega);obtain⟨a,c,rfl,ak,_⟩:=AR.of_row Eu X;refine⟨_,by simp [results,results49,go_sem];rfl,?_⟩;exact⟨a,c,by simp [Kl],ak,HKW.o.own hk4 bF⟩
 case stop=>
  rintro D W J hX T hK;exact hX.elim
theorem U1(D B:Int)(b:Bool)(hb:LJ D B=b)(w:World)(hv:Er w):Calls prog 20 #[pE pK D,I_ B] w fun x w'=>x = pJ (pI b)/\Aa [] w w':=by
 rw [Wy] at hb;have J:=lH (Vu D w hv);obtain⟨L,hL⟩:=eX (Kl D);have E:L.length<=10:=by
  rw [<- hL];have h2:=List.length_filter_le (fun v:Int×List UInt8×Nat=>setsR D &&& v.2.2 != 0) B7;have h3:B7.length=10:=bE;unfold Kl;rw [Bd];omega
 rw [hL] at hb J;have HB:=lH hb;clear hb hv hL;go_enter func20,ntmps20;go_wp2_with fail;refine J.o.mono ?_;rintro x w1 ⟨a,c,rfl,F,hk⟩;obtain⟨n,hn⟩:=eX L.length;have HS:=lH F;have HK:=lH hk;have HN:=lH hn;rw [hn] at E ⊢;clear F hk hn;go_wp2_with fail;go_loopw [10] (fun i wr=>∃k:Nat,i = I_ k/\k<=n/\Hi (B∉L.take k)/\wr=w1) (fun i _=>n - (intOf i).toNat)
 case atStart=>exact⟨0,rfl,Ba _,lH bA,rfl⟩
 case round=>
  obtain⟨k,rfl,hk,HP,rfl⟩:=hrel;by_cases hlt:k<n
  ·obtain⟨g,off,x,rfl,hg,hx,hat⟩:=HS.o.at_k (k:=k) bO
   have N:=hat 0 (I_ x) rfl;rw [AT,pR] at N;have i1:(0:Int)<=(k:Int):=bB;have i2:(k:Int)<(n:Int):=bB;have M:=lH hx;clear hat hg hx;by_cases he:x=B
   ·have f1:(x==B)=true:=by simpa using he
    obtain rfl:b=true:=by rw [<- HB.o,<- he];exact decide_eq_true (CD M.o)
    clear he;go_wp2;go_ret;exact⟨rfl,HK.o⟩
   ·have f1:(x==B)=false:=by simpa using he
    have G:Hi (B∉L.take (k+1)):=lH (by rw [A0 M.o,AQ,Ag];exact fun h=>h.elim HP.o (fun e=>he e.symm));clear he;go_wp2;go_roundw;case rel=>exact⟨k+1,by go_num,by omega,G,trivial⟩
    case measure=>simp [intOf];omega
  ·obtain rfl:k=n:=bB;obtain rfl:b=false:=by
    rw [<- HB.o];have:=HP.o;rw [Ak bL] at this;exact decide_eq_false this
   go_wp2;go_ret;exact⟨rfl,HK.o⟩
theorem LH{t e:TypeId}{z:Value}(B:prog.underlying t=some (.slice e))(hi:(prog.info? e).map (fun i=>(i.zero,i.size,decide (i.bytes<=8)))=some (some z,1,true))(n:Nat)(hn:n<=1000)(W:World):
  (Instr.makeSlice t (I_ (n:Int)) (I_ (n:Int))).run prog W = .ok (pF (some (A_ W 0)) n n) (W.alloc (.cells (madeCells z.cells n) e)):=by
 cases hq:prog.info? e with
 | none=>rw [hq] at hi;cases hi
 | some i=>
  rw [hq] at hi;simp only [Option.map_some,Option.some.injEq,Prod.mk.injEq,decide_eq_true_eq] at hi;obtain⟨h1,h2,h3⟩:=hi;have:=He (P:=prog) t e i z B hq h1 .i64 .i64 n n (Aw _) (by have:=Nat.mul_le_mul h3 hn;omega) bB W;rw [h2,pR] at this;exact this
structure aN(w:World)(gn un fn:Nat)(used:List Bool)(free:List Int)(gens:Array Value)(tb:Nat)(W:World)(g:Nat)(ua:Option Addr)(uc:Nat)(fa:Option Addr)(fc:Nat):Prop where
 blk:Blk W tb 250 #[pF (some ⟨g,0,none⟩) gn gn,pF ua un uc,pF fa fn fc]
 gb:Blk W g 3 gens
 u:W.ownsRow w.heap.size 4 1 (pF ua un uc) un (used.flatMap JM)
 f:W.ownsRow w.heap.size 3 1 (pF fa fn fc) fn (free.flatMap Fb)
 ge:w.heap.size≤g
 te:w.heap.size≤tb
 nu:∀x,EZ (pF ua un uc)=some x→x≠g
 ne:∀x,EZ (pF fa fn fc)=some x→x≠g
 kw:Aa [] w W
theorem Bw{w:World}{B B' n:Nat}{e:TypeId}{D:Nat}{v:Value}{xs:List Value}(h:w.ownsRow B e D v n xs)(hb:B'<=B):w.ownsRow B' e D v n xs:=by
 refine⟨h.1,?_⟩;rcases h.2 with h0 | ⟨g,cap,cur,h1,h2,h3⟩
 ·exact .inl h0
 ·exact .inr ⟨g,cap,cur,h1,A8 hb h2,h3⟩
theorem dH{w WX wu wf:World}{gn un fn g bu bf tb:Nat}(htb:tb=WX.heap.size){used:List Bool}{free:List Int}{cs:Array Value}{ua fa:Option Addr}{uc fc:Nat}{wz:World}(hz:Aa [] w wz)(hkz:Aa [] wz WX)(hgb:Blk WX g 3 cs)(hge:wz.heap.size<=g)
 (hu:wu.ownsRow bu 4 1 (pF ua un uc) un (used.flatMap JM))(hub:w.heap.size<=bu)(huk:Aa [] wu WX)(hf:wf.ownsRow bf 3 1 (pF fa fn fc) fn (free.flatMap Fb))(hfb:w.heap.size<=bf)(hfk:Aa [] wf WX)(hnu:g<bu\/wu.heap.size<=g)(hne:g<bf\/wf.heap.size<=g):
  aN w gn un fn used free cs tb (WX.alloc (.cells #[pF (some (A_ g 0)) gn gn,pF ua un uc,pF fa fn fc] 250)) g ua uc fa fc/\Aa [] wz (WX.alloc (.cells #[pF (some (A_ g 0)) gn gn,pF ua un uc,pF fa fn fc] 250))/\wz.heap.size<=g:=
 by
 subst htb;have hkw:=hz.trans hkz;have ha:=(Aa.refl [] WX).alloc (.cells #[pF (some (A_ g 0)) gn gn,pF ua un uc,pF fa fn fc] 250);exact⟨⟨Blk.new WX _ _,hgb.keeps ha bA,Ah (Bw hu hub) (huk.trans ha) bA,Ah (Bw hf hfb) (hfk.trans ha) bA,A8 hz.size hge,hkw.size,fun x hx=>by have:=hu.lt x hx;omega,fun x hx=>by have:=hf.lt x hx;omega,hkw.trans ha⟩,hkz.trans ha,hge⟩
theorem P2{α:Type}(v:α):∀(l:List α) (o:Nat),o<l.length->(l.set o v).take (o+1)=l.take o++[v]/\(∀k,o<k->(l.set o v).drop k=l.drop k)
 | [],_,h=>by simp at h
 | x::l,0,_=>⟨by simp,fun k hk=>by
  obtain⟨k,rfl⟩:∃m,k=m+1:=⟨k - 1,by omega⟩;simp⟩
 | x::l,o+1,h=>by
  obtain⟨h1,h2⟩:=P2 v l o bK;refine⟨by simp [h1],fun k hk=>?_⟩;obtain⟨k,rfl⟩:∃m,k=m+1:=⟨k - 1,by omega⟩;simpa using h2 k bB
theorem Blk.setAll{g:Nat}{t:TypeId}: ∀(vs:List Value) (o:Nat) (w:World) (cs:Array Value),Blk w g t cs->o+vs.length<=cs.size->∃cs',Blk (w.setCells g o vs) g t cs'/\cs'.toList=cs.toList.take o++vs++cs.toList.drop (o+vs.length)
 | [],o,w,cs,h,_=>⟨cs,h,by simp⟩
 | v::r,o,w,cs,h,hl=>by
  simp only [Av] at hl;obtain⟨cs',h1,h2⟩:=Blk.setAll r (o+1) (w.setCell (A_ g o) v) (cs.setIfInBounds o v) (h.set_ o v) bG;refine⟨cs',h1,?_⟩;obtain⟨h3,h4⟩:=P2 v cs.toList o bG;rw [h2,Array.toList_setIfInBounds,h3,h4 _ bB,Av,show o+1+r.length=o+(r.length+1) by omega];simp
theorem VL(W:World)(g gn:Nat)(D:Array Value)(B:Blk W g 3 D)(h0:D.size=gn)(ga:Option Addr)(gc:Nat)(L:List Int)(hL:L.length=gn)(h:F1 W ga gc L):
  ∃W2,(∀ty,(E3 #[23,23] ty #[pF (some (A_ g 0)) gn gn,pF ga gn gc]).run prog W = .ok (goInt gn) W2)/\Blk W2 g 3 (L.map (pE .i64)).toArray/\Aa [g] W W2:=by
 have hs:(prog.info? 3).map (·.size)=some 1:=bC
 cases ga with
 | none=>
  obtain⟨rfl,rfl⟩:=h.isNil;subst hL;refine⟨W,fun ty=>run_copy_none (P:=prog) W 23 23 ty 3 _ _ _ _ _ _ underlying23 hs rfl,?_,Aa.refl _ W⟩;have:D=#[]:=Array.eq_empty_of_size_eq_zero (by simpa using h0);rw [this] at B;exact B
 | some p=>
  have E:=h.flat Eu;have G:∀L:List Int,L.flatMap Fb=L.map (pE .i64):=fun L=>by
   induction L with
   | nil=>rfl
   | cons x l ih=>rw [List.flatMap_cons,ih];rfl
  rw [G] at E;refine⟨W.setCells g 0 (L.map (pE .i64)),fun ty=>?_,?_,Aa.setCells (.inl bA) _ _ (Aa.refl _ W)⟩
  ·have:=run_copy_cells (P:=prog) W 23 23 ty 3 g 0 gn gn p gn gc (L.map (pE .i64)) underlying23 hs (by rw [Bd,hL];exact(Nat.min_self gn).symm) E
    (fun j hj=>by rw [AW,B.cell,Array.getElem?_eq_getElem (by rw [Bd] at hj;omega)];rfl) (fun j hj=>by rw [B.frozen]) (fun v hv=>by obtain⟨x,_,rfl⟩:=BO.1 hv;rfl)
   rw [Bd,hL] at this;exact this
  ·obtain⟨F,h1,h2⟩:=Blk.setAll (L.map (pE .i64)) 0 W D B (by rw [Bd];omega)
   have h3:F=(L.map (pE .i64)).toArray:=by
    rw [<- Array.toList_inj,h2,Bd,List.drop_of_length_le bG];simp
   rw [<- h3];exact h1
theorem I0(v:DF)(s:Fz)(gn un fn:Nat)(hg:s.gens.length=gn)(hu:s.used.length=un)(hf:s.free.length=fn)(w:World)(h:Dy w v s):
  Calls prog 196 #[pH (S_ v gn un fn)] w fun e w'=>∃tb g ua uc fa fc,e = pJ (p_ tb 0)/\aN w gn un fn s.used s.free (s.gens.map (pE .i64)).toArray tb w' g ua uc fa fc:=by
 have J:gn<=1000:=by have:=h.sg;omega
 have aa:un<=1000:=by have:=h.su;omega
 have Y:fn<=1000:=by have:=h.sf;omega
 have aj:=fun W=>LH (t:=23) (e:=3) (z:=I_ 0) underlying23 bC gn J W;obtain⟨wz,hwz⟩:=eX (w.alloc (.cells (S_ v gn un fn) 26));have hz:Aa [] w wz:=by rw [<- hwz];exact(Aa.refl [] w).alloc _
 have G:Blk wz w 26 (S_ v gn un fn):=by rw [<- hwz];exact Blk.new w _ _
 have hS:∀W,Aa [] wz W->Aa [] wz W/\W.cell? (A_ w 0)=some (pF v.ga gn v.gc)/\W.cell? (A_ w 1)=some (pF v.ua un v.uc)/\W.cell? (A_ w 2)=some (pF v.fa fn v.fc):=fun W hk=>
  ⟨hk,(G.keeps hk bA).cell 0,(G.keeps hk bA).cell 1,(G.keeps hk bA).cell 2⟩
 have HS:=lH hS;have O:=lH (fun W (hk:Aa [] wz W)=>Rb v.ua v.uc s.used un hu bB W (h.u.keeps (hz.trans hk)));have N:=lH (fun W (hk:Aa [] wz W)=>PR v.fa v.fc s.free fn hf bB W (h.f.keeps (hz.trans hk)));have HZ:=lH hz;have HM:=lH h;have HG:=lH hg;have T:Hi (w.heap.size<wz.heap.size):=lH gA;clear h hg hu hf G hz hS;go_enter func196,ntmps196;go_wp2;clear hwz;go_cut [3] (fun x wc=>∃tb g ua uc fa fc,x = p_ tb 0/\Hi (aN w gn un fn s.used s.free (madeCells #[pE pK 0] gn) tb wc g ua uc fa fc/\Aa [] wz wc/\wz.heap.size<=g))
 case first=>
  refine wp_region_held_drew (S:=(fun w':World=>Aa [] wz w'/\w'.cell? (A_ w 0)=some (pF v.ga gn v.gc)/\w'.cell? (A_ w 1)=some (pF v.ua un v.uc)/\w'.cell? (A_ w 2)=some (pF v.fa fn v.fc))) bC (by((try dsimp only);(first | exact HS.o _ ((Aa.refl [] wz).drew) | exact HS.o _ (hHeld.1.trans B) | exact HS.o _ (hHeld.1.trans D) | exact HS.o _ (hHeld.1.alloc _)))) (fun hHeld=>?_)
  repeat' (first | exact rZ | refine rX ?_ | ((first | (refine rA 3 (fun K hK=>?_) ?_;go_simp) | (refine rA 6 (fun K hK=>?_) ?_;go_simp;first | (refine(O.o _ hHeld.1).mono ?_;rintro r wb ⟨ua,uc,rfl,ac,X,D⟩) | (refine(N.o _ hHeld.1).mono ?_;rintro r wi ⟨fa,fc,rfl,ab,U,B⟩)) | (refine rA 9 (fun K hK=>?_) ?_;go_simp;first | (refine(O.o _ hHeld.1).mono ?_;rintro r wb ⟨ua,uc,rfl,ac,X,D⟩) | (refine(N.o _ hHeld.1).mono ?_;rintro r wi ⟨fa,fc,rfl,ab,U,B⟩)) | (refine rA 12 (fun K hK=>?_) ?_;go_simp));refine rO hK (by((try dsimp only);(first | exact HS.o _ ((Aa.refl [] wz).drew) | exact HS.o _ (hHeld.1.trans B) | exact HS.o _ (hHeld.1.trans D) | exact HS.o _ (hHeld.1.alloc _)))) fun hHeld=>?_;clear hK K) | (refine rQ 0 ?_;refine rQ 1 ?_;refine rQ 2 ?_;refine rQ 4 ?_;refine rQ 5 ?_;refine rQ 7 ?_;refine rQ 8 ?_) | (refine rQ 10 ?_;refine rQ 11 ?_) | (refine rQ 13 ?_) | refine rB [3,6,9,12] ?_ | (refine wpAnyH_done bC ?_ _;(go_wp2_with fail;go_meet;refine⟨_,_,_,_,_,_,rfl,lH (dH ?tb HZ.o ?k ?gb ?ge X ?ub ?uk U ?fb ?fk ?nu ?ne)⟩;(case tb=>first | rfl | simp);(case k=>first | exact((Aa.refl [] wz).alloc _).drew.trans (D.trans B) | exact((Aa.refl [] wz).drew.trans D).trans (((Aa.refl [] wb).alloc _).trans B) | exact((Aa.refl [] wz).drew.trans (D.trans B)).alloc _);(case gb=>first | exact(Blk.new wz 3 _).drew.keeps (D.trans B) bA | exact(Blk.new wb 3 _).keeps B bA | exact Blk.new wi 3 _);(case ge=>(have:=HZ.o.size;have:=D.size;have:=B.size;simp at *;try omega));(case ub=>(have:=HZ.o.size;have:=D.size;have:=B.size;simp at *;try omega));(case uk=>first | exact B | exact((Aa.refl [] wb).alloc _).trans B | exact B.alloc _);(case fb=>(have:=HZ.o.size;have:=D.size;have:=B.size;simp at *;try omega));(case fk=>first | exact Aa.refl [] _ | exact(Aa.refl [] wi).alloc _);(case nu=>(have:=HZ.o.size;have:=D.size;have:=B.size;simp at *;try omega));(case ne=>(have:=HZ.o.size;have:=D.size;have:=B.size;simp at *;try omega)))))
 case rest=>
  obtain⟨tb,g,ua,uc,fa,fc,rfl,M⟩:=hcut;obtain⟨W2,ai,hg2,E⟩:=VL wc.drew g gn _ M.o.1.gb.drew (by simp [madeCells]) v.ga v.gc s.gens HG.o (HM.o.g.keeps M.o.1.kw.drew);have E:Aa [g] wc W2:=((Aa.refl [g] wc).drew).trans E;have t0:=M.o.1.blk.drew.ce 0;have b0:=(HS.o wc.drew M.o.2.1.drew).2.1;have hE:aN w gn un fn s.used s.free (s.gens.map (pE .i64)).toArray tb W2 g ua uc fa fc:=by
   have F:=M.o.1;have hne:tb≠g:=fun e=>by
    have h1:=F.blk;have h2:=F.gb;rw [e] at h1;unfold Blk at h1 h2;rw [h1] at h2;injection h2 with h2;injection h2 with _ h2 _
    exact absurd h2 bE
   refine⟨F.blk.keeps E aV,hg2,Ah F.u E (fun x hx hm=>F.nu x hx bT),Ah F.f E (fun x hx hm=>F.ne x hx bT),F.ge,F.te,F.nu,F.ne,F.kw.own E (fun y hy=>by have:=F.ge;simp only [Ac,Ab,or_false] at hy;omega)⟩
  have t2:=hE.blk.ce 0;have b2:=((E.cell (p:=A_ w 0) (Be _ _ (HS.o wc M.o.2.1).2.1) (by have h1:=M.o.2.2;have h2:=T.o;simp only [Ac,Ab,or_false];omega)).trans (HS.o wc M.o.2.1).2.1);have HE:=lH hE;clear hE hg2 E;go_upto_region 2 with fail
  refine wp_region_held_drew (S:=(fun w':World=>w'.cell? (A_ tb 0)=some (pF (some (A_ g 0)) gn gn)/\w'.cell? (A_ w 0)=some (pF v.ga gn v.gc))) bC (by((try dsimp only);(first | exact⟨t0,b0⟩ | exact⟨t2,b2⟩))) (fun hHeld=>?_);refine rQ 0 ?_;refine rQ 1 ?_;refine rQ 2 ?_;refine rQ 3 ?_;refine rQ 4 ?_;refine rQ 5 ?_;refine rQ 6 ?_;refine rC 7 fun K hK=>?_;go_simp;refine rO hK (by((try dsimp only);(first | exact⟨t0,b0⟩ | exact⟨t2,b2⟩))) fun hHeld=>?_;clear hK K;refine wpAnyH_done bC ?_ _
  (go_wp2;go_ret;exact⟨_,_,_,_,_,_,rfl,HE.o⟩)
theorem Y5:D1 (prog.info? 44) 2=true:=bC
structure jA(w:World)(v:DF)(s:Fz)(gn fn ob tb pb:Nat)(pre:List (Int×Int))(A:World):Prop where
 run:∃u,A.ownsRow (pb+3) 44 2 u pre.length (pre.flatMap Rt)∧Blk A ob 159 #[u]
 pb:Blk A pb 248 #[pG (some ⟨tb,0,none⟩)]
 tab:Kw A tb v s gn gn fn
 kw:Aa [] w A
theorem jA.keeps{w:World}{v:DF}{s:Fz}{gn fn D E pb:Nat}{B:List (Int×Int)}{A F:World}{S:List Nat}(h:jA w v s gn fn D E pb B A)(hk:Aa S A F)(hS:∀y∈S,pb<y/\y<pb+3)(h1:D<pb)(h2:E<pb)(h3:w.heap.size<=pb)(hm:Dy w v s):jA w v s gn fn D E pb B F:=by
 obtain⟨u,G,J⟩:=h.run;have hn:∀y,y<=pb->y∉S:=fun y hy hm=>by have:=hS y hm;omega
 have hkw:=h.kw.own hk bM;exact⟨⟨u,Ah G hk (fun g hg2 hm=>by have:=(G.lt g hg2).1;have:=hS g hm;omega),J.keeps hk (hn _ bB)⟩,h.pb.keeps hk (hn _ bB),⟨h.tab.blk.keeps hk (hn _ bB),hm.keeps hkw,h.tab.lg,h.tab.lu,h.tab.lf⟩,hkw⟩
theorem U0(v:DF)(s:Fz)(gn un fn:Nat)(hg:s.gens.length=gn)(hu:s.used.length=un)(hf:s.free.length=fn)(w:World)(h:Dy w v s):
  Calls prog 77 #[pH (S_ v gn un fn)] w fun e w'=>∃a c,e = pJ (pF a (Dt s).length c)/\AR Rt 2 w' a c (Dt s)/\Aa [] w w':=by
 refine(callsIn_wide (n:=9)).1 ?_;obtain⟨b,hb⟩:=eX (Dv s);have HB:=lH hb;have HM:=lH h;have HG:=lH hg;have HU:=lH hu;have HF:=lH hf;have HR:=lH (fun W (hkk:Aa [] w W)=>DR v s gn un fn hg hu hf b hb W (h.keeps hkk));have HK0:=lH ((Aa.refl [] w).alloc (.cells (S_ v gn un fn) 26));have an:=lH (Blk.new w 26 (S_ v gn un fn));clear h hg hu hf hb;refine callsIn_of_wp_marks func77 rfl trivial ?_ rfl;simp only [ntmps77,Cz,Av,D4,pL,pM,Bt,Bu,Cd,BD,BH,AL];gi_wp2_with fail;refine⟨trivial,(callsIn_wide.2 (HR.o _ HK0.o)).mono ?_⟩;rintro e w1 ⟨rfl,hk1⟩;have E:=an.o.keeps hk1 bA;have q0:=E.ce 0;have q1:=E.ce 1;have q2:=E.ce 2;have HK1:=lH (HK0.o.trans hk1);clear hk1;cases b with
 | false=>
  have D:Dt s = []:=by unfold Dt;rw [if_neg lT]
  have M:=lH D;clear D E;gi_wp2;refine⟨_,by simp [results,results77,go_sem];rfl,?_⟩;rw [M.o];exact⟨none,0,rfl,AR.none_,HK1.o⟩
 | true=>
  have D:Dt s=usedL 0 s.used s.gens:=by unfold Dt;rw [if_pos HB.o]
  obtain rfl:un=gn:=by
   have:=HB.o;unfold Dv at this;simp only [Af,decide_eq_true_eq] at this;rw [<- HU.o,<- HG.o];omega
  have M:=lH D;have X:un<=1000:=by have:=HM.o.sg;rw [HG.o] at this;exact this
  have af:=lH E;have F:=E.alloc (.cells #[pF none 0 0] 159);have d0:=F.ce 0;have d1:=F.ce 1;have d2:=F.ce 2;clear D E F;gi_wp2_with fail;clear d0 d1 d2 q0 q1 q2;refine⟨trivial,(callsIn_wide.2 (SJ _ _)).mono ?_⟩;rintro e w2 ⟨rfl,Y⟩;gi_wp2_with fail;have hsz:w2.heap.size=w1.heap.size+3:=by rw [<- Y];simp
  have hw1:w.heap.size<w1.heap.size:=by have:=HK1.o.size;have:=Be w1 _ (af.o.cell 0);exact this
  have ah:jA w v s un fn w1 (w1+1) (w1+1+1) [] w2:=by
   have hk2:Aa [] w1 w2:=by rw [<- Y];exact(((Aa.refl [] w1).alloc _).alloc _).alloc _
   refine⟨⟨pF none 0 0,BQ _ _ _ _,?_⟩,?_,⟨?_,HM.o.keeps (HK1.o.trans hk2),HG.o,HU.o,HF.o⟩,HK1.o.trans hk2⟩<;>rw [<- Y]
   ·exact((Blk.new w1 _ _).alloc _).alloc _
   ·exact Ar _ _ _ _ bA
   ·exact(Ar _ _ _ _ bA).alloc _
  have ao:=lH ah;clear ah Y;refine Cc rfl bB (gf:=170) (lb:=#[pG (some (A2 w1 0))]) rfl trivial (enters_of func170 bC rfl) (SK 8 (w1+1+1) (w1+1) v s un fn X) (fun _=>rfl)
   (fun B A=>jA w v s un fn w1 (w1+1) (w1+1+1) B A) (fun _ _=>False)
   (fun B A A' h hk=>h.keeps hk bF bB bB bB HM.o)
   (fun B A A' h hk=>h)
   (fun B A h=>⟨by simpa using h.pb.cell 0,h.tab⟩) ao.o
   (fun x W=>({ tmps:=#[pH (S_ v un un fn),p_ w 0,pF none 0 0,p_ w1 0,.func (.func 131) #[pG (some (A1 w1 0))] #[],p_ W 0,pH (S_ v un un fn),pI true,pI false,pH (S_ v un un fn),pH (S_ v un un fn),p1 w1 0,.func (.func 131) #[pG (some (A1 w1 0))] #[],.func (.func 131) #[pG (some (A1 w1 0))] #[],.func (.func 170) #[] #[pG (some (A2 w1 0))],pH #[pE pK x.1,I_ x.2],UD,UD,UD,UD,UD],defers:=[] },W.alloc (.cells #[pE pK x.1,I_ x.2] 44)))
   (fun x W=>(Aa.refl [] W).alloc _) ?assign ?body ?done ?stop
  case assign=>
   rintro l ⟨x1,x2⟩ W K hK;simp only [RQ];gi_wp2;exact hK
  case body=>
   rintro l B ⟨x1,x2⟩ W W2 hI O ad hk2;dsimp only at hk2 ⊢;have hb:=(Blk.new W 44 #[pE pK x1,I_ x2]).keeps hk2 bI;have N:=(hI.keeps ((Aa.refl [] W).alloc (.cells #[pE pK x1,I_ x2] 44)) bA bB bB bB HM.o).keeps hk2 bF bB bB bB HM.o;obtain⟨u,hrow,J⟩:=N.run;have ay:W.heap.size+1<=W2.heap.size:=by have:=hk2.size;rw [Eo] at this;exact this
   have aj:B.length<=1000:=by
    have h1:=O.length_le;rw [H8 _ _ _ (by rw [HU.o,HG.o])] at h1;have h2:=List.count_le_length (a:=true) (l:=s.used);rw [HU.o] at h2;simp only [Al,Bp] at h1;omega
   obtain⟨g,c,W3,U,T,hk3,ai⟩:=CO (enc:=Rt) prog (t:=159) underlying159 Y5 bE Ru Yn hrow bB (x1,x2) bB 159;have d0:=hb.ce 0;have d1:=hb.ce 1;have q0:=J.ce 0;have hgeS:=AZ hrow;have G:=J.keeps hk3 (fun hm=>by have:=hgeS _ hm;omega);have q3:=G.ce 0;have f3:=G.frozen 0;have aa:=lH (G.set_ 0 (pF (some (A_ g 0)) (B.length+1) c));obtain⟨m,hm⟩:=eX (B.length+1);have HPB:=lH (N.pb.keeps hk3 (fun hm=>by have:=hgeS _ hm;omega));have ab:=N.kw.own hk3 jW;have ap:=lH (N.tab.blk.keeps hk3 (fun hm=>by have:=hgeS _ hm;omega));have HKW:=lH ab;have HROW:=lH T;have HSZ:Hi (W2.heap.size<=W3.heap.size):=lH hk3.size;have am:Hi (∀k∈[w2.heap.size,w2.heap.size+1],W3.heap[k]? = W2.heap[k]?):=lH (fun k hk=>hk3.block k mY (fun hm=>by have:=hgeS k hm;simp only [Ac,Ab,or_false] at hk;omega));have a0:=lH ai;rw [hm] at U aa HROW;simp only [Rt] at U;clear hI O hk2 N hb hrow J aj T hk3 ai hgeS G hm ab;gi_wp2_with (gi_at_builtin;refine EI _ rfl _ _ 159 rfl rfl rfl U ?_);have hk4:Aa [w1.heap.size] W3 (W3.setCell (A_ w1 0) (pF (some (A_ g 0)) m c)):=(Aa.refl _ W3).setCell (p:=A_ w1 0) (.inl bA) _;have ac:=HKW.o.own hk4 bF;refine⟨A8 HSZ.o hk4.size,fun y hy=>(hk4.block y mV iT).trans (am.o y hy),⟨_,?_,aa.o⟩,HPB.o.keeps hk4 bI,⟨ap.o.keeps hk4 bI,HM.o.keeps ac,HG.o,HU.o,HF.o⟩,ac⟩;exact Ah HROW.o hk4 (fun g' aq hm'=>by have:=(HROW.o.lt g' aq).1;simp only [Ac,Ab,or_false] at hm';omega)
  case done=>
   rintro W hI ad hK;obtain⟨u,hrow,J⟩:=hI.run;have q0:=J.ce 0;have HROW:=lH hrow;have HKW:=lH hI.kw;clear hI hrow J;gi_wp2;refine⟨by simp,.inl ⟨_,_,rfl,run_takeDeferred hK,?_⟩⟩;have hk4:=AG (S:=[w2.heap.size]) W (.deferred none) (l:=w2.heap.size) bA;have ae:=Ah HROW.o hk4 (fun g hg hm=>by have:=(HROW.o.lt g hg).1;simp only [Ac,Ab,or_false] at hm;omega);obtain⟨a,c,rfl,ar,_⟩:=AR.of_row Ru ae;refine⟨_,by simp [results,results77,go_sem];rfl,?_⟩;rw [M.o];exact⟨a,c,rfl,ar,HKW.o.own hk4 bF⟩
  case stop=>
   rintro B W O hX ad hK;exact hX.elim
theorem Y4(a b x y:Int)(w:World):(binOp .eql 44 (pH #[pE pK a,I_ x]) (pH #[pE pK b,I_ y])).run prog w = .ok (pI (decide ((a,x)=(b,y)))) w:=by
 have hS:prog.underlying 44=some (.struct (prog.fieldsOf 44)):=bC;have hp:prog.stoodInHeld 44=false:=bC;rw [run_eql_struct,show(10000:Nat)=9999+1 from rfl,run_equalIn_agg w 9999 44 _ _ hS hp];simp only [CK,underlying44];go_simp;by_cases h1:a=b<;>by_cases h2:x=y<;>simp [h1,h2]
theorem L4(v:DF)(s:Fz)(gn un fn:Nat)(hg:s.gens.length=gn)(hu:s.used.length=un)(hf:s.free.length=fn)(x y:Int)(b:Bool)(hb:decide ((x,y)∈Dt s)=b)(w:World)(h:Dy w v s):
  Calls prog 204 #[pH (S_ v gn un fn),pH #[pE pK x,I_ y]] w fun e w'=>e = pJ (pI b)/\Aa [] w w':=by
 have HA:=lH (fun W (hk:Aa [] w W)=>U0 v s gn un fn hg hu hf W (h.keeps hk));have B:(Dt s).length<=1000:=by
  unfold Dt;split
  ·rename_i hs
   have h1:s.used.length=s.gens.length:=by
    unfold Dv at hs;simp only [Af,decide_eq_true_eq] at hs;omega
   rw [H8 _ _ _ h1];have h2:=List.count_le_length (a:=true) (l:=s.used);have:=h.su;omega
  ·simp
 have hgd:prog.eqGuardType prog.depth 44=false:=bC;have HK0:=lH (((Aa.refl [] w).alloc (.cells (S_ v gn un fn) 26)).alloc (.cells #[pE pK x,I_ y] 44));have N:=lH (Ar (w.alloc (.cells (S_ v gn un fn) 26)) 44 #[pE pK x,I_ y] (w+1) bA);obtain⟨L,hL⟩:=eX (Dt s);rw [hL] at hb HA B;have HB:=lH hb;clear h hg hu hf hb hL;go_enter func204,ntmps204;go_wp2_with fail;refine(HA.o _ HK0.o).mono ?_;rintro e w1 ⟨a,c,rfl,M,hk⟩;obtain⟨n,hn⟩:=eX L.length;have HS:=lH M;have HK:=lH (HK0.o.trans hk);have HN:=lH hn;have HB1:=lH (N.o.keeps hk bA);rw [hn] at B ⊢;clear M hk hn;go_wp2_with fail;go_loopw [10] (fun i wr=>∃k:Nat,i = I_ k/\k<=n/\Hi ((x,y)∉L.take k)/\Hi (Aa [] w1 wr)) (fun i _=>n - (intOf i).toNat)
 case atStart=>exact⟨0,rfl,Ba _,lH bA,lH (Aa.refl [] w1)⟩
 case round=>
  obtain⟨k,rfl,hk,HP,D⟩:=hrel;by_cases hlt:k<n
  ·obtain⟨g,off,⟨G,z2⟩,rfl,hg,hx,hat⟩:=HS.o.at_k (k:=k) bO
   have U:=hat 0 (I_ G) rfl;have X:=hat 1 (I_ z2) rfl;rw [AT] at U;rw [<- D.o.cell (p:=A_ g (off+k*2)) hg bA] at U;rw [<- D.o.cell (p:=A_ g (off+k*2+1)) hg bA] at X;have i1:(0:Int)<=(k:Int):=bB;have i2:(k:Int)<(n:Int):=bB;have hb2:=(HB1.o.keeps D.o bA).alloc (.cells #[pE pK G,I_ z2] 44);have Y:=hb2.ce 0;have d1:=hb2.ce 1;have F:=Blk.new wr 44 #[pE pK G,I_ z2];have e0:=F.ce 0;have e1:=F.ce 1;have J:=fun W=>Y4 G x z2 y W;have T:=lH hx;have HK2:=lH (D.o.alloc (.cells #[pE pK G,I_ z2] 44));clear hat hg hx hb2 F;by_cases he:(G,z2)=(x,y)
   ·have E:b=true:=by rw [<- HB.o,<- he];exact decide_eq_true (CD T.o)
    subst E;simp only [decide_eq_true he] at J;clear he;go_wp2;go_ret;exact⟨rfl,HK.o.trans HK2.o⟩
   ·simp only [decide_eq_false he] at J
    have O:Hi ((x,y)∉L.take (k+1)):=lH (by rw [A0 T.o,AQ,Ag];exact fun h=>h.elim HP.o (fun e=>he e.symm));clear he;go_wp2;go_roundw;case rel=>exact⟨k+1,by go_num,by omega,O,HK2⟩
    case measure=>simp [intOf];omega
  ·obtain rfl:k=n:=bB;have E:b=false:=by
    rw [<- HB.o];have:=HP.o;rw [Ak bL] at this;exact decide_eq_false this
   subst E;go_wp2;go_ret;exact⟨rfl,HK.o.trans D.o⟩
theorem Yq(a a2:Option Addr)(c c2:Nat)(xs ys:List Int)(n m:Nat)(hn:xs.length=n)(hm:ys.length=m)(hL:n<=1000000)(F:m<=1000000)(r:Bool)(hr:decide (xs=ys)=r)(w:World)(h:AR Fb 1 w a c xs)(h2:AR Fb 1 w a2 c2 ys):
  Calls prog 104 #[pF a n c,pF a2 m c2] w fun e w'=>e = pJ (pI r)/\Aa [] w w':=by
 have HH:=lH h;have H2:=lH h2;have HN:=lH hn;have HM:=lH hm;have HR:=lH hr
 skip
 clear h h2 hn hm hr;by_cases hnm:n=m;rotate_left
 ·have f1:((n:Int) != (m:Int))=true:=by simp;omega
  obtain rfl:r=false:=by rw [<- HR.o];exact decide_eq_false (fun e=>hnm gH)
  clear hnm;go_enter func104,ntmps104;go_wp2;go_ret;exact⟨rfl,Aa.refl [] w⟩
 subst hnm;go_enter func104,ntmps104;go_wp2;go_loopw [13] (fun i wr=>∃k:Nat,i = I_ k/\k<=n/\Hi (xs.take k=ys.take k)/\Hi (Aa [] w wr)) (fun i _=>n - (intOf i).toNat)
 case atStart=>exact⟨0,rfl,Ba _,lH rfl,lH (Aa.refl [] w)⟩
 case round=>
  obtain⟨k,rfl,hk,HP,HK⟩:=hrel;by_cases hlt:k<n
  ·obtain⟨g1,o1,B,rfl,hg1,hx1,hat1⟩:=(HH.o.keeps HK.o).at_k (k:=k) bO
   obtain⟨g2,o2,D,rfl,hg2,hx2,hat2⟩:=(H2.o.keeps HK.o).at_k (k:=k) fD;have G:=hat1 0 (I_ B) rfl;have J:=hat2 0 (I_ D) rfl;rw [AT,pR] at G;rw [AT,pR] at J;have i1:(0:Int)<=(k:Int):=bB;have i2:(k:Int)<(n:Int):=bB;have HX1:=lH hx1;have HX2:=lH hx2
   skip
   clear hat1 hat2 hg1 hg2 hx1 hx2;by_cases he:(B:Int)=D
   ·have hne:(B != D)=false:=by simpa using he
    have E:Hi (xs.take (k+1)=ys.take (k+1)):=lH gF;clear he;go_wp2;go_quiet (fail);go_wp2;go_roundw;case rel=>exact⟨k+1,by go_num,by omega,E,lH (HK.o.drewN _)⟩
    case measure=>simp [intOf];omega
   ·have hne:(B != D)=true:=by simpa using he
    obtain rfl:r=false:=by
     rw [<- HR.o];refine decide_eq_false (fun e=>he ?_);have h1:=HX1.o;rw [e,HX2.o] at h1;injection h1 with h1
     exact h1.symm
    clear he;go_wp2;go_quiet (fail);go_wp2;go_ret;exact⟨rfl,HK.o.drewN _⟩
  ·obtain rfl:k=n:=bB;obtain rfl:r=true:=by
    rw [<- HR.o];have:=HP.o;rw [Ak bL,Ak gG] at this;exact decide_eq_true this
   go_wp2;go_ret;exact⟨rfl,HK.o⟩
theorem cJ(a a2:Option Addr)(c c2:Nat)(xs ys:List Bool)(n m:Nat)(hn:xs.length=n)(hm:ys.length=m)(hL:n<=1000000)(F:m<=1000000)(r:Bool)(hr:decide (xs=ys)=r)(w:World)(h:AR JM 1 w a c xs)(h2:AR JM 1 w a2 c2 ys):
  Calls prog 105 #[pF a n c,pF a2 m c2] w fun e w'=>e = pJ (pI r)/\Aa [] w w':=by
 have HH:=lH h;have H2:=lH h2;have HN:=lH hn;have HM:=lH hm;have HR:=lH hr
 skip
 clear h h2 hn hm hr;by_cases hnm:n=m;rotate_left
 ·have f1:((n:Int) != (m:Int))=true:=by simp;omega
  obtain rfl:r=false:=by rw [<- HR.o];exact decide_eq_false (fun e=>hnm gH)
  clear hnm;go_enter func105,ntmps105;go_wp2;go_ret;exact⟨rfl,Aa.refl [] w⟩
 subst hnm;go_enter func105,ntmps105;go_wp2;go_loopw [13] (fun i wr=>∃k:Nat,i = I_ k/\k<=n/\Hi (xs.take k=ys.take k)/\Hi (Aa [] w wr)) (fun i _=>n - (intOf i).toNat)
 case atStart=>exact⟨0,rfl,Ba _,lH rfl,lH (Aa.refl [] w)⟩
 case round=>
  obtain⟨k,rfl,hk,HP,HK⟩:=hrel;by_cases hlt:k<n
  ·obtain⟨g1,o1,B,rfl,hg1,hx1,hat1⟩:=(HH.o.keeps HK.o).at_k (k:=k) bO
   obtain⟨g2,o2,D,rfl,hg2,hx2,hat2⟩:=(H2.o.keeps HK.o).at_k (k:=k) fD;have G:=hat1 0 (pI B) rfl;have J:=hat2 0 (pI D) rfl;rw [AT,pR] at G;rw [AT,pR] at J;have i1:(0:Int)<=(k:Int):=bB;have i2:(k:Int)<(n:Int):=bB;have HX1:=lH hx1;have HX2:=lH hx2
   skip
   clear hat1 hat2 hg1 hg2 hx1 hx2;by_cases he:(B:Bool)=D
   ·have hne:(!(B==D))=false:=by simpa using he
    have E:Hi (xs.take (k+1)=ys.take (k+1)):=lH gF;clear he;go_wp2;go_quiet (fail);go_wp2;go_roundw;case rel=>exact⟨k+1,by go_num,by omega,E,lH (HK.o.drewN _)⟩
    case measure=>simp [intOf];omega
   ·have hne:(!(B==D))=true:=by simpa using he
    obtain rfl:r=false:=by
     rw [<- HR.o];refine decide_eq_false (fun e=>he ?_);have h1:=HX1.o;rw [e,HX2.o] at h1;injection h1 with h1
     exact h1.symm
    clear he;go_wp2;go_quiet (fail);go_wp2;go_ret;exact⟨rfl,HK.o.drewN _⟩
  ·obtain rfl:k=n:=bB;obtain rfl:r=true:=by
    rw [<- HR.o];have:=HP.o;rw [Ak bL,Ak gG] at this;exact decide_eq_true this
   go_wp2;go_ret;exact⟨rfl,HK.o⟩
theorem Ya(D J:Bool)(E M:Int)(a2 N:Int)(F O:Int)(G T:Int)(w:World):(Op.equalIn 10000 55 (pH #[pI D,I_ E,I_ a2,I_ F,I_ G]) (pH #[pI J,I_ M,I_ N,I_ O,I_ T])).run prog w = .ok (decide ((⟨D,E,a2,F,G⟩:EX)=⟨J,M,N,O,T⟩)) w:=by
 have B:prog.underlying 55=some (.struct (prog.fieldsOf 55)):=bC;have Y:prog.stoodInHeld 55=false:=bC;have U:prog.underlying 51=some (.struct (prog.fieldsOf 51)):=bC;have aa:prog.stoodInHeld 51=false:=bC;have X:prog.underlying 53=some (.struct (prog.fieldsOf 53)):=bC;have ab:prog.stoodInHeld 53=false:=bC;rw [show(10000:Nat)=9999+1 from rfl,run_equalIn_agg w 9999 55 _ _ B Y];simp only [CK,underlying55,underlying51,underlying53];simp only [CK,underlying55,underlying51,underlying53] at B U X;simp [go_sem,CK,underlying55,underlying51,underlying53,aa,ab];by_cases h:D=J;rotate_left
 ·simp [h]
 subst h;by_cases h:E=M;rotate_left
 ·simp [h]
 subst h;by_cases h:a2=N;rotate_left
 ·simp [h]
 subst h;by_cases h:F=O;rotate_left
 ·simp [h]
 subst h;by_cases h:G=T;rotate_left
 ·simp [h]
 subst h;simp
theorem YT(B G:Bool)(D J:Int)(a2 M:Int)(E N:Int)(F O:Int)(w:World):(binOp .neq 55 (pH #[pI B,I_ D,I_ a2,I_ E,I_ F]) (pH #[pI G,I_ J,I_ M,I_ N,I_ O])).run prog w = .ok (pI (!decide ((⟨B,D,a2,E,F⟩:EX)=⟨G,J,M,N,O⟩))) w:=by rw [run_neq_struct,Ya];rfl
theorem cI(a a2:Option Addr)(c c2:Nat)(xs ys:List EX)(n m:Nat)(hn:xs.length=n)(hm:ys.length=m)(hL:n<=1000000)(U:m<=1000000)(r:Bool)(hr:decide (xs=ys)=r)(w:World)(h:AR B8 5 w a c xs)(h2:AR B8 5 w a2 c2 ys):
  Calls prog 106 #[pF a n c,pF a2 m c2] w fun e w'=>e = pJ (pI r)/\Aa [] w w':=by
 have HH:=lH h;have H2:=lH h2;have HN:=lH hn;have HM:=lH hm;have HR:=lH hr;have hgd:prog.eqGuardType prog.depth 55=false:=bC;clear h h2 hn hm hr;by_cases hnm:n=m;rotate_left
 ·have f1:((n:Int) != (m:Int))=true:=by simp;omega
  obtain rfl:r=false:=by rw [<- HR.o];exact decide_eq_false (fun e=>hnm gH)
  clear hnm;go_enter func106,ntmps106;go_wp2;go_ret;exact⟨rfl,Aa.refl [] w⟩
 subst hnm;go_enter func106,ntmps106;go_wp2;go_loopw [13] (fun i wr=>∃k:Nat,i = I_ k/\k<=n/\Hi (xs.take k=ys.take k)/\Hi (Aa [] w wr)) (fun i _=>n - (intOf i).toNat)
 case atStart=>exact⟨0,rfl,Ba _,lH rfl,lH (Aa.refl [] w)⟩
 case round=>
  obtain⟨k,rfl,hk,HP,HK⟩:=hrel;by_cases hlt:k<n
  ·obtain⟨g1,o1,⟨D,E,a2,F,G⟩,rfl,hg1,hx1,hat1⟩:=(HH.o.keeps HK.o).at_k (k:=k) bO
   obtain⟨g2,o2,⟨J,M,N,O,T⟩,rfl,hg2,hx2,hat2⟩:=(H2.o.keeps HK.o).at_k (k:=k) fD;have X:=hat1 0 (pI D) rfl;have p1:=hat1 1 (I_ E) rfl;have p2:=hat1 2 (I_ a2) rfl;have p3:=hat1 3 (I_ F) rfl;have p4:=hat1 4 (I_ G) rfl;have Y:=hat2 0 (pI J) rfl;have q1:=hat2 1 (I_ M) rfl;have q2:=hat2 2 (I_ N) rfl;have q3:=hat2 3 (I_ O) rfl;have q4:=hat2 4 (I_ T) rfl;rw [AT] at X;rw [AT] at Y;have i1:(0:Int)<=(k:Int):=bB;have i2:(k:Int)<(n:Int):=bB;have HX1:=lH hx1;have HX2:=lH hx2;have hne:=fun W=>YT D J E M a2 N F O G T W;clear hat1 hat2 hg1 hg2 hx1 hx2;by_cases he:(⟨D,E,a2,F,G⟩:EX)=⟨J,M,N,O,T⟩
   ·simp only [decide_eq_true he,Bool.not_true] at hne
    have B:Hi (xs.take (k+1)=ys.take (k+1)):=lH gF;clear he;go_wp2;go_quiet (fail);go_wp2;go_roundw;case rel=>exact⟨k+1,by go_num,by omega,B,lH (HK.o.drewN _)⟩
    case measure=>simp [intOf];omega
   ·simp only [decide_eq_false he,Bool.not_false] at hne
    obtain rfl:r=false:=by
     rw [<- HR.o];refine decide_eq_false (fun e=>he ?_);have h1:=HX1.o;rw [e,HX2.o] at h1;injection h1 with h1
     exact h1.symm
    clear he;go_wp2;go_quiet (fail);go_wp2;go_ret;exact⟨rfl,HK.o.drewN _⟩
  ·obtain rfl:k=n:=bB;obtain rfl:r=true:=by
    rw [<- HR.o];have:=HP.o;rw [Ak bL,Ak gG] at this;exact decide_eq_true this
   go_wp2;go_ret;exact⟨rfl,HK.o⟩
theorem XZ(B F:Int)(D G:ByteArray)(a2 J:Int)(E M:Int)(w:World):(Op.equalIn 10000 209 (pH #[pE pK B,Dz D,I_ a2,I_ E]) (pH #[pE pK F,Dz G,I_ J,I_ M])).run prog w = .ok (decide ((⟨B,D,a2,E⟩:El)=⟨F,G,J,M⟩)) w:=by
 have N:prog.underlying 209=some (.struct (prog.fieldsOf 209)):=bC;have O:prog.stoodInHeld 209=false:=bC;rw [show(10000:Nat)=9999+1 from rfl,run_equalIn_agg w 9999 209 _ _ N O];simp only [CK,underlying209];go_simp;by_cases h:B=F;rotate_left
 ·simp [h]
 subst h;by_cases h:D=G;rotate_left
 ·have h2:=GR h
  simp [h,h2]
 subst h;by_cases h:a2=J;rotate_left
 ·simp [h]
 subst h;by_cases h:E=M;rotate_left
 ·simp [h]
 subst h;simp
theorem YS(B F:Int)(D G:ByteArray)(a2 J:Int)(E M:Int)(w:World):(binOp .neq 209 (pH #[pE pK B,Dz D,I_ a2,I_ E]) (pH #[pE pK F,Dz G,I_ J,I_ M])).run prog w = .ok (pI (!decide ((⟨B,D,a2,E⟩:El)=⟨F,G,J,M⟩))) w:=by rw [run_neq_struct,XZ];rfl
theorem cH(a a2:Option Addr)(c c2:Nat)(xs ys:List El)(n m:Nat)(hn:xs.length=n)(hm:ys.length=m)(hL:n<=1000000)(O:m<=1000000)(r:Bool)(hr:decide (xs=ys)=r)(w:World)(h:AR BT 4 w a c xs)(h2:AR BT 4 w a2 c2 ys):
  Calls prog 107 #[pF a n c,pF a2 m c2] w fun e w'=>e = pJ (pI r)/\Aa [] w w':=by
 have HH:=lH h;have H2:=lH h2;have HN:=lH hn;have HM:=lH hm;have HR:=lH hr;have hgd:prog.eqGuardType prog.depth 209=false:=bC;clear h h2 hn hm hr;by_cases hnm:n=m;rotate_left
 ·have f1:((n:Int) != (m:Int))=true:=by simp;omega
  obtain rfl:r=false:=by rw [<- HR.o];exact decide_eq_false (fun e=>hnm gH)
  clear hnm;go_enter func107,ntmps107;go_wp2;go_ret;exact⟨rfl,Aa.refl [] w⟩
 subst hnm;go_enter func107,ntmps107;go_wp2;go_loopw [13] (fun i wr=>∃k:Nat,i = I_ k/\k<=n/\Hi (xs.take k=ys.take k)/\Hi (Aa [] w wr)) (fun i _=>n - (intOf i).toNat)
 case atStart=>exact⟨0,rfl,Ba _,lH rfl,lH (Aa.refl [] w)⟩
 case round=>
  obtain⟨k,rfl,hk,HP,HK⟩:=hrel;by_cases hlt:k<n
  ·obtain⟨g1,o1,⟨D,E,a2,F⟩,rfl,hg1,hx1,hat1⟩:=(HH.o.keeps HK.o).at_k (k:=k) bO
   obtain⟨g2,o2,⟨G,J,M,N⟩,rfl,hg2,hx2,hat2⟩:=(H2.o.keeps HK.o).at_k (k:=k) fD;have T:=hat1 0 (I_ D) rfl;have p1:=hat1 1 (Dz E) rfl;have p2:=hat1 2 (I_ a2) rfl;have p3:=hat1 3 (I_ F) rfl;have U:=hat2 0 (I_ G) rfl;have X:=hat2 1 (Dz J) rfl;have Y:=hat2 2 (I_ M) rfl;have q3:=hat2 3 (I_ N) rfl;rw [AT] at T;rw [AT] at U;have i1:(0:Int)<=(k:Int):=bB;have i2:(k:Int)<(n:Int):=bB;have HX1:=lH hx1;have HX2:=lH hx2;have hne:=fun W=>YS D G E J a2 M F N W;clear hat1 hat2 hg1 hg2 hx1 hx2;by_cases he:(⟨D,E,a2,F⟩:El)=⟨G,J,M,N⟩
   ·simp only [decide_eq_true he,Bool.not_true] at hne
    have B:Hi (xs.take (k+1)=ys.take (k+1)):=lH gF;clear he;go_wp2;go_quiet (fail);go_wp2;go_roundw;case rel=>exact⟨k+1,by go_num,by omega,B,lH (HK.o.drewN _)⟩
    case measure=>simp [intOf];omega
   ·simp only [decide_eq_false he,Bool.not_false] at hne
    obtain rfl:r=false:=by
     rw [<- HR.o];refine decide_eq_false (fun e=>he ?_);have h1:=HX1.o;rw [e,HX2.o] at h1;injection h1 with h1
     exact h1.symm
    clear he;go_wp2;go_quiet (fail);go_wp2;go_ret;exact⟨rfl,HK.o.drewN _⟩
  ·obtain rfl:k=n:=bB;obtain rfl:r=true:=by
    rw [<- HR.o];have:=HP.o;rw [Ak bL,Ak gG] at this;exact decide_eq_true this
   go_wp2;go_ret;exact⟨rfl,HK.o⟩
theorem KD(B E:ByteArray)(D F:Int)(a2 G:ByteArray)(w:World):(Op.equalIn 10000 73 (pH #[Dz B,I_ D,Dz a2]) (pH #[Dz E,I_ F,Dz G])).run prog w = .ok (decide ((⟨B,D,a2⟩:IA)=⟨E,F,G⟩)) w:=by
 have J:prog.underlying 73=some (.struct (prog.fieldsOf 73)):=bC;have M:prog.stoodInHeld 73=false:=bC;rw [show(10000:Nat)=9999+1 from rfl,run_equalIn_agg w 9999 73 _ _ J M];simp only [CK,underlying73];go_simp;by_cases h:B=E;rotate_left
 ·have h2:=GR h
  simp [h,h2]
 subst h;by_cases h:D=F;rotate_left
 ·simp [h]
 subst h;by_cases h:a2=G;rotate_left
 ·have h2:=GR h
  simp [h,h2]
 subst h;simp
theorem aM(n:Int)(w:World):Calls prog 116 #[pE pK n] w fun e w'=>∃x,e = pJ (.tuple #[x,I_ (IU n).2])/\Di w w' (IU n).1 x/\Aa [] w w':=by
 by_cases h1:n<1\/64<n
 ·have hs:IU n=(Ez,2):=by unfold IU;rw [if_pos h1]
  rw [hs];have h0:Calls prog 116 #[pE pK n] w fun e w'=>e = pJ (.tuple #[.agg IY.k,I_ 2])/\Aa [] w w':=by
   clear hs;have hB:=lH (Blk.new w 26 IY.k);by_cases h2:n<1
   ·clear h1
    go_enter func116,ntmps116;go_wp2;exact bodyPost_ret (v:=.tuple #[.agg IY.k,I_ 2]) (by simp [results,results116,go_sem]) rfl ⟨rfl,(Aa.refl [] w).alloc _⟩
   ·have h3:64<n:=bB;have bd:1<=n:=bB;clear h1 h2;go_enter func116,ntmps116;go_wp2;exact bodyPost_ret (v:=.tuple #[.agg IY.k,I_ 2]) (by simp [results,results116,go_sem]) rfl ⟨rfl,(Aa.refl [] w).alloc _⟩
  refine h0.mono ?_;rintro e w' ⟨rfl,hk⟩;exact⟨_,rfl,Di.zero _ _,hk⟩
 ·obtain⟨m,rfl⟩:∃m:Nat,n=m:=⟨n.toNat,by omega⟩
  have i1:(1:Int)<=(m:Int):=bB;have i2:(m:Int)<=64:=bB;have hs:IU (m:Int)=(⟨D6 m 0,D6 m false,(AC m).map fun i:Nat=>(m:Int) - 1 - (i:Int)⟩,0):=by unfold IU;rw [if_neg h1];simp
  rw [hs];clear h1 hs;have be:=fun W=>LH (t:=23) (e:=3) (z:=I_ 0) underlying23 bC m bB W;have a7:=fun W=>LH (t:=24) (e:=4) (z:=pI false) underlying24 bC m bB W;go_enter func116,ntmps116;go_wp2;obtain⟨wz,hwz⟩:=eX (w.alloc (.cells IY.k 26));have HZ:Hi (Aa [] w wz):=lH jV;have HB:Hi (Blk wz w 26 IY.k):=lH nN;have HSZ:Hi (wz.heap.size=w.heap.size+1):=lH gA;simp only [hwz];clear hwz;go_cut [4] (fun x wc=>∃B g1 g2,x = p_ B 0/\Hi (Blk wc B 26 #[pF (some (A_ g1 0)) m m,pF (some (A_ g2 0)) m m,pF none 0 0])/\Hi (Blk wc g1 3 (madeCells #[pE pK 0] m))/\Hi (Blk wc g2 4 (madeCells #[pI false] m))/\Hi (Aa [] wz wc)/\Hi (wz.heap.size<=B/\wz.heap.size<=g1/\wz.heap.size<=g2))
  case first=>
   refine wp_region_held_drew (S:=(fun _:World=>True)) bC trivial (fun hHeld=>?_)
   repeat' (first | exact rZ | refine rX ?_ | ((first | (refine rA 1 (fun K hK=>?_) ?_;go_simp) | (refine rA 3 (fun K hK=>?_) ?_;go_simp) | (refine rA 5 (fun K hK=>?_) ?_;go_simp) | (refine rA 6 (fun K hK=>?_) ?_;go_simp));refine rO hK trivial fun hHeld=>?_;clear hK K) | (refine rQ 0 ?_;refine rQ 2 ?_) | (refine rQ 4 ?_) | refine rB [1,3,5,6] ?_ | (refine wpAnyH_done bC ?_ _;(go_wp2_with fail;go_meet;exact⟨_,_,_,rfl,lH mQ,lH mQ,lH mQ,lH (by(repeat(first | exact Aa.refl _ _ | refine Aa.drew ?_ | refine Aa.alloc ?_ _ | refine Aa.setCell ?_ (.inr bA) _))),lH (by simp<;>omega)⟩)))
  case rest=>
   obtain⟨B,g1,g2,rfl,HBB,ag,ah,av,ar⟩:=hcut;obtain⟨L,hL⟩:∃L:Nat->List Int,L=fun k=>(AC k).map fun i:Nat=>(m:Int) - 1 - (i:Int):=⟨_,rfl⟩;have aj:∀k,(L k).length=k:=fun k=>by rw [hL];simp
   have al:∀k,L (k+1)=L k++[(m:Int) - 1 - (k:Int)]:=fun k=>by rw [hL];simp [B3]
   have a5:Hi (∃u,Blk wc B 26 #[pF (some (A_ g1 0)) m m,pF (some (A_ g2 0)) m m,u]/\wc.ownsRow wc 3 1 u 0 ((L 0).flatMap Fb)):=lH ⟨_,HBB.o,by rw [hL];simpa using BQ _ _ _ _⟩;have ad:=lH aj;have aw:=lH al;have HLE:=lH hL;clear hL aj al;have aq:Hi (B<wc.heap.size):=lH HBB.o.lt;go_wp2_with fail;go_loopw [19] (fun i wr=>∃k:Nat,i = I_ k/\k<=m/\Hi (∃u,Blk wr B 26 #[pF (some (A_ g1 0)) m m,pF (some (A_ g2 0)) m m,u]/\wr.ownsRow wc 3 1 u k ((L k).flatMap Fb))/\Hi (Aa [B] wc wr)) (fun i _=>m - (intOf i).toNat)
   case atStart=>exact⟨0,rfl,Ba _,a5,lH (Aa.refl _ _)⟩
   case round=>
    obtain⟨k,rfl,hk,HR,HK⟩:=hrel;by_cases hlt:k<m
    ·obtain⟨u,hb,hrow⟩:=HR.o
     obtain⟨U,F⟩:=eX (L k);have E:U.length=k:=by rw [<- F];exact ad.o k
     rw [F] at hrow;have hsn:L (k+1)=U++[(m:Int) - 1 - (k:Int)]:=by rw [aw.o,F]
     have O:wr.ownsRow wc 3 1 u U.length (U.flatMap Fb):=by rw [E];exact hrow
     obtain⟨g,c,W3,T,D,hk3,Y⟩:=CO (enc:=Fb) prog (t:=23) underlying23 Nj bE Eu KH O HK.o.size ((m:Int) - 1 - (k:Int)) bB 23;have hgeS:=AZ hrow;have a4:=aq.o;have X:=hb.keeps hk3 (fun hm=>by have:=hgeS _ hm;omega);have q2:=hb.ce 2;have t2:=X.ce 2;have f2:=X.frozen 2;have HB4:=lH (X.set_ 2 (pF (some (A_ g 0)) (k+1) c));rw [<- hsn,ad.o (k+1),E] at D;have HROW:=lH (Ah D (Ae W3 B 2 (pF (some (A_ g 0)) (k+1) c)) (fun y hy hm=>by have:=(D.lt y hy).1;simp only [Ac,Ab,or_false] at hm;omega));have HK4:Hi (Aa [B] wc (W3.setCell (A_ B 2) (pF (some (A_ g 0)) (k+1) c))):=lH ((HK.o.trans' hk3 (fun y hy=>.inr (hgeS y hy))).trans (Ae W3 B 2 _));have hw1:IntKind.i64.wrap ((m:Int) - 1)=(m:Int) - 1:=IntWalk.i64_in _ bB;have bf:IntKind.i64.wrap ((m:Int) - 1 - (k:Int))=(m:Int) - 1 - (k:Int):=IntWalk.i64_in _ bB;have i3:(k:Int)<(m:Int):=bB;rw [E] at T;simp only [Fb] at T;clear hb hrow F E hsn O D hk3 Y hgeS a4 X;go_wp2_with (at_builtin;refine Au _ rfl _ _ 23 rfl rfl rfl T ?_);go_roundw;case rel=>exact⟨k+1,by go_num,by omega,lH ⟨_,HB4.o,HROW.o⟩,HK4⟩
     case measure=>simp [intOf];omega
    ·obtain rfl:k=m:=bB;obtain⟨u,hb,hrow⟩:=HR.o;have ak:=HLE.o;obtain⟨U,F⟩:=eX (L k);have E:U.length=k:=by rw [<- F];exact ad.o k
     rw [F] at hrow;obtain⟨a,c,rfl,hs,Y⟩:=AR.of_row Eu (show wr.ownsRow wc 3 1 u U.length (U.flatMap Fb) by rw [E];exact hrow);have hz:=ar.o;have hsz:=HSZ.o;have N:=av.o;have ab:g1≠B:=ag.o.ne_ HBB.o bE;have ac:g2≠B:=ah.o.ne_ HBB.o bE;have G:=(HB.o.keeps N bA).keeps HK.o bI;have J:=G.put3 (pF (some (A_ g1 0)) k k) (pF (some (A_ g2 0)) k k) (pF a k c);have M:=G5 wr w (pF (some (A_ g1 0)) k k) (pF (some (A_ g2 0)) k k) (pF a k c);have e1:madeCells #[pE .i64 0] k=((D6 k (0:Int)).map (pE .i64)).toArray:=by rw [<- Array.toList_inj,toList_madeCells_one];simp
     have e2:madeCells #[pI false] k=((D6 k false).map pI).toArray:=by rw [<- Array.toList_inj,toList_madeCells_one];simp
     have ae:=ag.o.keeps HK.o (by simp only [Ac,Ab,or_false];exact ab);have af:=ah.o.keeps HK.o (by simp only [Ac,Ab,or_false];exact ac);rw [e1] at ae;rw [e2] at af;have aa:∀y,wz.heap.size<=y->y∉[w.heap.size]:=fun y hy hm=>by simp only [Ac,Ab,or_false] at hm;omega
     have hM:Dy wr ⟨some (A_ g1 0),k,some (A_ g2 0),k,a,c⟩ ⟨D6 k 0,D6 k false,U⟩:=⟨AR.of_blk (fun _=>rfl) bA ae,AR.of_blk (fun _=>rfl) bA af,hs,by simp;omega,by simp;omega,by dsimp only;omega⟩;have am:Dy ((((wr.setCell (A_ w 0) (pF (some (A_ g1 0)) k k)).setCell (A_ w 1) (pF (some (A_ g2 0)) k k)).setCell (A_ w 2) (pF a k c))) ⟨some (A_ g1 0),k,some (A_ g2 0),k,a,c⟩ ⟨D6 k 0,D6 k false,U⟩:=
      { hM with g:=hM.g.keepsS M (fun g off e=>by injection e with e;injection e with e _ _;subst e;exact aa _ hz.2.1),u:=hM.u.keepsS M (fun g off e=>by injection e with e;injection e with e _ _;subst e;exact aa _ hz.2.2),f:=hM.f.keepsS M (fun g off e=>aa _ (by have:=(hrow.lt g (by rw [show a=_ from e];rfl)).1;have:=N.size;omega)) }
     have ai:Aa [] w (((wr.setCell (A_ w 0) (pF (some (A_ g1 0)) k k)).setCell (A_ w 1) (pF (some (A_ g2 0)) k k)).setCell (A_ w 2) (pF a k c)):=
      ((HZ.o.trans N).own HK.o bF).own M bF
     have q0:=hb.ce 0;have q1:=hb.ce 1;have q2:=hb.ce 2;have r0:=J.ce 0;have r1:=J.ce 1;have r2:=J.ce 2;have c0:=G.ce 0;have c1:=G.ce 1;have c2:=G.ce 2;have f0:=G.frozen 0;have f1:=G.frozen 1;have f2:=G.frozen 2;rw [E] at q2;have ay:=lH r0;have az:=lH r1;have a0:=lH r2;have ax:=lH am;have HKF:=lH ai;have a1:Hi (U=(AC k).map fun i:Nat=>(k:Int) - 1 - (i:Int)):=lH (by rw [<- F,ak]);have ba:=lH E;have au:Hi (Ja w ⟨some (A_ g1 0),k,some (A_ g2 0),k,a,c⟩):=lH ⟨fun g o e=>by injection e with e;injection e with e _ _;subst e;omega,fun g o e=>by injection e with e;injection e with e _ _;subst e;omega,fun g o e=>by have:=Y g o e;have:=N.size;omega⟩;clear hb hrow F E hs Y hz hsz N ab ac G J M e1 e2 ae af aa hM am ai r0 r1 r2 ak;go_wp2_with fail;refine bodyPost_ret (v:=.tuple #[pH #[pF (some (A_ g1 0)) k k,pF (some (A_ g2 0)) k k,pF a k c],I_ 0]) (by have r0:=ay.o;have r1:=az.o;have r2:=a0.o;simp [results,results116,go_sem,r0,r1,r2]) rfl ⟨_,rfl,⟨⟨some (A_ g1 0),k,some (A_ g2 0),k,a,c⟩,k,k,k,rfl,by simp,by simp,by simp,?_⟩,HKF.o⟩;rw [<- a1.o];exact⟨ax.o,au.o⟩
theorem WV(v v2:DF)(s G:Fz)(gn un fn E F D:Nat)(hg:s.gens.length=gn)(hu:s.used.length=un)(hf:s.free.length=fn)(hg2:G.gens.length=E)(Y:G.used.length=F)(X:G.free.length=D)(b:Bool)(hb:decide (s=G)=b)(w:World)(h:Dy w v s)(h2:Dy w v2 G):
  Calls prog 46 #[pH (S_ v gn un fn),pH (S_ v2 E F D)] w fun e w'=>e = pJ (pI b)/\Aa [] w w':=by
 obtain⟨r1,O⟩:=eX (decide (s.gens=G.gens));obtain⟨r2,T⟩:=eX (decide (s.used=G.used));obtain⟨r3,U⟩:=eX (decide (s.free=G.free));have N:b=(r1&&(r2&&r3)):=by
  rw [<- hb,<- O,<- T,<- U,DI];obtain⟨x1,x2,x3⟩:=s;obtain⟨y1,y2,y3⟩:=G;simp
 have B:=((Aa.refl [] w).alloc (.cells (S_ v gn un fn) 26)).alloc (.cells (S_ v2 E F D) 26);obtain⟨wz,hwz⟩:=eX (((w.alloc (.cells (S_ v gn un fn) 26)).alloc (.cells (S_ v2 E F D) 26)));have J:Blk wz w 26 (S_ v gn un fn):=by rw [<- hwz];exact(Blk.new w _ _).alloc _
 have M:Blk wz (w+1) 26 (S_ v2 E F D):=by rw [<- hwz];exact Ar _ _ _ _ bA
 rw [hwz] at B;have H1:=lH (fun W (hk:Aa [] wz W)=>Yq v.ga v2.ga v.gc v2.gc s.gens G.gens gn E hg hg2 (by have:=h.sg;omega) (by have:=h2.sg;omega) r1 O W (h.g.keeps (B.trans hk)) (h2.g.keeps (B.trans hk)));have H2:=lH (fun W (hk:Aa [] wz W)=>cJ v.ua v2.ua v.uc v2.uc s.used G.used un F hu Y (by have:=h.su;omega) (by have:=h2.su;omega) r2 T W (h.u.keeps (B.trans hk)) (h2.u.keeps (B.trans hk)));have H3:=lH (fun W (hk:Aa [] wz W)=>Yq v.fa v2.fa v.fc v2.fc s.free G.free fn D hf X (by have:=h.sf;omega) (by have:=h2.sf;omega) r3 U W (h.f.keeps (B.trans hk)) (h2.f.keeps (B.trans hk)));have HB1:=lH J;have HB2:=lH M;have HK0:=lH B;have p0:=J.ce 0;have q0:=M.ce 0;clear h h2 hg hu hf hg2 Y X hb O T U B J M;go_enter func46,ntmps46;go_wp2_with fail;clear hwz;refine(H1.o wz (Aa.refl [] wz)).mono ?_;rintro e w1 ⟨rfl,hk1⟩;have HK1:=lH hk1;cases r1 with
 | false=>
  obtain rfl:b=false:=N;clear p0 q0 hk1;go_wp2;go_ret;exact⟨rfl,HK0.o.trans HK1.o⟩
 | true=>
  have p1:=(HB1.o.keeps hk1 bA).ce 1;have q1:=(HB2.o.keeps hk1 bA).ce 1;clear p0 q0 hk1;go_wp2_with fail;refine(H2.o w1 HK1.o).mono ?_;rintro e w2 ⟨rfl,hk2⟩;have HK2:=lH (HK1.o.trans hk2);cases r2 with
  | false=>
   obtain rfl:b=false:=N;clear p1 q1 hk2;go_wp2;go_ret;exact⟨rfl,HK0.o.trans HK2.o⟩
  | true=>
   obtain rfl:b=r3:=N;have p2:=(HB1.o.keeps HK2.o bA).ce 2;have q2:=(HB2.o.keeps HK2.o bA).ce 2;clear p1 q1 hk2;go_wp2_with fail;refine(H3.o w2 HK2.o).mono ?_;rintro e w3 ⟨rfl,hk3⟩;have aa:=lH (HK2.o.trans hk3);clear p2 q2 hk3;go_wp2;go_ret;exact⟨rfl,HK0.o.trans aa.o⟩
theorem LD(used:List Bool):∀(L met:List Int),Fk used met L=true->∀x∈L,0<=x/\x<used.length/\used.getD x.toNat true=false
 | [],_,_,x,hx=>by simp at hx
 | y::L,met,h,x,hx=>by
  simp only [Fk,Af,decide_eq_true_eq,Bool.not_eq_true'] at h;rcases Ac.1 hx with rfl | hx
  ·exact⟨h.1.1.1.1,h.1.1.1.2,h.1.1.2⟩
  ·exact LD used L _ h.2 x hx
theorem AR.cap{α:Type}{enc:α->List Value}{n:Nat}{w:World}{p:Addr}{c c2:Nat}{xs:List α}(h:AR enc n w (some p) c xs)(hc:xs.length<=c2):AR enc n w (some p) c2 xs:=⟨hc,(fun e=>by cases e),h.at_⟩
theorem AR.set1{α:Type}{f:α->Value}{enc:α->List Value}(he:∀x,enc x = [f x]){w:World}{g o c j:Nat}{xs:List α}(h:AR enc 1 w (some (A_ g o)) c xs)(hj:j<xs.length)(y:α):AR enc 1 (w.setCell (A_ g (o+j)) (f y)) (some (A_ g o)) c (xs.set j y):=by
 obtain⟨D,o',e,hg,E⟩:=h.at_ bB;injection e with e
 obtain⟨rfl,rfl⟩:g=D/\o=o':=by injection e with e1 e2;exact⟨e1,e2⟩
 refine⟨by simpa using h.le,(fun e=>by cases e),fun _=>⟨g,o,rfl,by simpa [World.setCell] using hg,fun i hi k u hk=>?_⟩⟩;rw [List.length_set] at hi;rw [he] at hk;cases k with
 | succ k=>simp at hk
 | zero=>
  simp only [Aj,Option.some.injEq] at hk;have h0:=E i hi 0 (f xs[i]) (by rw [he];rfl);by_cases e2:i=j
  ·subst e2
   rw [List.getElem_set_self] at hk;rw [<- hk];simp only [pR,AT] at h0 ⊢;exact World.cell?_setCell_same _ _ _ h0
  ·rw [List.getElem_set_ne (fun B=>e2 B.symm)] at hk
   rw [<- hk,World.cell?_setCell_other _ _ _ _ (by intro B;injection B with _ e4;omega)];exact h0
theorem P5{m un fc j:Nat}(hj:j<un)(hc:m+1<=fc)(hm:m+1<=1000):IntKind.i64.wrap (((m+1:Nat):Int) - 1)=(m:Int)/\wrap64 (m:Int)=(m:Int)/\(0:Int)<=(j:Int)/\(j:Int)<(un:Int)/\(0:Int)<=(m:Int)/\decide ((m:Int)<0)=false/\(m:Int)<((m+1:Nat):Int)/\(m:Int)<=(fc:Int):=
 ⟨by rw [show((m+1:Nat):Int) - 1=(m:Int) by omega];exact IntWalk.i64_in _ bB,IntWalk.wrap64_in _ ⟨by omega,by omega⟩,by omega,by omega,by omega,decide_eq_false bB,by omega,by omega⟩
theorem MA{i:Int}{u:Nat}(h0:0<=i)(h1:i<u):∃j:Nat,i=(j:Int)/\j<u:=⟨i.toNat,by omega,by omega⟩
theorem X7(v:DF)(s:Fz)(gn un fn:Nat)(hg:s.gens.length=gn)(hu:s.used.length=un)(hf:s.free.length=fn)(hb:Dv s=false)(w:World)(h:Dy w v s):
  Calls prog 154 #[pH (S_ v gn un fn)] w fun e w'=>∃x,e = pJ (.tuple #[x,pH #[pE pK (Bn s).2.1.1,I_ (Bn s).2.1.2],I_ (Bn s).2.2])/\Di w w' (Bn s).1 x/\Aa [] w w':=by
 obtain⟨wz,hwz⟩:=eX (((w.alloc (.cells (S_ v gn un fn) 26)).alloc (.cells IY.k 26)).alloc (.cells #[pE pK 0,I_ 0] 44));have F:Aa [] w wz:=by rw [<- hwz];exact(((Aa.refl [] w).alloc _).alloc _).alloc _
 have E:Blk wz w 26 (S_ v gn un fn):=by rw [<- hwz];exact((Blk.new w _ _).alloc _).alloc _
 have M:Blk wz (w+1) 26 IY.k:=by rw [<- hwz];exact(Ar _ _ _ _ bA).alloc _
 have J:Blk wz (w+1+1) 44 #[pE pK 0,I_ 0]:=by rw [<- hwz];exact Ar _ _ _ _ bA
 have HR:=lH (fun W (hkk:Aa [] wz W)=>DR v s gn un fn hg hu hf false hb W (h.keeps (F.trans hkk)));have HO:=lH (fun W (hkk:Aa [] wz W)=>I0 v s gn un fn hg hu hf W (h.keeps (F.trans hkk)));have HB:=lH hb;have HG:=lH hg;have HU:=lH hu;have HF:=lH hf;have aa:=lH (Bl h.sg (Bl h.su h.sf));have HK0:=lH F;have HB0:=lH E;have T:=lH M;have HBH:=lH J;have U:=E.ce 0;have p1:=E.ce 1;have p2:=E.ce 2;clear h hg hu hf hb F E M J;go_enter func154,ntmps154;go_wp2_with fail;clear hwz U p1 p2;refine(HR.o wz (Aa.refl [] wz)).mono ?_;rintro e w1 ⟨rfl,hk1⟩;have HK1:=lH hk1;have U:=(HB0.o.keeps hk1 bA).ce 0;have p1:=(HB0.o.keeps hk1 bA).ce 1;have p2:=(HB0.o.keeps hk1 bA).ce 2;have B:=lH (T.o.keeps hk1 bA);have D:=lH (HBH.o.keeps hk1 bA);have Y:Hi (w.heap.size+1+1<w1.heap.size):=lH D.o.lt;clear hk1;have HKW:=lH (HK0.o.trans HK1.o);have G:Hi (∀(er:Int) (W:World),Aa [] w1 W->Bn s=(Ez,(0,0),er)->∀N,Aa [w.heap.size+1,w.heap.size+1+1] W N->Di w N (Bn s).1 (.agg IY.k)/\Aa [] w N):=lH fun er W hW O N hk=>by
  rw [O];exact⟨Di.zero _ _,(HKW.o.trans hW).own hk bF⟩
 have O:Bn s=(Ez,(0,0),90):=by unfold Bn;rw [if_neg lT]
 have X:=lH O;clear O U p1 p2;have c0:=B.o.ce 0;have c1:=B.o.ce 1;have c2:=B.o.ce 2;have d0:=D.o.ce 0;have d1:=D.o.ce 1;have f0:=B.o.frozen 0;have f1:=B.o.frozen 1;have f2:=B.o.frozen 2;have g0:=D.o.frozen 0;have g1:=D.o.frozen 1;go_wp2_with fail;exact bodyPost_ret (v:=.tuple #[.agg IY.k,pH #[pE pK 0,I_ 0],I_ 90]) (by simp [results,results154,go_sem,c0,c1,c2,d0,d1]) rfl ⟨_,by rw [X.o],G.o 90 w1 nG X.o _ bY⟩
theorem SU(v:DF)(s:Fz)(gn un fn:Nat)(hg:s.gens.length=gn)(hu:s.used.length=un)(hf:s.free.length=fn)(hb:Dv s=true)(ab:Hi (fn=0))(w:World)(h:Dy w v s):
  Calls prog 154 #[pH (S_ v gn un fn)] w fun e w'=>∃x,e = pJ (.tuple #[x,pH #[pE pK (Bn s).2.1.1,I_ (Bn s).2.1.2],I_ (Bn s).2.2])/\Di w w' (Bn s).1 x/\Aa [] w w':=by
 obtain⟨wz,hwz⟩:=eX (((w.alloc (.cells (S_ v gn un fn) 26)).alloc (.cells IY.k 26)).alloc (.cells #[pE pK 0,I_ 0] 44));have J:Aa [] w wz:=by rw [<- hwz];exact(((Aa.refl [] w).alloc _).alloc _).alloc _
 have E:Blk wz w 26 (S_ v gn un fn):=by rw [<- hwz];exact((Blk.new w _ _).alloc _).alloc _
 have aa:Blk wz (w+1) 26 IY.k:=by rw [<- hwz];exact(Ar _ _ _ _ bA).alloc _
 have Y:Blk wz (w+1+1) 44 #[pE pK 0,I_ 0]:=by rw [<- hwz];exact Ar _ _ _ _ bA
 have HR:=lH (fun W (hkk:Aa [] wz W)=>DR v s gn un fn hg hu hf true hb W (h.keeps (J.trans hkk)));have HO:=lH (fun W (hkk:Aa [] wz W)=>I0 v s gn un fn hg hu hf W (h.keeps (J.trans hkk)));have HB:=lH hb;have HG:=lH hg;have HU:=lH hu;have HF:=lH hf;have aq:=lH (Bl h.sg (Bl h.su h.sf));have HK0:=lH J;have HB0:=lH E;have af:=lH aa;have HBH:=lH Y;have p0:=E.ce 0;have p1:=E.ce 1;have p2:=E.ce 2;clear h hg hu hf hb J E aa Y;go_enter func154,ntmps154;go_wp2_with fail;clear hwz p0 p1 p2;refine(HR.o wz (Aa.refl [] wz)).mono ?_;rintro e w1 ⟨rfl,hk1⟩;have HK1:=lH hk1;have p0:=(HB0.o.keeps hk1 bA).ce 0;have p1:=(HB0.o.keeps hk1 bA).ce 1;have p2:=(HB0.o.keeps hk1 bA).ce 2;have U:=lH (af.o.keeps hk1 bA);have N:=lH (HBH.o.keeps hk1 bA);have al:Hi (w.heap.size+1+1<w1.heap.size):=lH N.o.lt;clear hk1;have HKW:=lH (HK0.o.trans HK1.o);have X:Hi (∀(er:Int) (W:World),Aa [] w1 W->Bn s=(Ez,(0,0),er)->∀W',Aa [w.heap.size+1,w.heap.size+1+1] W W'->Di w W' (Bn s).1 (.agg IY.k)/\Aa [] w W'):=lH fun er W hW ht W' hk=>by
  rw [ht];exact⟨Di.zero _ _,(HKW.o.trans hW).own hk bF⟩
 have T:=HB.o;unfold Dv at T;simp only [Af,decide_eq_true_eq] at T;obtain⟨⟨⟨⟨⟨ah,ai⟩,ac⟩,G⟩,F⟩,M⟩:=T;obtain rfl:un=gn:=by rw [<- HU.o,<- HG.o];exact ac
 have an:=lH F;have ao:=lH G;clear ah ai G M ac F;go_wp2_with fail;clear p0 p1 p2;refine(HO.o w1 HK1.o).mono ?_;rintro e w2 ⟨tb,g,ua,uc,fa,fc,rfl,O⟩;have t0:=O.blk.ce 0;have t1:=O.blk.ce 1;have t2:=O.blk.ce 2;have HOT:=lH O;have B:=lH (U.o.keeps O.kw bA);have D:=lH (N.o.keeps O.kw bA);clear O;have ag:Hi (Bn s=(match s.free.getLast? with
  | none=>(Ez,(0,0),92)
  | some i=>if s.gens.getD i.toNat 0=1000000000 then(Ez,(0,0),92) else(⟨s.gens.set i.toNat (s.gens.getD i.toNat 0+1),s.used.set i.toNat true,s.free.dropLast⟩,(i,s.gens.getD i.toNat 0+1),0))):=lH nJ
 have ht:Bn s=(Ez,(0,0),92):=by rw [ag.o,Ds (HF.o.trans ab.out)];rfl
 have HT:=lH ht;clear ht;obtain rfl:fn=0:=ab.out;go_wp2_with fail;go_quiet (fail);clear t0 t1 t2;have c0:=B.o.ce 0;have c1:=B.o.ce 1;have c2:=B.o.ce 2;have d0:=D.o.ce 0;have d1:=D.o.ce 1;have f0:=B.o.frozen 0;have f1:=B.o.frozen 1;have f2:=B.o.frozen 2;have g0:=D.o.frozen 0;have g1:=D.o.frozen 1;go_wp2_with fail;exact bodyPost_ret (v:=.tuple #[.agg IY.k,pH #[pE pK 0,I_ 0],I_ 92]) (by simp [results,results154,go_sem,c0,c1,c2,d0,d1]) rfl ⟨_,by rw [HT.o],X.o 92 w2 nG HT.o _ bY⟩
theorem Vt(v:DF)(s:Fz)(gn un fn:Nat)(hg:s.gens.length=gn)(hu:s.used.length=un)(hf:s.free.length=fn)(hb:Dv s=true)(m:Nat)(aw:Hi (fn=m+1))(G:Hi (Bn s=(Ez,(0,0),92)))(w:World)(h:Dy w v s):
  Calls prog 154 #[pH (S_ v gn un fn)] w fun e w'=>∃x,e = pJ (.tuple #[x,pH #[pE pK (Bn s).2.1.1,I_ (Bn s).2.1.2],I_ (Bn s).2.2])/\Di w w' (Bn s).1 x/\Aa [] w w':=by
 obtain⟨wz,hwz⟩:=eX (((w.alloc (.cells (S_ v gn un fn) 26)).alloc (.cells IY.k 26)).alloc (.cells #[pE pK 0,I_ 0] 44));have N:Aa [] w wz:=by rw [<- hwz];exact(((Aa.refl [] w).alloc _).alloc _).alloc _
 have E:Blk wz w 26 (S_ v gn un fn):=by rw [<- hwz];exact((Blk.new w _ _).alloc _).alloc _
 have aj:Blk wz (w+1) 26 IY.k:=by rw [<- hwz];exact(Ar _ _ _ _ bA).alloc _
 have ai:Blk wz (w+1+1) 44 #[pE pK 0,I_ 0]:=by rw [<- hwz];exact Ar _ _ _ _ bA
 have HR:=lH (fun W (hkk:Aa [] wz W)=>DR v s gn un fn hg hu hf true hb W (h.keeps (N.trans hkk)));have HO:=lH (fun W (hkk:Aa [] wz W)=>I0 v s gn un fn hg hu hf W (h.keeps (N.trans hkk)));have HB:=lH hb;have HG:=lH hg;have HU:=lH hu;have HF:=lH hf;have aq:=lH (Bl h.sg (Bl h.su h.sf));have HK0:=lH N;have HB0:=lH E;have ao:=lH aj;have HBH:=lH ai;have p0:=E.ce 0;have p1:=E.ce 1;have p2:=E.ce 2;clear h hg hu hf hb N E aj ai;go_enter func154,ntmps154;go_wp2_with fail;clear hwz p0 p1 p2;refine(HR.o wz (Aa.refl [] wz)).mono ?_;rintro e w1 ⟨rfl,hk1⟩;have HK1:=lH hk1;have p0:=(HB0.o.keeps hk1 bA).ce 0;have p1:=(HB0.o.keeps hk1 bA).ce 1;have p2:=(HB0.o.keeps hk1 bA).ce 2;have ad:=lH (ao.o.keeps hk1 bA);have U:=lH (HBH.o.keeps hk1 bA);have a1:Hi (w.heap.size+1+1<w1.heap.size):=lH U.o.lt;clear hk1;have HKW:=lH (HK0.o.trans HK1.o);have ae:Hi (∀(er:Int) (W:World),Aa [] w1 W->Bn s=(Ez,(0,0),er)->∀W',Aa [w.heap.size+1,w.heap.size+1+1] W W'->Di w W' (Bn s).1 (.agg IY.k)/\Aa [] w W'):=lH fun er W hW ht W' hk=>by
  rw [ht];exact⟨Di.zero _ _,(HKW.o.trans hW).own hk bF⟩
 have ac:=HB.o;unfold Dv at ac;simp only [Af,decide_eq_true_eq] at ac;obtain⟨⟨⟨⟨⟨au,av⟩,al⟩,J⟩,F⟩,O⟩:=ac;obtain rfl:un=gn:=by rw [<- HU.o,<- HG.o];exact al
 have ap:=lH F;have a6:=lH J;clear au av J O al F;go_wp2_with fail;clear p0 p1 p2;refine(HO.o w1 HK1.o).mono ?_;rintro e w2 ⟨tb,g,ua,uc,fa,fc,rfl,Y⟩;have t0:=Y.blk.ce 0;have t1:=Y.blk.ce 1;have t2:=Y.blk.ce 2;have HOT:=lH Y;have B:=lH (ad.o.keeps Y.kw bA);have D:=lH (U.o.keeps Y.kw bA);clear Y;have ar:Hi (Bn s=(match s.free.getLast? with
  | none=>(Ez,(0,0),92)
  | some i=>if s.gens.getD i.toNat 0=1000000000 then(Ez,(0,0),92) else(⟨s.gens.set i.toNat (s.gens.getD i.toNat 0+1),s.used.set i.toNat true,s.free.dropLast⟩,(i,s.gens.getD i.toNat 0+1),0))):=lH nJ
 have ag:=G;clear G;obtain rfl:fn=m+1:=aw.out;have T:=AR.row Eu (show w2.ownsRow w1 3 1 (pF fa s.free.length fc) s.free.length (s.free.flatMap Fb) by rw [HF.o];exact HOT.o.f);obtain⟨g3,o3,i,rfl,ax,hx,hat⟩:=T.at_k (k:=m) (by rw [HF.o];exact Nat.lt_succ_self m);have q3:=hat 0 (I_ i) rfl;rw [AT,pR] at q3;obtain⟨ak,aa,ab⟩:=LD s.used s.free [] ap.o i (CD hx);rw [HU.o] at aa;obtain⟨j,rfl,hj⟩:=MA ak aa;rw [pW] at ab;have M:s.free.getLast? = some (j:Int):=by rw [List.getLast?_eq_getElem?,HF.o];exact hx
 obtain⟨z,hz⟩:∃z,s.gens[j]? = some z:=⟨_,Aq (by rw [HG.o];exact hj)⟩;have am:s.gens.getD j 0=z:=by rw [AO,hz];rfl
 have qg:=HOT.o.gb.cell j;rw [An,List.getElem?_map,hz,Option.map_some] at qg;have ah:Hi (Bn s=if z=1000000000 then(Ez,(0,0),92) else(⟨s.gens.set j (z+1),s.used.set j true,s.free.dropLast⟩,((j:Int),z+1),0)):=lH (by rw [ar.o,M];simp only [pW,am]);have X:m+1<=fc:=by have:=T.le;rw [HF.o] at this;exact this
 obtain⟨hw1,bg,bh,bi,bj,bo,bl,bm⟩:=P5 hj X (by have:=aq.o.2.2;rw [HF.o] at this;exact this);have a5:=lH T;have HZ:=lH hz;have HJ:=lH hj;have a7:=lH ab;clear hat hx ak aa ab M hz am T ax X hj;have ay:z=1000000000:=by
  by_cases e:z=1000000000
  ·exact e
  ·have h1:=ah.o
   rw [if_neg e,ag.o] at h1;injection h1 with _ h1;injection h1 with _ h1;exact absurd h1 bE
 subst ay;have HT:=ag;clear ah;go_wp2_with fail;go_quiet (fail);clear t0 t1 t2 q3 qg;have c0:=B.o.ce 0;have c1:=B.o.ce 1;have c2:=B.o.ce 2;have d0:=D.o.ce 0;have d1:=D.o.ce 1;have f0:=B.o.frozen 0;have f1:=B.o.frozen 1;have f2:=B.o.frozen 2;have g0:=D.o.frozen 0;have g1:=D.o.frozen 1;go_wp2_with fail;exact bodyPost_ret (v:=.tuple #[.agg IY.k,pH #[pE pK 0,I_ 0],I_ 92]) (by simp [results,results154,go_sem,c0,c1,c2,d0,d1]) rfl ⟨_,by rw [HT.o],ae.o 92 w2 nG HT.o _ bY⟩
end
end Go.Proofs.YtjieiikpolahfaaGreatDoor
