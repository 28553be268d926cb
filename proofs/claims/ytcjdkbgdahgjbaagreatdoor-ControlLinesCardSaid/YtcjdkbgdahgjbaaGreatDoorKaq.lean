/- Steps of the proof: SnapD, SnapE, SnapF. -/
import Derived.Test.YtcjdkbgdahgjbaaGreatDoorK0
import Derived.Test.YtcjdkbgdahgjbaaGreatDoorKaa
import Derived.Test.YtcjdkbgdahgjbaaGreatDoorKak
import Derived.Laws.OwnMore
import Derived.Laws.AppendOwn
import Derived.Deep.RegionHeld3
import Derived.Lib.SliceRun
set_option maxRecDepth 100000
set_option maxHeartbeats 8000000
set_option linter.all false
namespace Go.Proofs.YtcjdkbgdahgjbaaGreatDoor
open _root_.Array renaming getElem?_eq_some_iff→Aj,replicate_succ→Bc,replicate_zero→Bd
open _root_.Bool renaming and_assoc→DW
open Builtin renaming append_→Bo
open Ending renaming returned→dM
open Instr renaming findNow→AV,lookup→Dx
open IntKind renaming i64→dN
open Lib renaming run_eql_slice_nil→A2
open _root_.List renaming all_eq_true→BB,append_toArray→B0,cons_append→A6,eq_nil_of_length_eq_zero→Er,getElem?_cons_succ→Al,getElem?_cons_zero→Ah,getElem?_eq_getElem→Au,getElem?_eq_some_iff→Ad,getElem?_take→Ds,getElem?_toArray→Ai,length_append→Ag,length_cons→Ao,length_nil→Eh,map_cons→Cn,mem_map→Ee,nil_append→AX,push_toArray→By,size_toArray→Cx,take_append_drop→Bj,take_of_length_le→Ax,take_succ_eq_append_getElem→AR
open _root_.Nat renaming le_refl→Ap,le_trans→As,zero_add→BI
open Value renaming agg→dK,bool→dL,int→dH,pointer→dJ,slice→dI,string→CZ
open World renaming alloc_heap_new→Ej,putObj_heap_other→A3,putObj_heap_same→D6
section
open Go.RowKit Go.Shelf
attribute [local go_sem] Oper.semAt_some
attribute [local go_sem ↓] Go.wp_at_zero Go.wp_at_succ
theorem Dt{W:World}{D rb:Nat}{t:TypeId}{v:Value}(h:Blk W rb t #[v])(hne:rb≠D):(W.putObj D (.deferred none)).cell? ⟨rb,0,none⟩=some v:=
 Blk.cell (show Blk (W.putObj D (.deferred none)) rb t #[v] from(A3 hne).trans h) 0
theorem P9(L:List Sn)(k:Nat)(h:k<L.length):E3 (L.take (k+1))=(E3 (L.take k)&&Dl L[k].items):=by
 unfold E3;rw [AR h,List.all_append];simp
theorem QY(L:List Sn)(k:Nat)(h:k<L.length)(hb:Dl L[k].items=false):E3 L=false:=by
 apply Bool.eq_false_iff.2;intro ha;unfold E3 at ha;rw [BB] at ha;have:=ha L[k] (List.getElem_mem _);rw [hb] at this;cases this
theorem I8:∀(A B:List Sn) (last:Int),Bq last (A++B)=(Bq last A&&Bq ((A.getLast?.map (·.used)).getD last) B)
 | [],B,last=>by simp [Bq]
 | s::A,B,last=>by
  rw [A6,Bq,Bq,I8 A B s.used,DW]
  congr 2
  rw [List.getLast?_cons];cases A.getLast?<;>rfl
theorem Jl(L:List Sn)(k:Nat)(h:k<L.length):Bq 0 (L.take (k+1))=(Bq 0 (L.take k)&&Gj (Eb (L.take k)) L[k]):=by
 rw [AR h,I8]
 congr 1
 simp [Bq,Eb]
theorem Pw(L:List Sn)(k:Nat)(h:k<L.length)(hb:Gj (Eb (L.take k)) L[k]=false):Bq 0 L=false:=by
 have e:L=L.take (k+1)++L.drop (k+1):=(Bj _ _).symm;rw [e,I8,Jl L k h,hb];simp
def J7(l:List Sn):List Int:=l.map (·.cur)
theorem Iu(next:Int):∀(A B:List Sn) (met:List Int),Ca next met (A++B)=(Ca next met A&&Ca next (met++J7 A) B)
 | [],B,met=>by simp [Ca,J7]
 | s::A,B,met=>by
  rw [A6,Ca,Ca,Iu next A B,DW];simp [J7]
theorem JM(next:Int)(L:List Sn)(k:Nat)(h:k<L.length):Ca next [] (L.take (k+1))=(Ca next [] (L.take k)&&Iy next (J7 (L.take k)) L[k]):=by
 rw [AR h,Iu];simp [Ca]
theorem PK(next:Int)(L:List Sn)(k:Nat)(h:k<L.length)(hb:Iy next (J7 (L.take k)) L[k]=false):Ca next [] L=false:=by
 have e:L=L.take (k+1)++L.drop (k+1):=(Bj _ _).symm;rw [e,Iu,JM next L k h,hb];simp
theorem QZ{L:List Sn}{k:Nat}{s:Sn}(h:L[k]? = some s):E3 (L.take (k+1))=(E3 (L.take k)&&Dl s.items):=by
 obtain⟨hk,rfl⟩:=Ad.1 h;exact P9 L k hk
theorem Tv{L:List Sn}{k:Nat}{s:Sn}(h:L[k]? = some s)(hb:Dl s.items=false):E3 L=false:=by
 obtain⟨hk,rfl⟩:=Ad.1 h;exact QY L k hk hb
theorem Px{L:List Sn}{k:Nat}{s:Sn}(h:L[k]? = some s):Bq 0 (L.take (k+1))=(Bq 0 (L.take k)&&Gj (Eb (L.take k)) s):=by
 obtain⟨hk,rfl⟩:=Ad.1 h;exact Jl L k hk
theorem LB{L:List Sn}{k:Nat}{s:Sn}(h:L[k]? = some s)(hb:Gj (Eb (L.take k)) s=false):Bq 0 L=false:=by
 obtain⟨hk,rfl⟩:=Ad.1 h;exact Pw L k hk hb
theorem PL(next:Int){L:List Sn}{k:Nat}{s:Sn}(h:L[k]? = some s):Ca next [] (L.take (k+1))=(Ca next [] (L.take k)&&Iy next (J7 (L.take k)) s):=by
 obtain⟨hk,rfl⟩:=Ad.1 h;exact JM next L k hk
theorem RM(next:Int){L:List Sn}{k:Nat}{s:Sn}(h:L[k]? = some s)(hb:Iy next (J7 (L.take k)) s=false):Ca next [] L=false:=by
 obtain⟨hk,rfl⟩:=Ad.1 h;exact PK next L k hk hb
theorem Ol(a:Option Addr)(c:Nat)(p:Po)(n:Nat)(hn:p.l.length=n)(hl:n≤1000000)(b:Bool)(hb:FW p=b)(w:World):
  Calls Tryz.prog 97 #[dK #[dI a n c,dH dN p.next]] w fun r w'=>r = dM (dL b)∧Aa [] w w':=by
 unfold FW at hb;rw [hn] at hb;obtain⟨x,hx⟩:=eX (p.next);rw [hx] at hb ⊢;clear hx hn;have HB:=lH hb;clear hb;by_cases h1:1≤x
 ·by_cases h2:x≤1000000000000
  ·by_cases h3:n≤3
   ·obtain rfl:b=true:=by rw [← HB.out];simp [h1,h2,h3]
    have h3':(n:Int)≤3:=by omega
    go_enter Tryz.func97,Tryz.ntmps97;go_wp2;go_ret;exact⟨rfl,(Aa.refl [] w).alloc _⟩
   ·obtain rfl:b=false:=by rw [← HB.out];simp;omega
    have h3':¬(n:Int)≤3:=by omega
    go_enter Tryz.func97,Tryz.ntmps97;go_wp2;go_ret;exact⟨rfl,(Aa.refl [] w).alloc _⟩
  ·obtain rfl:b=false:=by rw [← HB.out];simp;omega
   go_enter Tryz.func97,Tryz.ntmps97;go_wp2;go_ret;exact⟨rfl,(Aa.refl [] w).alloc _⟩
 ·obtain rfl:b=false:=by rw [← HB.out];simp;omega
  go_enter Tryz.func97,Tryz.ntmps97;go_wp2;go_ret;exact⟨rfl,(Aa.refl [] w).alloc _⟩
theorem Nm(a:Option Addr)(c:Nat)(next:Int)(V:List SV)(L:List Sn)(hV:V.length≤1000000)(w:World)(hR:Fd w a V)(hM:Mt w V L)(B:Bool)(hB:E3 L=B):
  Calls Tryz.prog 100 #[dK #[dI a V.length c,dH dN next]] w fun r w'=>r = dM (dL B)∧Aa [] w w':=by
 refine(callsIn_wide (n:=9)).1 ?_;have HBB:=lH hB;have HR:=lH hR;have HM:=lH hM;obtain⟨N,hN⟩:=eX (V.length);have HN:=lH hN;rw [hN] at hV ⊢;clear hB hR hM hN;refine callsIn_of_wp_marks Tryz.func100 rfl trivial ?_ rfl;simp only [Tryz.ntmps100,Cx,Ao,Eh,Nat.reduceAdd,Nat.reduceSub,Bc,Bd,By,B0,AX,A6];gi_wp2_with (fail);refine⟨trivial,(callsIn_wide.2 (Gg _ _ _ _ _)).mono ?_⟩;rintro e w1 ⟨rfl,rfl⟩;gi_wp2_with (fail);obtain⟨W0,hW0⟩:=eX ((((w.alloc (.cells #[dI a N c,dH dN next] 188)).alloc (.cells #[dL false] 4)).alloc (.cells #[dI a N c,dH dN next] 188)));have hs0:W0.heap.size=w.heap.size+3:=by rw [← hW0];simp
 have hB0:Below w.heap.size w W0:=by
  rw [← hW0];exact((((Below.refl _ w).alloc (Ap _) _).alloc Wj _).alloc Wj _)
 have b1:Blk W0 (w.heap.size+1) 4 #[dL false]:=by
  rw [← hW0];exact((Aq _ _ _ _ bA).alloc _)
 have bp:W0.cell? ⟨w.heap.size+1+1,0,none⟩=some (dI a V.length c):=by
  rw [← hW0,HN.out];exact(Aq _ 188 _ _ bA).cell 0
 rw [hW0];clear hW0;try clear hmm
 refine Ew rfl bB (gf:=213) (lb:=#[dJ (some ⟨w.heap.size+1+1,0,none⟩)]) rfl trivial (enters_of Tryz.func213 bC rfl) (Gh 8 (w.heap.size+1+1) a c V Z0 W0 bp) (Below.refl _ _) (fun _=>rfl)
  (fun pre A=>Below w.heap.size w A∧Blk A (w.heap.size+1) 4 #[dL false]∧E3 (L.take pre.length)=true) (fun pre A=>Below w.heap.size w A∧Blk A (w.heap.size+1) 4 #[dL false]∧E3 L=false)
  (fun s A A' h hb=>⟨h.1.trans (hb.mono bB),Cl h.2.1 bB hb,h.2.2⟩) (fun s A A' h hb=>⟨h.1.trans (hb.mono bB),Cl h.2.1 bB hb,h.2.2⟩)
  (fun s A h=>HR.out.keeps (Aa.of_below h.1 [])) ⟨hB0,b1,rfl⟩
  (fun x b=>{ tmps:=#[dK #[dI a N c,dH dN next],dJ (some ⟨w,0,none⟩),dJ (some ⟨w.heap.size+1,0,none⟩),undef,dJ (some ⟨b,0,none⟩),dK #[dI a N c,dH dN next],.func (.func 213) #[] #[dJ (some ⟨w.heap.size+1+1,0,none⟩)],dH dN (x.2:Int),dK (N_ x.1),undef,undef,undef,undef],defers:=[] })
  (fun x=>.cells (N_ x.1) 43) ?assign ?body ?done ?stop
 case assign=>
  intro l x W K hK;unfold JU;gi_wp2;exact hK
 case body=>
  rintro l pre x b W ⟨hB,hI⟩ hpre hb hbx;obtain⟨hk,hpr,rfl⟩:=Ky hpre;obtain⟨k,hkk⟩:=eX (pre.length);have hkL:k<L.length:=by rw [← HM.out.len,← hkk];exact hk
  have hm0:=HM.out.get pre.length hk Z3;obtain⟨y,hy⟩:=eX (V[pre.length]);obtain⟨s,hs⟩:=eX (L[k]);have hm:Nc w y s:=by
   simp only [hkk] at hm0 hy;rw [hy,hs] at hm0;exact hm0
  clear hm0;have hb2:Blk W b 43 (N_ y):=by
   have:=hbx;simp only [hy] at this;exact this
  simp only [hy];have hlen1:(pre++[(y,pre.length)]).length=k+1:=by rw [Ag,hkk];rfl
  rw [hy] at hpre;clear hbx;have HS:Hid (L[k]? = some s):=lH Zs;have HL1:=lH hlen1;have HKK:=lH hkk;have hs1:w.heap.size+3≤W0.heap.size:=by omega
  clear hs hlen1 hpr hk hpre hkL hy hkk hs0 hB0 bp;have HW:=lH (hm.2.2.2.keeps (Aa.of_below hB []));have hil:=hm.2.2.1;have d1:=hb2.cell 1;obtain⟨c1,hall⟩:=hI;have HI:=lH hall;have HB:=lH hB;have HC:=lH c1;have HIL:=lH hil;clear hm hB c1 hall hb2 hil;have HWN:=HW.out.small;rw [HIL.out] at d1;cases hq:Dl s.items with
  | true=>
   have HQ:=lH hq;clear hq;gi_wp2_with (fail);refine⟨trivial,(callsIn_wide.2 (Fl _ _ s.items true HQ.out _ HW.out.at_ HW.out.small HW.out.size)).mono ?_⟩;rintro e w2 ⟨rfl,hk⟩;gi_wp2;refine⟨BZ.of_keeps hk bA,HB.out.trans (hk.below HB.out.size bA),HC.out.keeps hk bA,?_⟩;rw [HL1.out,QZ HS.out,HQ.out,← HKK.out,HI.out];rfl
  | false=>
   have HQ:=lH hq;clear hq;gi_wp2_with (fail);refine⟨trivial,(callsIn_wide.2 (Fl _ _ s.items false HQ.out _ HW.out.at_ HW.out.small HW.out.size)).mono ?_⟩;rintro e w2 ⟨rfl,hk⟩;have hc2:=HC.out.keeps hk bA;have e1:w2.cell? ⟨w.heap.size+1,0,none⟩=some (dL false):=hc2.cell 0;have f1:=hc2.frozen 0;have HC2:=lH hc2;have HK2:=lH hk;clear hk hc2;gi_wp2;exact⟨(BZ.of_keeps HK2.out bA).trans (BZ.setCell (p:=⟨w.heap.size+1,0,none⟩) bH _ _),(HB.out.trans (HK2.out.below HB.out.size bA)).setCell (p:=⟨w.heap.size+1,0,none⟩) bH _,HC2.out.set_ 0 _,Tv HS.out HQ.out⟩
 case done=>
  rintro D W hD ⟨hB,hI⟩ hK;have hD2:w.heap.size+3≤D:=by omega
  have hzl:V.zipIdx.length=L.length:=by rw [List.length_zipIdx];exact HM.out.len
  obtain rfl:B=true:=by rw [← HBB.out];have:=hI.2;rwa [hzl,Ax (Ap _)] at this
  have c1:=hI.1;have e1:W.cell? ⟨w.heap.size+1,0,none⟩=some (dL false):=c1.cell 0;have f1:=c1.frozen 0;have HC:=lH (c1.set_ 0 (dL true));have HB:=lH (hB.setCell (p:=⟨w.heap.size+1,0,none⟩) bH (dL true));have hK1:(W.setCell ⟨w.heap.size+1,0,none⟩ (dL true)).heap[D]? = some (.deferred (some [])):=by
   rw [Below.heap_setCell _ _ _ _ bH];exact hK
  clear hI c1 hB hK hs0 hB0 hzl;gi_wp2;refine⟨by simp,.inl ⟨_,_,rfl,run_takeDeferred hK1,?_⟩⟩;have q1:=Dt HC.out (D:=D) bB;have q1:_=some (dL true):=q1;refine⟨dL true,by simp [results,Tryz.results100,go_sem,q1],rfl,Aa.of_below (HB.out.trans (belowK_b (n₀:=w.heap.size) (w:=w) (Ap _) _ D _ _ bB hK1 rfl rfl)) []⟩
 case stop=>
  rintro D pre W hD _ ⟨hB,c2,hx⟩ hK;have hD2:w.heap.size+3≤D:=by omega
  obtain rfl:B=false:=by rw [← HBB.out];exact hx
  have HB:=lH hB;clear hB hs0 hB0;gi_wp2;refine⟨by simp,.inl ⟨_,_,rfl,run_takeDeferred hK,?_⟩⟩;have q1:=Dt c2 (D:=D) bB;refine⟨dL false,by simp [results,Tryz.results100,go_sem,q1],rfl,Aa.of_below (HB.out.trans (belowK_b (n₀:=w.heap.size) (w:=w) (Ap _) _ D _ _ bB hK rfl rfl)) []⟩
def GU(A:World)(b:Nat)(met:List Int):Prop:=∃es c,A.heap[b]? = some (.map es c)∧es.toList.map (fun e=>(e.key,e.val))=met.map fun m=>(dH .i64 m,dL true)
theorem L9(k:Int):∀(es:List MapEntry) (met:List Int) (i:Nat),es.map (fun e=>(e.key,e.val))=met.map (fun m=>(dH .i64 m,dL true))→
  (met.contains k=true∧∃j,AV (.int .i64) (dH dN k) es i=some (some (j,dL true)))∨(met.contains k=false∧AV (.int .i64) (dH dN k) es i=some none)
 | [],[],_,_=>.inr ⟨rfl,rfl⟩
 | e::es,m::met,i,h=>by
  rw [Cn,Cn] at h;injection h with h1 h2
  injection h1 with hk hv
  by_cases hkm:k=m
  ·subst hkm
   exact .inl ⟨by simp,i,by simp [AV,hk,hv,Instr.sameNow]⟩
  ·have hn:(k==m)=false:=by simp [hkm]
   rcases L9 k es met (i+1) h2 with⟨h3,j,h4⟩ | ⟨h3,h4⟩
   ·exact .inl ⟨by rw [List.contains_cons,h3];simp,j,by simp [AV,hk,Instr.sameNow,hn,h4]⟩
   ·exact .inr ⟨by rw [List.contains_cons,h3];simp [hkm],by simp [AV,hk,Instr.sameNow,hn,h4]⟩
 | [],_::_,_,h=>by cases h
 | _::_,[],_,h=>by cases h
theorem GU.look{A:World}{b:Nat}{met:List Int}(h:GU A b met)(k:Int):(Dx 110 (.map (some b)) (dH dN k) false).run Tryz.prog A = .ok (dL (met.contains k)) A:=by
 obtain⟨es,c,hb,he⟩:=h;have hz:(zeroValue 4).run Tryz.prog A = .ok (dL false) A:=by kernel_rfl
 rcases L9 k es.toList met 0 he with⟨h1,j,h2⟩ | ⟨h1,h2⟩
 ·rw [(CY Tryz.underlying110 Tryz.underlying3 hb bS h2).2,h1]
 ·rw [(Eg Tryz.underlying110 Tryz.underlying3 hb bS h2 hz).2,h1]
theorem GU.update{A:World}{b:Nat}{met:List Int}(h:GU A b met)(k:Int)(hk:met.contains k=false):∃o,(Instr.mapUpdate 110 (.map (some b)) (dH dN k) (dL true)).run Tryz.prog A = .ok () (A.putObj b o)∧GU (A.putObj b o) b (met++[k]):=by
 obtain⟨es,c,hb,he⟩:=h;rcases L9 k es.toList met 0 he with⟨h1,_⟩ | ⟨_,h2⟩
 ·rw [hk] at h1;cases h1
 ·refine⟨_,CR Tryz.underlying110 Tryz.underlying3 hb bS h2,_,_,D6 (Aj.1 hb).1,?_⟩
  simp [he]
theorem GU.low{B:Nat}{A A':World}{b:Nat}{met:List Int}(h:GU A b met)(hg:b<B)(hb:Below B A A'):GU A' b met:=by
 obtain⟨es,c,h1,h2⟩:=h;exact⟨es,c,(hb.block _ hg).trans h1,h2⟩
theorem Q0{L:List Sn}{k:Nat}{s:Sn}(h:L[k]? = some s):Eb (L.take (k+1))=s.used:=by
 obtain⟨hk,rfl⟩:=Ad.1 h;rw [AR hk,Qz]
theorem Uk{L:List Sn}{k:Nat}{s:Sn}(h:L[k]? = some s):J7 (L.take (k+1))=J7 (L.take k)++[s.cur]:=by
 obtain⟨hk,rfl⟩:=Ad.1 h;unfold J7;rw [AR hk,List.map_append];rfl
theorem LW(a:Option Addr)(c:Nat)(next:Int)(V:List SV)(L:List Sn)(hV:V.length≤1000000)(w:World)(hR:Fd w a V)(hM:Mt w V L)(B:Bool)(hB:Bq 0 L=B):
  Calls Tryz.prog 99 #[dK #[dI a V.length c,dH dN next]] w fun r w'=>r = dM (dL B)∧Aa [] w w':=by
 refine(callsIn_wide (n:=9)).1 ?_;have HBB:=lH hB;have HR:=lH hR;have HM:=lH hM;obtain⟨N,hN⟩:=eX (V.length);have HN:=lH hN;rw [hN] at hV ⊢;clear hB hR hM hN;refine callsIn_of_wp_marks Tryz.func99 rfl trivial ?_ rfl;simp only [Tryz.ntmps99,Cx,Ao,Eh,Nat.reduceAdd,Nat.reduceSub,Bc,Bd,By,B0,AX,A6];gi_wp2_with (fail);refine⟨trivial,(callsIn_wide.2 (Gg _ _ _ _ _)).mono ?_⟩;rintro e w1 ⟨rfl,rfl⟩;gi_wp2_with (fail);obtain⟨W0,hW0⟩:=eX (((((w.alloc (.cells #[dI a N c,dH dN next] 188)).alloc (.cells #[dL false] 4)).alloc (.cells #[dH dN 0] 3)).alloc (.cells #[dI a N c,dH dN next] 188)));have hs0:W0.heap.size=w.heap.size+4:=by rw [← hW0];simp
 have hB0:Below w.heap.size w W0:=by
  rw [← hW0];exact(((((Below.refl _ w).alloc (Ap _) _).alloc Wj _).alloc Wj _).alloc Wj _)
 have b1:Blk W0 (w.heap.size+1) 4 #[dL false]:=by
  rw [← hW0];exact(((Aq _ _ _ _ bA).alloc _).alloc _)
 have b3:Blk W0 (w.heap.size+1+1) 3 #[dH dN 0]:=by
  rw [← hW0];exact((Aq _ _ _ _ bA).alloc _)
 have bp:W0.cell? ⟨w.heap.size+1+1+1,0,none⟩=some (dI a V.length c):=by
  rw [← hW0,HN.out];exact(Aq _ 188 _ _ bA).cell 0
 rw [hW0];clear hW0;try clear hmm
 refine Ew rfl bB (gf:=213) (lb:=#[dJ (some ⟨w.heap.size+1+1+1,0,none⟩)]) rfl trivial (enters_of Tryz.func213 bC rfl) (Gh 8 (w.heap.size+1+1+1) a c V Z0 W0 bp) (Below.refl _ _) (fun _=>rfl)
  (fun pre A=>Below w.heap.size w A∧Blk A (w.heap.size+1) 4 #[dL false]∧Blk A (w.heap.size+1+1) 3 #[dH dN (Eb (L.take pre.length))]∧Bq 0 (L.take pre.length)=true) (fun pre A=>Below w.heap.size w A∧Blk A (w.heap.size+1) 4 #[dL false]∧Bq 0 L=false)
  (fun s A A' h hb=>⟨h.1.trans (hb.mono bB),Cl h.2.1 bB hb,Cl h.2.2.1 bB hb,h.2.2.2⟩) (fun s A A' h hb=>⟨h.1.trans (hb.mono bB),Cl h.2.1 bB hb,h.2.2⟩)
  (fun s A h=>HR.out.keeps (Aa.of_below h.1 [])) ⟨hB0,b1,b3,rfl⟩
  (fun x b=>{ tmps:=#[dK #[dI a N c,dH dN next],dJ (some ⟨w,0,none⟩),dJ (some ⟨w.heap.size+1,0,none⟩),dJ (some ⟨w.heap.size+1+1,0,none⟩),undef,dJ (some ⟨b,0,none⟩),dK #[dI a N c,dH dN next],.func (.func 213) #[] #[dJ (some ⟨w.heap.size+1+1+1,0,none⟩)],dH dN (x.2:Int),dK (N_ x.1),undef,undef,undef,undef,undef,undef,undef,undef,undef,undef,undef],defers:=[] })
  (fun x=>.cells (N_ x.1) 43) ?assign ?body ?done ?stop
 case assign=>
  intro l x W K hK;unfold JU;gi_wp2;exact hK
 case body=>
  rintro l pre x b W ⟨hB,hI⟩ hpre hb hbx;obtain⟨hk,hpr,rfl⟩:=Ky hpre;obtain⟨k,hkk⟩:=eX (pre.length);have hkL:k<L.length:=by rw [← HM.out.len,← hkk];exact hk
  have hm0:=HM.out.get pre.length hk Z3;obtain⟨y,hy⟩:=eX (V[pre.length]);obtain⟨s,hs⟩:=eX (L[k]);have hm:Nc w y s:=by
   simp only [hkk] at hm0 hy;rw [hy,hs] at hm0;exact hm0
  clear hm0;have hb2:Blk W b 43 (N_ y):=by
   have:=hbx;simp only [hy] at this;exact this
  simp only [hy];have hlen1:(pre++[(y,pre.length)]).length=k+1:=by rw [Ag,hkk];rfl
  rw [hy] at hpre;clear hbx;have HS:Hid (L[k]? = some s):=lH Zs;have HL1:=lH hlen1;have HKK:=lH hkk;have hs1:w.heap.size+4≤W0.heap.size:=by omega
  clear hs hlen1 hpr hk hpre hkL hy hkk hs0 hB0 bp;have hus:=hm.2.1;obtain⟨c1,c3,hall⟩:=hI;obtain⟨u,hu⟩:=eX (y.used);obtain⟨la,hla⟩:=eX (Eb (L.take pre.length));rw [hla] at c3;have d2:W.cell? ⟨b,2,none⟩=some (dH dN u):=by rw [← hu];exact hb2.cell 2
  have e1:W.cell? ⟨w.heap.size+1,0,none⟩=some (dL false):=c1.cell 0;have f1:=c1.frozen 0;have e3:W.cell? ⟨w.heap.size+1+1,0,none⟩=some (dH dN la):=c3.cell 0;have f3:=c3.frozen 0;have HI:=lH hall;have HB:=lH hB;have HC:=lH c1;have HC3:=lH c3;have HLA:=lH hla;have HUS:Hid (u=s.used):=lH (by rw [← hu];exact hus);have HU:=lH hu;clear hm hB c1 c3 hall hb2 hus hla hu;by_cases hq1:u<la
  ·have hbad:Gj la s=false:=by unfold Gj;rw [← HUS.out];simp;omega
   have HBAD:=lH hbad;clear hbad;gi_wp2;exact⟨BZ.setCell (p:=⟨w.heap.size+1,0,none⟩) bH _ _,HB.out.setCell (p:=⟨w.heap.size+1,0,none⟩) bH _,HC.out.set_ 0 _,LB HS.out (by rw [← HKK.out,HLA.out];exact HBAD.out)⟩
  ·by_cases hq2:1000000000000<u
   ·have hbad:Gj la s=false:=by unfold Gj;rw [← HUS.out];simp;omega
    have HBAD:=lH hbad;clear hbad;gi_wp2;exact⟨BZ.setCell (p:=⟨w.heap.size+1,0,none⟩) bH _ _,HB.out.setCell (p:=⟨w.heap.size+1,0,none⟩) bH _,HC.out.set_ 0 _,LB HS.out (by rw [← HKK.out,HLA.out];exact HBAD.out)⟩
   ·have hok:Gj la s=true:=by unfold Gj;rw [← HUS.out];simp;omega
    have HOK:=lH hok;clear hok;gi_wp2;refine⟨BZ.setCell (p:=⟨w.heap.size+1+1,0,none⟩) bH _ _,HB.out.setCell (p:=⟨w.heap.size+1+1,0,none⟩) bH _,HC.out.far (p:=⟨w.heap.size+1+1,0,none⟩) bH _,?_,?_⟩
    ·rw [HL1.out,Q0 HS.out,← HUS.out];exact HC3.out.set_ 0 _
    ·rw [HL1.out,Px HS.out,← HKK.out,HLA.out,HOK.out,HI.out];rfl
 case done=>
  rintro D W hD ⟨hB,hI⟩ hK;have hD2:w.heap.size+4≤D:=by omega
  have hzl:V.zipIdx.length=L.length:=by rw [List.length_zipIdx];exact HM.out.len
  obtain rfl:B=true:=by rw [← HBB.out];have:=hI.2.2;rwa [hzl,Ax (Ap _)] at this
  have c1:=hI.1;have e1:W.cell? ⟨w.heap.size+1,0,none⟩=some (dL false):=c1.cell 0;have f1:=c1.frozen 0;have HC:=lH (c1.set_ 0 (dL true));have HB:=lH (hB.setCell (p:=⟨w.heap.size+1,0,none⟩) bH (dL true));have hK1:(W.setCell ⟨w.heap.size+1,0,none⟩ (dL true)).heap[D]? = some (.deferred (some [])):=by
   rw [Below.heap_setCell _ _ _ _ bH];exact hK
  clear hI c1 hB hK hs0 hB0 hzl;gi_wp2;refine⟨by simp,.inl ⟨_,_,rfl,run_takeDeferred hK1,?_⟩⟩;have q1:=Dt HC.out (D:=D) bB;have q1:_=some (dL true):=q1;refine⟨dL true,by simp [results,Tryz.results99,go_sem,q1],rfl,Aa.of_below (HB.out.trans (belowK_b (n₀:=w.heap.size) (w:=w) (Ap _) _ D _ _ bB hK1 rfl rfl)) []⟩
 case stop=>
  rintro D pre W hD _ ⟨hB,c2,hx⟩ hK;have hD2:w.heap.size+4≤D:=by omega
  obtain rfl:B=false:=by rw [← HBB.out];exact hx
  have HB:=lH hB;clear hB hs0 hB0;gi_wp2;refine⟨by simp,.inl ⟨_,_,rfl,run_takeDeferred hK,?_⟩⟩;have q1:=Dt c2 (D:=D) bB;refine⟨dL false,by simp [results,Tryz.results99,go_sem,q1],rfl,Aa.of_below (HB.out.trans (belowK_b (n₀:=w.heap.size) (w:=w) (Ap _) _ D _ _ bB hK rfl rfl)) []⟩
theorem Nk(a:Option Addr)(c:Nat)(next:Int)(V:List SV)(L:List Sn)(hV:V.length≤1000000)(w:World)(hR:Fd w a V)(hM:Mt w V L)(B:Bool)(hB:Ca next [] L=B):
  Calls Tryz.prog 98 #[dK #[dI a V.length c,dH dN next]] w fun r w'=>r = dM (dL B)∧Aa [] w w':=by
 refine(callsIn_wide (n:=9)).1 ?_;have HBB:=lH hB;have HR:=lH hR;have HM:=lH hM;obtain⟨N,hN⟩:=eX (V.length);have HN:=lH hN;rw [hN] at hV ⊢;clear hB hR hM hN;have hmm:=fun W=>run_makeMap (P:=Tryz.prog) 110 W;refine callsIn_of_wp_marks Tryz.func98 rfl trivial ?_ rfl;simp only [Tryz.ntmps98,Cx,Ao,Eh,Nat.reduceAdd,Nat.reduceSub,Bc,Bd,By,B0,AX,A6];gi_wp2_with (fail);refine⟨trivial,(callsIn_wide.2 (Gg _ _ _ _ _)).mono ?_⟩;rintro e w1 ⟨rfl,rfl⟩;gi_wp2_with (fail);obtain⟨W0,hW0⟩:=eX ((((((w.alloc (.cells #[dI a N c,dH dN next] 188)).alloc (.cells #[dL false] 4)).alloc (.map #[] 0)).alloc (.cells #[.map (some (w.heap.size+1+1))] 110)).alloc (.cells #[dI a N c,dH dN next] 188)));have hs0:W0.heap.size=w.heap.size+5:=by rw [← hW0];simp
 have hB0:Below w.heap.size w W0:=by
  rw [← hW0];exact((((((Below.refl _ w).alloc (Ap _) _).alloc Wj _).alloc Wj _).alloc Wj _).alloc Wj _)
 have b0:Blk W0 (w.heap.size) 188 #[dI a N c,dH dN next]:=by
  rw [← hW0];exact((((Aq _ _ _ _ rfl).alloc _).alloc _).alloc _).alloc _
 have b1:Blk W0 (w.heap.size+1) 4 #[dL false]:=by
  rw [← hW0];exact((((Aq _ _ _ _ bA).alloc _).alloc _).alloc _)
 have bs:GU W0 (w.heap.size+1+1) []:=by
  rw [← hW0];refine⟨#[],0,?_,rfl⟩;rw [Below.heap_alloc _ _ _ bA,Below.heap_alloc _ _ _ bA];have:=Ej ((w.alloc (.cells #[dI a N c,dH dN next] 188)).alloc (.cells #[dL false] 4)) (.map #[] 0);simpa only [World.size_alloc] using this
 have b3:Blk W0 (w.heap.size+1+1+1) 110 #[.map (some (w.heap.size+1+1))]:=by
  rw [← hW0];exact((Aq _ _ _ _ bA).alloc _)
 have bp:W0.cell? ⟨w.heap.size+1+1+1+1,0,none⟩=some (dI a V.length c):=by
  rw [← hW0,HN.out];exact(Aq _ 188 _ _ bA).cell 0
 rw [hW0];clear hW0;try clear hmm
 refine Ew rfl bB (gf:=213) (lb:=#[dJ (some ⟨w.heap.size+1+1+1+1,0,none⟩)]) rfl trivial (enters_of Tryz.func213 bC rfl) (Gh 8 (w.heap.size+1+1+1+1) a c V Z0 W0 bp) (Below.refl _ _) (fun _=>rfl)
  (fun pre A=>Below w.heap.size w A∧Blk A (w.heap.size+1) 4 #[dL false]∧Blk A (w.heap.size+1+1+1) 110 #[.map (some (w.heap.size+1+1))]∧Blk A w.heap.size 188 #[dI a N c,dH dN next]∧GU A (w.heap.size+1+1) (J7 (L.take pre.length))∧Ca next [] (L.take pre.length)=true) (fun pre A=>Below w.heap.size w A∧Blk A (w.heap.size+1) 4 #[dL false]∧Ca next [] L=false)
  (fun s A A' h hb=>⟨h.1.trans (hb.mono bB),Cl h.2.1 bB hb,Cl h.2.2.1 bB hb,Cl h.2.2.2.1 bB hb,h.2.2.2.2.1.low bB hb,h.2.2.2.2.2⟩) (fun s A A' h hb=>⟨h.1.trans (hb.mono bB),Cl h.2.1 bB hb,h.2.2⟩)
  (fun s A h=>HR.out.keeps (Aa.of_below h.1 [])) ⟨hB0,b1,b3,b0,bs,rfl⟩
  (fun x b=>{ tmps:=#[dK #[dI a N c,dH dN next],dJ (some ⟨w,0,none⟩),dJ (some ⟨w.heap.size+1,0,none⟩),dJ (some ⟨w.heap.size+1+1+1,0,none⟩),undef,dJ (some ⟨b,0,none⟩),.map (some (w.heap.size+1+1)),dK #[dI a N c,dH dN next],.func (.func 213) #[] #[dJ (some ⟨w.heap.size+1+1+1+1,0,none⟩)],dH dN (x.2:Int),dK (N_ x.1),undef,undef,undef,undef,undef,undef,undef,undef,undef,undef,undef,undef,undef,undef,undef,undef,undef,undef,undef,undef],defers:=[] })
  (fun x=>.cells (N_ x.1) 43) ?assign ?body ?done ?stop
 case assign=>
  intro l x W K hK;unfold JU;gi_wp2;exact hK
 case body=>
  rintro l pre x b W ⟨hB,hI⟩ hpre hb hbx;obtain⟨hk,hpr,rfl⟩:=Ky hpre;obtain⟨k,hkk⟩:=eX (pre.length);have hkL:k<L.length:=by rw [← HM.out.len,← hkk];exact hk
  have hm0:=HM.out.get pre.length hk Z3;obtain⟨y,hy⟩:=eX (V[pre.length]);obtain⟨s,hs⟩:=eX (L[k]);have hm:Nc w y s:=by
   simp only [hkk] at hm0 hy;rw [hy,hs] at hm0;exact hm0
  clear hm0;have hb2:Blk W b 43 (N_ y):=by
   have:=hbx;simp only [hy] at this;exact this
  simp only [hy];have hlen1:(pre++[(y,pre.length)]).length=k+1:=by rw [Ag,hkk];rfl
  rw [hy] at hpre;clear hbx;have HS:Hid (L[k]? = some s):=lH Zs;have HL1:=lH hlen1;have HKK:=lH hkk;have hs1:w.heap.size+5≤W0.heap.size:=by omega
  clear hs hlen1 hpr hk hpre hkL hy hkk hs0 hB0 bp;have hcu:=hm.1;obtain⟨c1,c3,c0,hset,hall⟩:=hI;obtain⟨u,hu⟩:=eX (y.cur);obtain⟨la,hla⟩:=eX (J7 (L.take pre.length));rw [hla] at hset;have d0:W.cell? ⟨b,0,none⟩=some (dH dN u):=by rw [← hu];exact hb2.cell 0
  have e1:W.cell? ⟨w.heap.size+1,0,none⟩=some (dL false):=c1.cell 0;have f1:=c1.frozen 0;have e3:W.cell? ⟨w.heap.size+1+1+1,0,none⟩=some (.map (some (w.heap.size+1+1))):=c3.cell 0;have e0:W.cell? ⟨w,1,none⟩=some (dH dN next):=c0.cell 1;have hlk:=hset.look u;have HI:=lH hall;have HB:=lH hB;have HC:=lH c1;have HC3:=lH c3;have HC0:=lH c0;have HSET:=lH hset;have HLA:=lH hla;have HUS:Hid (u=s.cur):=lH (by rw [← hu];exact hcu);clear hm hB c1 c3 c0 hall hb2 hcu hla hu hset;have fin:Iy next la s=false→Vs W0.heap.size (fun pre A=>Below w.heap.size w A∧Blk A (w.heap.size+1) 4 #[dL false]∧Blk A (w.heap.size+1+1+1) 110 #[.map (some (w.heap.size+1+1))]∧Blk A w.heap.size 188 #[dI a N c,dH dN next]∧GU A (w.heap.size+1+1) (J7 (L.take pre.length))∧Ca next [] (L.take pre.length)=true) (fun pre A=>Below w.heap.size w A∧Blk A (w.heap.size+1) 4 #[dL false]∧Ca next [] L=false) (pre++[(y,pre.length)]) W .ret { tmps:=#[],defers:=[] } (W.setCell ⟨w.heap.size+1,0,none⟩ (dL false)):=fun hbad=>
   ⟨BZ.setCell (p:=⟨w.heap.size+1,0,none⟩) bH _ _,HB.out.setCell (p:=⟨w.heap.size+1,0,none⟩) bH _,HC.out.set_ 0 _,RM next HS.out (by rw [← HKK.out,HLA.out];exact hbad)⟩
  have HFIN:=lH fin;clear fin;cases hq0:la.contains u with
  | true=>
   rw [hq0] at hlk;have HBAD:Hid (Iy next la s=false):=lH (by unfold Iy;rw [← HUS.out,hq0];rfl);clear hq0;gi_wp2;exact HFIN.out HBAD.out
  | false=>
   rw [hq0] at hlk;by_cases hq1:u<1
   ·have HBAD:Hid (Iy next la s=false):=lH (by unfold Iy;rw [← HUS.out];simp;omega)
    clear hq0;gi_wp2;exact HFIN.out HBAD.out
   ·by_cases hq2:next≤u
    ·have HBAD:Hid (Iy next la s=false):=lH (by unfold Iy;rw [← HUS.out];simp;omega)
     clear hq0;gi_wp2;exact HFIN.out HBAD.out
    ·have HOK:Hid (Iy next la s=true):=lH (by unfold Iy;rw [← HUS.out,hq0];simp;omega)
     obtain⟨o,hup,hset2⟩:=HSET.out.update u hq0;have HS2:=lH hset2;have hPlt:w.heap.size+1+1<W.heap.size:=by obtain⟨es,cc,hx,_⟩:=HSET.out;exact(Aj.1 hx).1
     have HPL:=lH hPlt;clear hq0 hset2 hPlt;gi_wp2;refine⟨BZ.putObj bB _ _,HB.out.trans ((Below.refl _ W).grown (grownBy_putObj' W _ _) HB.out.size (fun j e=>by cases e;omega)),?_,?_,?_,?_,?_⟩
     ·exact(A3 bB).trans HC.out
     ·exact(A3 bB).trans HC3.out
     ·exact(A3 bB).trans HC0.out
     ·rw [HL1.out,Uk HS.out,← HKK.out,HLA.out,← HUS.out];exact HS2.out
     ·rw [HL1.out,PL next HS.out,← HKK.out,HLA.out,HOK.out,HI.out];rfl
 case done=>
  rintro D W hD ⟨hB,hI⟩ hK;have hD2:w.heap.size+5≤D:=by omega
  have hzl:V.zipIdx.length=L.length:=by rw [List.length_zipIdx];exact HM.out.len
  obtain rfl:B=true:=by rw [← HBB.out];have:=hI.2.2.2.2;rwa [hzl,Ax (Ap _)] at this
  have c1:=hI.1;have e1:W.cell? ⟨w.heap.size+1,0,none⟩=some (dL false):=c1.cell 0;have f1:=c1.frozen 0;have HC:=lH (c1.set_ 0 (dL true));have HB:=lH (hB.setCell (p:=⟨w.heap.size+1,0,none⟩) bH (dL true));have hK1:(W.setCell ⟨w.heap.size+1,0,none⟩ (dL true)).heap[D]? = some (.deferred (some [])):=by
   rw [Below.heap_setCell _ _ _ _ bH];exact hK
  clear hI c1 hB hK hs0 hB0 hzl;gi_wp2;refine⟨by simp,.inl ⟨_,_,rfl,run_takeDeferred hK1,?_⟩⟩;have q1:=Dt HC.out (D:=D) bB;have q1:_=some (dL true):=q1;refine⟨dL true,by simp [results,Tryz.results98,go_sem,q1],rfl,Aa.of_below (HB.out.trans (belowK_b (n₀:=w.heap.size) (w:=w) (Ap _) _ D _ _ bB hK1 rfl rfl)) []⟩
 case stop=>
  rintro D pre W hD _ ⟨hB,c2,hx⟩ hK;have hD2:w.heap.size+5≤D:=by omega
  obtain rfl:B=false:=by rw [← HBB.out];exact hx
  have HB:=lH hB;clear hB hs0 hB0;gi_wp2;refine⟨by simp,.inl ⟨_,_,rfl,run_takeDeferred hK,?_⟩⟩;have q1:=Dt c2 (D:=D) bB;refine⟨dL false,by simp [results,Tryz.results98,go_sem,q1],rfl,Aa.of_below (HB.out.trans (belowK_b (n₀:=w.heap.size) (w:=w) (Ap _) _ D _ _ bB hK rfl rfl)) []⟩
end
section
open Go.RowKit Go.Shelf
attribute [local go_sem ↓] Go.wp_at_zero Go.wp_at_succ
def GX:Array Value:=#[.func (.func 97) #[] #[],.func (.func 98) #[] #[],.func (.func 99) #[] #[],.func (.func 100) #[] #[]]
theorem Sz(a:Option Addr)(c:Nat)(V:List SV)(p:Po)(n:Nat)(hn:V.length=n)(fb:Nat)(ty:TypeId)(w:World)(hP:BF w a c V p)(hf:Blk w fb ty GX)(R:Bool)(hR:DC p=R):
  Calls Tryz.prog 96 #[dK #[dI a n c,dH dN p.next],dI (some ⟨fb,0,none⟩) 4 4] w fun r w'=>r = dM (dL R)∧Aa [] w w':=by
 obtain⟨x,hx⟩:=eX (p.next);have HX:=lH hx;have HN:=lH hn;have HP:=lH hP;have HR:=lH hR;rw [hx];have HF:=lH (hf.alloc (.cells #[dI a n c,dH dN x] 188));have HB:=lH (Blk.new w 188 #[dI a n c,dH dN x]);have HK:=lH ((Aa.refl [] w).alloc (.cells #[dI a n c,dH dN x] 188));obtain⟨y1,h1⟩:=eX (FW p);have H1:=lH h1;obtain⟨y2,h2⟩:=eX (Ca x [] p.l);have H2:=lH h2;obtain⟨y3,h3⟩:=eX (Bq 0 p.l);have H3:=lH h3;obtain⟨y4,h4⟩:=eX (E3 p.l);have H4:=lH h4;clear hP hf hR h1 h2 h3 h4 hx hn;go_enter Tryz.func96,Tryz.ntmps96;go_wp2;refine wp_loop_rounds 5 ?_;rw [rounds_succ];have s0:=HF.out.cell 0;have s1:=HF.out.cell 1;have s2:=HF.out.cell 2;have s3:=HF.out.cell 3;simp only [GX,Ai,Ah,Al] at s0 s1 s2 s3;have q0:=HB.out.ce 0;have q1:=HB.out.ce 1;go_wp2_with (fail);have hcc:=fun W=>Ol a c p n (by rw [← HP.out.mt.len,HN.out]) (by rw [← HN.out];exact HP.out.small) y1 H1.out W;rw [HX.out] at hcc;refine(hcc _).mono ?_;clear hcc;rintro r w1 ⟨rfl,hk⟩;clear s0 s1 s2 s3 q0 q1;have HF:=lH (HF.out.keeps hk bA);have HB:=lH (HB.out.keeps hk bA);have HK:=lH (HK.out.trans hk);clear hk;cases y1 with
 | false=>
  obtain rfl:R=false:=by rw [← HR.out];unfold DC;rw [HX.out,H1.out];simp
  go_wp2;go_ret;exact⟨rfl,HK.out⟩
 | true=>
  go_wp2_with (fail);rw [rounds_succ];have s0:=HF.out.cell 0;have s1:=HF.out.cell 1;have s2:=HF.out.cell 2;have s3:=HF.out.cell 3;simp only [GX,Ai,Ah,Al] at s0 s1 s2 s3;have q0:=HB.out.ce 0;have q1:=HB.out.ce 1;go_wp2_with (fail);have hcc:=fun W (hk:Aa [] w W)=>Nk a c x V p.l HP.out.small W (HP.out.row.keeps hk) (HP.out.mt.keeps hk) y2 H2.out;rw [HN.out] at hcc;refine(hcc _ HK.out).mono ?_;clear hcc;rintro r w2 ⟨rfl,hk⟩;clear s0 s1 s2 s3 q0 q1;have HF:=lH (HF.out.keeps hk bA);have HB:=lH (HB.out.keeps hk bA);have HK:=lH (HK.out.trans hk);clear hk;cases y2 with
  | false=>
   obtain rfl:R=false:=by rw [← HR.out];unfold DC;rw [HX.out,H1.out,H2.out];simp
   go_wp2;go_ret;exact⟨rfl,HK.out⟩
  | true=>
   go_wp2_with (fail);rw [rounds_succ];have s0:=HF.out.cell 0;have s1:=HF.out.cell 1;have s2:=HF.out.cell 2;have s3:=HF.out.cell 3;simp only [GX,Ai,Ah,Al] at s0 s1 s2 s3;have q0:=HB.out.ce 0;have q1:=HB.out.ce 1;go_wp2_with (fail);have hcc:=fun W (hk:Aa [] w W)=>LW a c x V p.l HP.out.small W (HP.out.row.keeps hk) (HP.out.mt.keeps hk) y3 H3.out;rw [HN.out] at hcc;refine(hcc _ HK.out).mono ?_;clear hcc;rintro r w3 ⟨rfl,hk⟩;clear s0 s1 s2 s3 q0 q1;have HF:=lH (HF.out.keeps hk bA);have HB:=lH (HB.out.keeps hk bA);have HK:=lH (HK.out.trans hk);clear hk;cases y3 with
   | false=>
    obtain rfl:R=false:=by rw [← HR.out];unfold DC;rw [HX.out,H1.out,H2.out,H3.out];simp
    go_wp2;go_ret;exact⟨rfl,HK.out⟩
   | true=>
    go_wp2_with (fail);rw [rounds_succ];have s0:=HF.out.cell 0;have s1:=HF.out.cell 1;have s2:=HF.out.cell 2;have s3:=HF.out.cell 3;simp only [GX,Ai,Ah,Al] at s0 s1 s2 s3;have q0:=HB.out.ce 0;have q1:=HB.out.ce 1;go_wp2_with (fail);have hcc:=fun W (hk:Aa [] w W)=>Nm a c x V p.l HP.out.small W (HP.out.row.keeps hk) (HP.out.mt.keeps hk) y4 H4.out;rw [HN.out] at hcc;refine(hcc _ HK.out).mono ?_;clear hcc;rintro r w4 ⟨rfl,hk⟩;clear s0 s1 s2 s3 q0 q1;have HF:=lH (HF.out.keeps hk bA);have HB:=lH (HB.out.keeps hk bA);have HK:=lH (HK.out.trans hk);clear hk;cases y4 with
    | false=>
     obtain rfl:R=false:=by rw [← HR.out];unfold DC;rw [HX.out,H1.out,H2.out,H3.out,H4.out];simp
     go_wp2;go_ret;exact⟨rfl,HK.out⟩
    | true=>
     obtain rfl:R=true:=by rw [← HR.out];unfold DC;rw [HX.out,H1.out,H2.out,H3.out,H4.out];rfl
     go_wp2_with (fail);rw [rounds_succ];go_wp2;go_ret;exact⟨rfl,HK.out⟩
theorem Lj(a:Option Addr)(c:Nat)(V:List SV)(p:Po)(n:Nat)(hn:V.length=n)(w:World)(hP:BF w a c V p)(R:Bool)(hR:DC p=R):
  Calls Tryz.prog 46 #[dK #[dI a n c,dH dN p.next]] w fun r w'=>r = dM (dL R)∧Aa [] w w':=by
 obtain⟨x,hx⟩:=eX (p.next);have hk:=((Aa.refl [] w).alloc (.cells #[dI a n c,dH dN x] 32)).alloc (.cells GX 190);have hcc:=fun W fb (hf:Blk W fb 190 GX) (hkk:Aa [] w W)=>Sz a c V p n hn fb 190 W (hP.keeps hkk) hf R hR;rw [hx] at hcc ⊢;have HCC:=lH hcc;have HK:=lH hk;have HF:=lH (Aq (w.alloc (.cells #[dI a n c,dH dN x] 32)) 190 GX (w.heap.size+1) bA);clear hcc hk hx hP hR hn;go_enter Tryz.func46,Tryz.ntmps46;go_wp2_with (fail);refine(HCC.out _ _ HF.out HK.out).mono ?_;rintro r w1 ⟨rfl,hk⟩;have HK:=lH (HK.out.trans hk);clear hk;go_wp2;go_ret;exact⟨rfl,HK.out⟩
def Kn(w:World)(e:Nat→Addr):Prop:=∃E,Fe w 447 [9,13,14] E∧e 0=E 9∧e 1=E 13∧e 2=E 14
theorem Kn.keep{w w':World}{e:Nat→Addr}(h:Kn w e)(hk:Aa [] w w'):Kn w' e:=by
 obtain⟨E,h1,h2⟩:=h;exact⟨E,h1.keep hk,h2⟩
theorem Kn.c0{w:World}{e:Nat→Addr}(h:Kn w e):w.cell? ⟨9,0,none⟩=some (.iface 447 (dJ (some (e 0)))):=by
 obtain⟨E,h1,h2,_⟩:=h;rw [h2];exact h1.cell 9 bA
theorem Kn.c1{w:World}{e:Nat→Addr}(h:Kn w e):w.cell? ⟨13,0,none⟩=some (.iface 447 (dJ (some (e 1)))):=by
 obtain⟨E,h1,_,h2,_⟩:=h;rw [h2];exact h1.cell 13 bA
theorem Kn.c2{w:World}{e:Nat→Addr}(h:Kn w e):w.cell? ⟨14,0,none⟩=some (.iface 447 (dJ (some (e 2)))):=by
 obtain⟨E,h1,_,_,h2⟩:=h;rw [h2];exact h1.cell 14 bA
def VH:Option Nat→Int
 | none=>0
 | some 0=>160
 | some 1=>2
 | some _=>161
theorem H9(x:Option Nat)(e:Nat→Addr)(hx:∀y,x=some y→y<3)(w:World)(h:Kn w e)(q:Int)(hq:VH x=q):
  Calls Tryz.prog 286 #[GZ e x] w fun r w'=>r = dM (dH dN q)∧w=w':=by
 have c0:=h.c0;have c1:=h.c1;have c2:=h.c2;have hg:∀g,g<3→∀b,(x==some g)=b→Calls Tryz.prog 268 #[GZ e x,.iface 447 (dJ (some (e g)))] w fun r w'=>r = dM (dL b)∧w=w':=fun g hg b hb=>by
  obtain⟨E,h1,e0,e1,e2⟩:=h;have hx3:x=none∨x=some 0∨x=some 1∨x=some 2:=by
   cases x with
   | none=>exact .inl rfl
   | some y=>
    have:=hx y rfl;have h5:y=0∨y=1∨y=2:=by omega
    rcases h5 with rfl | rfl | rfl<;>simp
  have hg3:g=0∨g=1∨g=2:=by omega
  rcases hx3 with rfl | rfl | rfl | rfl<;>rcases hg3 with rfl | rfl | rfl<;>subst hb<;>simp only [GZ,e0,e1,e2]
  ·exact Dk h1 none 9 bA bA _ rfl
  ·exact Dk h1 none 13 bA bA _ rfl
  ·exact Dk h1 none 14 bA bA _ rfl
  ·exact Dk h1 (some 9) 9 bA bA _ bE
  ·exact Dk h1 (some 9) 13 bA bA _ bE
  ·exact Dk h1 (some 9) 14 bA bA _ bE
  ·exact Dk h1 (some 13) 9 bA bA _ bE
  ·exact Dk h1 (some 13) 13 bA bA _ bE
  ·exact Dk h1 (some 13) 14 bA bA _ bE
  ·exact Dk h1 (some 14) 9 bA bA _ bE
  ·exact Dk h1 (some 14) 13 bA bA _ bE
  ·exact Dk h1 (some 14) 14 bA bA _ bE
 have HG:=lH hg;have hc:x=none∨x=some 0∨x=some 1∨x=some 2:=by
  cases x with
  | none=>exact .inl rfl
  | some y=>
   have:=hx y rfl;have h5:y=0∨y=1∨y=2:=by omega
   rcases h5 with rfl | rfl | rfl<;>simp
 clear hg h hx;go_enter Tryz.func286,Tryz.ntmps286;go_wp2_with (fail);rcases hc with rfl | rfl | rfl | rfl
 all_goals subst hq
 ·refine(HG.out 1 bB false rfl).mono ?_
  rintro r w' ⟨rfl,rfl⟩;go_wp2_with (fail);refine(HG.out 0 bB false rfl).mono ?_;rintro r w' ⟨rfl,rfl⟩;go_wp2_with (fail);refine(HG.out 2 bB false rfl).mono ?_;rintro r w' ⟨rfl,rfl⟩;go_wp2_with (fail);go_ret;exact⟨rfl,rfl⟩
 ·refine(HG.out 1 bB false rfl).mono ?_
  rintro r w' ⟨rfl,rfl⟩;go_wp2_with (fail);refine(HG.out 0 bB true rfl).mono ?_;rintro r w' ⟨rfl,rfl⟩;go_wp2_with (fail);go_ret;exact⟨rfl,rfl⟩
 ·refine(HG.out 1 bB true rfl).mono ?_
  rintro r w' ⟨rfl,rfl⟩;go_wp2_with (fail);go_ret;exact⟨rfl,rfl⟩
 ·refine(HG.out 1 bB false rfl).mono ?_
  rintro r w' ⟨rfl,rfl⟩;go_wp2_with (fail);refine(HG.out 0 bB false rfl).mono ?_;rintro r w' ⟨rfl,rfl⟩;go_wp2_with (fail);refine(HG.out 2 bB true rfl).mono ?_;rintro r w' ⟨rfl,rfl⟩;go_wp2_with (fail);go_ret;exact⟨rfl,rfl⟩
theorem J6(a:Option Addr)(c:Nat)(V:List SV)(p:Po)(n:Nat)(hn:V.length=n)(now:Int)(w:World)(hP:BF w a c V p)(e:Nat→Addr)(he:Kn w e)(R:Bool)(hR:Cr p now=R):
  Calls Tryz.prog 285 #[dK #[dI a n c,dH dN p.next],dH dN now] w fun r w'=>r = dM (GZ e (if R then none else some 0))∧Aa [] w w':=by
 obtain⟨x,hx⟩:=eX (p.next);have hk:=(Aa.refl [] w).alloc (.cells #[dI a n c,dH dN x] 32);have hb:=Blk.new w 32 #[dI a n c,dH dN x];obtain⟨y,hy⟩:=eX (DC p);obtain⟨u,hu⟩:=eX (Eb p.l);have hcc:=fun W (hkk:Aa [] w W)=>Lj a c V p n hn W (hP.keeps hkk) y hy;have hcl:=fun W (hkk:Aa [] w W)=>UJ a c x V hP.small W (hP.row.keeps hkk) u ((S4 hP.mt).trans hu);rw [hx] at hcc ⊢;rw [hn] at hcl;have HCC:=lH hcc;have HCL:=lH hcl;have HE:=lH he;have HK:=lH hk;have HB:=lH hb;have HY:=lH hy;have HU:=lH hu;have HR:=lH hR;have c0:=hb.cell 0;have c1:=hb.cell 1;clear hcc hcl he hk hb hy hu hR hP hx hn;go_enter Tryz.func285,Tryz.ntmps285;go_wp2_with (fail);refine(HCC.out _ HK.out).mono ?_;rintro r w1 ⟨rfl,hk⟩;have HK:=lH (HK.out.trans hk);clear hk c0 c1;cases y with
 | false=>
  obtain rfl:R=false:=by rw [← HR.out];unfold Cr;rw [HY.out];rfl
  have e0:=(HE.out.keep HK.out).c0;go_wp2;go_ret;exact⟨rfl,HK.out⟩
 | true=>
  go_wp2_with (fail);refine(HCL.out _ HK.out).mono ?_;rintro r w2 ⟨rfl,hk⟩;have HK:=lH (HK.out.trans hk);clear hk;have e0:=(HE.out.keep HK.out).c0;by_cases h1:now<u
  ·obtain rfl:R=false:=by rw [← HR.out];unfold Cr;rw [HY.out,HU.out];simp;omega
   go_wp2;go_ret;exact⟨rfl,HK.out⟩
  ·by_cases h2:1000000000000<now
   ·obtain rfl:R=false:=by rw [← HR.out];unfold Cr;rw [HY.out,HU.out];simp;omega
    go_wp2;go_ret;exact⟨rfl,HK.out⟩
   ·obtain rfl:R=true:=by rw [← HR.out];unfold Cr;rw [HY.out,HU.out];simp;omega
    go_wp2;go_ret;exact⟨rfl,HK.out⟩
theorem VB:(Tryz.prog.info? 9).map (fun i=>(i.zero,i.size,i.bytes))=some (some (CZ ⟨#[]⟩),1,16):=by kernel_rfl
theorem MQ:(Tryz.prog.info? 43).map (fun i=>(i.zero,i.size,i.bytes))=some (some (dK #[dH dN 0,dI none 0 0,dH dN 0]),3,40):=by kernel_rfl
theorem wpList_append_run{P:Program}(w:World){ops:Array Oper}{rest:List Oper}{o:Oper}{a:Act}{Q:Exit→Act→World→Prop}(hgd:o.guard=none)(s x:Operand)(t:TypeId)
 (ho:o.op = .call { callee:=.builtin .append,args:=#[s,x],argTypes:=#[t,t] }){v u v':Value}{w':World}(hs:a.eval s=v)(hx:a.eval x=u)
 (hr:(Bo #[t,t] o.type #[v,u]).run P w = .ok v' w')(h:wpList P ops Q rest (a.put o.dst v') w'):wpList P ops Q (o::rest) a w:=by
 refine wpList_plain hgd fun K hK=>?_;unfold Oper.wp execOp;simp only [ho,resolve,invoke,builtin,Sem.run_bind,Sem.run_pure,Result.andThen_ok,List.map_toArray,Cn,List.map_nil,hs,hx,hr];exact hK _ _ h
theorem Ke{w:World}{B:Nat}{v:Value}{xs:List ByteArray}(h:w.ownsRow B 9 1 v xs.length (xs.map CZ))(hsm:xs.length≤1000000)(hsz:∀x∈xs,x.size≤maxLen):
  ∃a c,v = dI a xs.length c∧BR w a c xs:=by
 rcases h.2 with⟨rfl,h0⟩ | ⟨g,c,cur,rfl,hb,hg,hn,hc,hs,ht⟩
 ·obtain rfl:=Er h0
  exact⟨none,0,rfl,Ap _,fun hn=>absurd rfl hn,by simp,by simp,fun _=>rfl⟩
 ·refine⟨_,c,rfl,hn,fun _=>⟨g,0,cur,(0,0),rfl,hg,fun i hi=>?_⟩,hsm,hsz,fun e=>by cases e⟩
  have hblk:Blk w g 9 cur:=hg;rw [hblk.cell,BI];have h1:(xs.map CZ)[i]? = some (CZ xs[i]):=by rw [List.getElem?_map,Au hi];rfl
  rw [← ht,Ds,if_pos bB] at h1;simpa using h1
def Fr(B:Nat)(a:Option Addr)(n:Nat):Prop:=∀g off,a=some ⟨g,off,none⟩→0<n→B≤g
theorem Fr.none(B n:Nat):Fr B none n:=fun _ _ h=>by cases h
theorem Fr.down{B B':Nat}{a:Option Addr}{n:Nat}(h:Fr B a n)(hb:B'≤B):Fr B' a n:=fun g off e h0=>As hb (h g off e h0)
theorem Sv{w:World}{B:Nat}{a:Option Addr}{n c:Nat}{xs:List Value}(h:w.ownsRow B 9 1 (dI a n c) n xs):Fr B a n:=fun g off e h0=>by
 rcases h.2 with⟨h1,rfl⟩ | ⟨g',c',cur,h1,hb,_⟩
 ·omega
 ·injection h1 with h1 _ _
  rw [e] at h1;injection h1 with h1
  injection h1 with h1 _ _
  rw [h1];exact hb
theorem EO(g off j:Nat):(⟨g,off,none⟩:Addr).add j=⟨g,off+j,none⟩:=by
 unfold Addr.add;split<;>simp_all
theorem TJ{W:World}{B:Nat}{v:Value}{ys:List ByteArray}(hv:W.ownsRow B 9 1 v ys.length (ys.map CZ))(hB:B≤W.heap.size){a:Option Addr}{c:Nat}{xs:List ByteArray}(h:BR W a c xs)(hy:ys.length≤1000000)(ty:TypeId):
  ∃v' W',(Bo #[41,41] ty #[v,dI a xs.length c]).run Tryz.prog W = .ok v' W'∧W'.ownsRow B 9 1 v' (ys++xs).length ((ys++xs).map CZ)∧W.grownBy W' v.ownBlock:=by
 obtain⟨i0,hi,hz0,hz1,hz2⟩:=info_parts VB;have hsm:=h.small;rw [Ag,List.map_append];cases a with
 | none=>
  have hn:xs = []:=by
   apply Classical.byContradiction;intro hn;obtain⟨g,off,cs,fz,e,_⟩:=h.at_ hn;cases e
  subst hn;rw [h.nil rfl];have:=run_append_owned_none (P:=Tryz.prog) (w:=W) B 41 ty 9 i0 1 Tryz.underlying41 hi v ys.length _ hv;exact⟨v,W,this,by simpa using hv,⟨rfl,rfl,rfl,Ap _,fun _ _ _=>rfl⟩⟩
 | some p=>
  have hc:∀j u,(xs.map CZ)[j]? = some u→W.cell? (p.add j)=some u:=fun j u hj=>by
   have hjl:j<xs.length:=by have:=(Ad.1 hj).1;simpa using this
   obtain⟨g,off,cs,fz,e,_,hat⟩:=h.at_ (by rintro rfl;simp at hjl);injection e with e
   subst e;rw [EO,hat j hjl];rw [List.getElem?_map,Au hjl] at hj;exact hj
  obtain⟨v',W',h1,h2,h3,_⟩:=run_append_own (P:=Tryz.prog) W B 41 ty 9 i0 _ 1 16 Tryz.underlying41 hi hz0 hz1 hz2 rfl bE v ys.length _ hv p xs.length c (xs.map CZ) bA hc (by intro u hu;obtain⟨_,_,rfl⟩:=Ee.1 hu;rfl) bZ bB hB;exact⟨v',W',h1,h2,h3⟩
theorem Ft(a:Option Addr)(c:Nat)(xs:List ByteArray)(n:Nat)(hn:xs.length=n)(w:World)(h:BR w a c xs):
  Calls Tryz.prog 120 #[dI a n c] w fun r w'=>∃a' c',r = dM (.slice a' n c')∧BR w' a' c' xs∧Aa [] w w'∧Fr w.heap.size a' n:=by
 cases a with
 | none=>
  have hx:xs = []:=by
   apply Classical.byContradiction;intro hn;obtain⟨g,off,cs,fz,e,_⟩:=h.at_ hn;cases e
  subst hx;subst hn;obtain rfl:=h.nil rfl;have H:=lH h;clear h;have h0:Calls Tryz.prog 120 #[dI none 0 0] w fun r w'=>r = dM (dI none 0 0)∧w=w':=by
   clear H;have hq:=fun W=>A2 (P:=Tryz.prog) W _ _ none 0 0 0 0 Tryz.underlying41;go_enter Tryz.func120,Tryz.ntmps120;go_wp2;go_ret;exact⟨rfl,rfl⟩
  refine h0.mono ?_;rintro r w' ⟨rfl,rfl⟩;exact⟨none,0,rfl,H.out,Aa.refl [] w,Fr.none _ _⟩
 | some p=>
  have hrow:(w.alloc (.cells #[] 9)).ownsRow w.heap.size 9 1 (dI (some ⟨w,0,none⟩) 0 0) 0 []:=by
   have:=World.ownsRow_lit (base:=w.heap.size) (e:=9) (size:=1) w #[] 0 (Ap _) bZ rfl;simpa using this
  have hk0:=(Aa.refl [] w).alloc (.cells #[] 9);obtain⟨v',W',hr,hown,hg⟩:=TJ (ys:=[]) hrow bA (h.keeps hk0) bA 41;rw [AX] at hown;obtain⟨a',c',rfl,hs⟩:=Ke hown h.small h.size;have hk:Aa [] w W':=hk0.grown hg (fun k hk=>by
   simp [Value.ownBlock] at hk;exact .inr bB)
  have hfr:=Sv hown;rw [hn] at hr hfr;have HFR:=lH hfr;have HS:=lH hs;have HK:=lH hk;clear hs hk hown hg hrow hk0 h hfr;have h0:Calls Tryz.prog 120 #[dI (some p) n c] w fun r w'=>r = dM (.slice a' n c')∧W'=w':=by
   clear HS HK HFR;have hq:=fun W=>A2 (P:=Tryz.prog) W _ _ (some p) n c 0 0 Tryz.underlying41;go_enter Tryz.func120,Tryz.ntmps120;go_wp2_with (at_builtin;refine wpList_append_run _ rfl _ _ 41 rfl rfl rfl hr ?_);go_ret;exact⟨rfl,rfl⟩
  refine h0.mono ?_;rintro r w' ⟨rfl,rfl⟩;exact⟨a',c',rfl,HS.out,HK.out,HFR.out⟩
end
end Go.Proofs.YtcjdkbgdahgjbaaGreatDoor
