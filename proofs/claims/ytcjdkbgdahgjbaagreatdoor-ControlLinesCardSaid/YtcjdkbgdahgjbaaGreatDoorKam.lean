/- Steps of the proof: RowI, Del, Ins, AclC, RegH, RegI, Cnc. -/
import Derived.Test.YtcjdkbgdahgjbaaGreatDoorK0
import Derived.Test.YtcjdkbgdahgjbaaGreatDoorKag
import Derived.Test.YtcjdkbgdahgjbaaGreatDoorKah
import Derived.Test.YtcjdkbgdahgjbaaGreatDoorKai
import Derived.Test.YtcjdkbgdahgjbaaGreatDoorKak
import Derived.Test.YtcjdkbgdahgjbaaGreatDoorKal
import Derived.Lib.AppendZerosOnto
import Derived.Lib.Overlaps
import Derived.Deep.DeepCutAuto
import Derived.Lib.AppendZeros
set_option maxRecDepth 100000
set_option maxHeartbeats 8000000
set_option linter.all false
namespace Go.Proofs.YtcjdkbgdahgjbaaGreatDoor
open _root_.Array renaming length_toList→BL
open Builtin renaming append_→Bo,copy_→DH,zeroCells→A5
open Ending renaming returned→dM
open Instr renaming slice→AG
open IntKind renaming i64→dN
open _root_.List renaming append_assoc→CO,flatMap_append→Bt,getElem?_cons_succ→Al,getElem?_cons_zero→Ah,getElem?_eq_some_iff→Ad,getElem?_take→Ds,getElem?_toArray→Ai,length_append→Ag,length_drop→Bi,length_singleton→AW,length_take→A7,mem_cons→Ac,mem_flatMap→DL,nil_append→AX,not_mem_nil→Ab,size_toArray→Cx,take_append_of_le_length→DJ,take_of_length_le→Ax
open _root_.Nat renaming add_zero→CG,le_refl→Ap,le_trans→As,lt_of_lt_of_le→AT,min_eq_left→DP,mul_le_mul_right→BW,zero_add→BI,zero_le→Cy
open Value renaming agg→dK,bool→dL,int→dH,pointer→dJ,slice→dI,string→CZ
open World renaming block_lt_of_cell?→A4
section
open Go.RowKit Go.Shelf
section
variable {P:Program} {t e:TypeId} {n:Nat} {z:Value}
theorem Jw.copy(h:Jw P t e n z)(W:World)(ty:TypeId)(g o dLen dCap:Nat)(a:Addr)(sLen sCap k:Nat)(cs:List Value)(cur:Array Value)(hk:Nat.min sLen dLen=k)(hl:cs.length=k*n)
 (hsrc:∀j v,cs[j]? = some v→W.cell? (a.add j)=some v)(hb:Blk W g e cur)(hc:o+cs.length≤cur.size)(h1:∀v∈cs,v.oneCell'=true):
  (DH #[t,t] ty #[dI (some ⟨g,o,none⟩) dLen dCap,dI (some a) sLen sCap]).run P W = .ok (goInt k) (W.setCells g o cs):=by
 obtain⟨i0,zz,hii,_,his,_,_⟩:=BK h.hi;have hl2:=run_loadCells_list (P:=P) W a cs hsrc;have hst:=run_storeCells_cells (P:=P) g o cs 0 W (fun j hj=>by rw [CG,hb.cell,Array.getElem?_eq_getElem bB];rfl) (fun j _=>hb.frozen _) h1;simp [DH,run_underlying h.ht,Builtin.lenOf,Builtin.firstCells,sizeOf,typeInfo,hii,his,hk,← hl,hl2,hst]
structure Z9(P:Program)(t:TypeId)(n:Nat){α:Type}(enc:α→List Value)(xs:List α)(r:α)(L i g c vb:Nat)(w W1 W2:World):Prop where
 s1:∀W,(AG t (dI (some ⟨g,0,none⟩) L c) (some (dH dN (i:Int))) none none).run P W = .ok (dI (some ⟨g,i*n,none⟩) (L - i) (c - i)) W
 s2:∀W,(AG t (dI (some ⟨g,0,none⟩) L c) none (some (dH dN ((L:Int)+1))) none).run P W = .ok (dI (some ⟨g,0,none⟩) (L+1) c) W
 s3:∀W,(AG t (dI (some ⟨g,0,none⟩) (L+1) c) (some (dH dN ((i:Int)+1))) none none).run P W = .ok (dI (some ⟨g,(i+1)*n,none⟩) (L - i) (c - (i+1))) W
 s4:∀W,(AG t (dI (some ⟨g,0,none⟩) (L+1) c) (some (dH dN (i:Int))) none none).run P W = .ok (dI (some ⟨g,i*n,none⟩) (L+1 - i) (c - i)) W
 c1:∀ty,(DH #[t,t] ty #[dI (some ⟨g,(i+1)*n,none⟩) (L - i) (c - (i+1)),dI (some ⟨g,i*n,none⟩) (L+1 - i) (c - i)]).run P w.drew = .ok (goInt ((L - i:Nat):Int)) W1
 c2:∀ty,(DH #[t,t] ty #[dI (some ⟨g,i*n,none⟩) (L+1 - i) (c - i),dI (some ⟨vb,0,none⟩) 1 1]).run P W1 = .ok (goInt 1) W2
 fin:AJ enc n W2 (some ⟨g,0,none⟩) c (xs.take i++r::xs.drop i)
 keep:Aa [g] w W2
theorem Jp{α:Type}(a b:List α)(k:Nat)(h:a.length=k):(a++b).take k=a:=by rw [DJ bB,Ax bB]
theorem Jw.ins(h:Jw P t e n z){α:Type}{enc:α→List Value}(hn:∀x,(enc x).length=n)(hone:∀x,∀u∈enc x,u.oneCell'=true){xs:List α}(r:α){L i g c B vb:Nat}(hL:xs.length=L)(hi:i<L)(hroom:L+1≤c)(h1000:L≤1000)(w:World)
 (hr:w.ownsRow B e n (dI (some ⟨g,0,none⟩) L c) L (xs.flatMap enc)){te:TypeId}(hv:Blk w vb te (enc r).toArray)(hne:vb≠g):∃W1 W2,Z9 P t n enc xs r L i g c vb w W1 W2:=by
 rcases hr.2 with⟨h0,_⟩ | ⟨g',c',cur,e1,hb,hg,hle,hcm,hs,htk⟩
 ·cases h0
 injection e1 with e1 _ e2
 injection e1 with e1;injection e1 with e1 _
 subst e1;subst e2;have hblk:Blk w g e cur:=hg;obtain⟨news,hnews⟩:=eX ((xs.drop i).flatMap enc);have hnl:news.length=(L - i)*n:=by rw [← hnews,Ea hn,Bi,hL]
 have hcn:(L+1)*n≤cur.size:=by rw [hs];exact BW n hroom
 have e1:(L+1)*n=L*n+n:=by rw [Nat.add_mul];omega
 have e2:(i+1)*n=i*n+n:=by rw [Nat.add_mul];omega
 have e3:(L - i)*n=L*n - i*n:=Nat.sub_mul _ _ _;have e4:i*n≤L*n:=BW n bB;have hnewc:∀j u,news[j]? = some u→cur[i*n+j]? = some u:=fun j u hj=>by
  have hjl:=(Ad.1 hj).1;rw [← hnews,Hx hn xs i bB,List.getElem?_drop,← htk,Ds] at hj;rw [if_pos bB] at hj;simpa using hj
 obtain⟨cs1,hb1,hc1⟩:=Blk.setAll news ((i+1)*n) w.drew cur hblk.drew bB;have hb1s:cs1.size=cur.size:=by rw [← BL,hc1];simp;omega
 obtain⟨cs2,hb2,hc2⟩:=Blk.setAll (enc r) (i*n) _ cs1 hb1 (by rw [hn,hb1s];omega);have hv1:Blk (w.drew.setCells g ((i+1)*n) news) vb te (enc r).toArray:=hv.keeps ((Aa.setCells (S:=[g]) (.inl bA) news ((i+1)*n) ((Aa.refl [g] w).drew))) Wi;refine⟨w.drew.setCells g ((i+1)*n) news,(w.drew.setCells g ((i+1)*n) news).setCells g (i*n) (enc r),⟨fun W=>?_,fun W=>h.s_h W g 0 L c (L+1) hroom,fun W=>?_,fun W=>?_,fun ty=>?_,fun ty=>?_,?_,?_⟩⟩
 ·have:=h.s_l W g 0 L c i bB hle
  rw [if_neg bB,BI] at this;exact this
 ·have:=h.s_l W g 0 (L+1) c (i+1) bB hroom
  rw [if_neg bB,BI,show L+1 - (i+1)=L - i by omega] at this;exact this
 ·have:=h.s_l W g 0 (L+1) c i bB hroom
  rw [if_neg bB,BI] at this;exact this
 ·refine h.copy w.drew ty g ((i+1)*n) (L - i) _ ⟨g,i*n,none⟩ (L+1 - i) _ (L - i) news cur ZX hnl (fun j v hj=>?_) hblk.drew bB (fun u hu=>?_)
  ·rw [Bn,hblk.drew.cell];exact hnewc j v hj
  ·rw [← hnews] at hu
   obtain⟨x,_,hx⟩:=DL.1 hu;exact hone x u hx
 ·refine h.copy _ ty g (i*n) (L+1 - i) _ ⟨vb,0,none⟩ 1 1 1 (enc r) cs1 ZX YJ (fun j v hj=>?_) hb1 (by rw [hn,hb1s];omega) (fun u hu=>hone r u hu)
  rw [Bn,hv1.cell,BI];simpa using hj
 ·refine AJ.of_cells hn hb2 bG ?_
  have hlen:(xs.take i++r::xs.drop i).length=L+1:=by simp;omega
  have k1:cur.toList.take (i*n)=(xs.take i).flatMap enc:=by
   rw [Hy hn xs i bB,← htk,List.take_take,DP bB]
  have k2:(cur.toList.take ((i+1)*n)).take (i*n)=(xs.take i).flatMap enc:=by rw [List.take_take,DP bB,k1]
  have k3:(cur.toList.take ((i+1)*n)).length=(i+1)*n:=by rw [A7,BL];omega
  have k4:((xs.take i).flatMap enc).length=i*n:=by rw [Ea hn,A7];congr 1;omega
  have k5:cs1.toList.take (i*n)=(xs.take i).flatMap enc:=by
   rw [hc1,CO,DJ bB,k2]
  have k6:cs1.toList.drop (i*n+n)=news++cur.toList.drop ((i+1)*n+news.length):=by
   rw [hc1,CO,← e2];exact List.drop_left' k3
  rw [hlen,hc2,hn,k5,k6,Bt,List.flatMap_cons,hnews];rw [show(xs.take i).flatMap enc++enc r++(news++cur.toList.drop ((i+1)*n+news.length))=((xs.take i).flatMap enc++(enc r++news))++cur.toList.drop ((i+1)*n+news.length) by simp only [CO]];exact Jp _ _ _ (by simp only [Ag,k4,hn,hnl];omega)
 ·exact((((Aa.refl [g] w).drew)).trans (Aa.setCells (.inl bA) _ _ (Aa.refl [g] _))).trans (Aa.setCells (.inl bA) _ _ (Aa.refl [g] _))
structure Z8(P:Program)(t ti:TypeId)(n:Nat){α:Type}(enc:α→List Value)(xs:List α)(r:α)(L i g c vb N G:Nat)(w W1 W2 W3:World):Prop where
 s1:∀W,(AG t (dI (some ⟨g,0,none⟩) L c) (some (dH dN (i:Int))) none none).run P W = .ok (dI (some ⟨g,i*n,none⟩) (L - i) (c - i)) W
 s2:∀W,(AG t (dI (some ⟨g,0,none⟩) L c) none (some (dH dN (i:Int))) none).run P W = .ok (dI (some ⟨g,0,none⟩) i c) W
 ap:∀ty,(Bo #[t,ti] ty #[dI (some ⟨g,0,none⟩) i c,dH dN ((L:Int)+1 - (i:Int))]).run P w = .ok (dI (some ⟨N,0,none⟩) (L+1) G) W1
 s3:∀W,(AG t (dI (some ⟨N,0,none⟩) (L+1) G) (some (dH dN (i:Int))) none none).run P W = .ok (dI (some ⟨N,i*n,none⟩) (L+1 - i) (G - i)) W
 c1:∀ty,(DH #[t,t] ty #[dI (some ⟨N,i*n,none⟩) (L+1 - i) (G - i),dI (some ⟨vb,0,none⟩) 1 1]).run P W1 = .ok (goInt 1) W2
 s4:∀W,(AG t (dI (some ⟨N,0,none⟩) (L+1) G) (some (dH dN ((i:Int)+1))) none none).run P W = .ok (dI (some ⟨N,(i+1)*n,none⟩) (L - i) (G - (i+1))) W
 c2:∀ty,(DH #[t,t] ty #[dI (some ⟨N,(i+1)*n,none⟩) (L - i) (G - (i+1)),dI (some ⟨g,i*n,none⟩) (L - i) (c - i)]).run P W2.drew = .ok (goInt ((L - i:Nat):Int)) W3
 fin:AJ enc n W3 (some ⟨N,0,none⟩) G (xs.take i++r::xs.drop i)
 keep:Aa [] w W3
 ge:w.heap.size≤N
theorem Jw.insG(h:Jw P t e n z){ti:TypeId}(hti:P.underlying ti=some (.int .i64))(hn0:0<n){α:Type}{enc:α→List Value}(hn:∀x,(enc x).length=n)(hone:∀x,∀u∈enc x,u.oneCell'=true){xs:List α}(r:α){L i g c B vb:Nat}(hL:xs.length=L)(hi:i<L)(hroom:c<L+1)(h1000:L≤1000)(w:World)
 (hr:w.ownsRow B e n (dI (some ⟨g,0,none⟩) L c) L (xs.flatMap enc)){te:TypeId}(hv:Blk w vb te (enc r).toArray):∃N G W1 W2 W3,Z8 P t ti n enc xs r L i g c vb N G w W1 W2 W3:=by
 rcases hr.2 with⟨h0,_⟩ | ⟨g',c',cur,e1,hb,hg,hle,hcm,hs,htk⟩
 ·cases h0
 injection e1 with e1 _ e2
 injection e1 with e1;injection e1 with e1 _
 subst e1;subst e2;have hblk:Blk w g e cur:=hg;obtain⟨i0,zz,hii,hiz,his,hizs,hib⟩:=BK h.hi;obtain⟨news,hnews⟩:=eX ((xs.drop i).flatMap enc);have hnl:news.length=(L - i)*n:=by rw [← hnews,Ea hn,Bi,hL]
 have hcn:L*n≤cur.size:=by rw [hs];exact BW n hle
 have e1:(L+1)*n=L*n+n:=by rw [Nat.add_mul];omega
 have e2:(i+1)*n=i*n+n:=by rw [Nat.add_mul];omega
 have e3:(L - i)*n=L*n - i*n:=Nat.sub_mul _ _ _;have e4:i*n≤L*n:=BW n bB;have e5:(L+1 - i)*n=(L+1)*n - i*n:=Nat.sub_mul _ _ _;have hnewc:∀j u,news[j]? = some u→cur[i*n+j]? = some u:=fun j u hj=>by
  have hjl:=(Ad.1 hj).1;rw [← hnews,Hx hn xs i bB,List.getElem?_drop,← htk,Ds] at hj;rw [if_pos bB] at hj;simpa using hj
 obtain⟨olds,holds⟩:=eX ((xs.take i).flatMap enc);have hol:olds.length=i*n:=by rw [← holds,Ea hn,A7];congr 1;omega
 have holdc:∀j u,olds[j]? = some u→cur[j]? = some u:=fun j u hj=>by
  have hjl:=(Ad.1 hj).1;rw [← holds,Hy hn xs i bB,← htk,List.take_take,Ds] at hj;rw [if_pos bB] at hj;simpa using hj
 have hb2:(L+1)*i0.bytes≤140737488355328:=As (Nat.mul_le_mul (show L+1≤1001 by omega) hib) bE;have hap:=Lib.run_append_grow_zeros (P:=P) w t ti;have hG:∀ty,(Bo #[t,ti] ty #[dI (some ⟨g,0,none⟩) i c,dH dN ((L+1 - i:Nat):Int)]).run P w = .ok (dI (some ⟨w,0,none⟩) (i+(L+1 - i)) (grownCap w (i+(L+1 - i)) c e)) (w.drew.alloc (.cells (olds.toArray++A5 zz.cells (L+1 - i)++A5 zz.cells (grownCap w (i+(L+1 - i)) c e - (i+(L+1 - i)))) e)):=fun ty=>
  hap ty e i0 zz .i64 .i64 h.ht hti hii hiz (some ⟨g,0,none⟩) i c olds (run_firstCells_some w.drew i0.size i ⟨g,0,none⟩ i c olds (by rw [his];exact hol) (fun j v hj=>by rw [Bn,hblk.drew.cell,BI];exact holdc j v hj)) (L+1 - i) bB bB bB bB (by
   have:(L+1 - i)*i0.bytes≤(L+1)*i0.bytes:=BW _ bB;omega) (by rw [show i+(L+1 - i)=L+1 by omega];exact growslice_fits hroom hb2)
 obtain⟨G,hGv⟩:=eX (grownCap w (i+(L+1 - i)) c e);have hGge:L+1≤G:=by rw [← hGv,show i+(L+1 - i)=L+1 by omega];exact grownCap_ge _ _ _ _
 rw [hGv] at hG;obtain⟨ROW,hROW⟩:=eX (olds.toArray++A5 zz.cells (L+1 - i)++A5 zz.cells (G - (i+(L+1 - i))));rw [hROW] at hG;have hz1:∀k,(A5 zz.cells k).size=k*n:=fun k=>by simp [A5,hizs]
 have hRs:(L+1)*n≤ROW.size:=by
  rw [← hROW];simp only [Array.size_append,hz1,Cx,hol];omega
 have hRt:ROW.toList.take (i*n)=olds:=by
  rw [← hROW];simp only [Array.toList_append];rw [CO];exact Jp _ _ _ hol
 have hN:=Blk.new w.drew e ROW;have hNs:w.drew.heap.size=w.heap.size:=rfl;rw [hNs] at hN;have hk1:Aa [] w (w.drew.alloc (.cells ROW e)):=((Aa.refl [] w).drew).alloc _;obtain⟨W1,hW1⟩:=eX (w.drew.alloc (.cells ROW e));rw [hW1] at hN hk1 hG;obtain⟨cs1,hb1,hc1⟩:=Blk.setAll (enc r) (i*n) W1 ROW hN YJ;have hb1s:cs1.size=ROW.size:=by rw [← BL,hc1];simp [hn];omega
 have hk2:Aa [w.heap.size] W1 (W1.setCells w.heap.size (i*n) (enc r)):=Aa.setCells (.inl bA) _ _ (Aa.refl _ _);obtain⟨W2,hW2⟩:=eX (W1.setCells w.heap.size (i*n) (enc r));have hglt:=hblk.lt;have hg2:Blk W2 g e cur:=by rw [← hW2];exact(hblk.keeps hk1 bA).keeps hk2 bG
 rw [hW2] at hb1 hk2;obtain⟨cs2,hb2',hc2⟩:=Blk.setAll news ((i+1)*n) W2.drew cs1 hb1.drew (by rw [hb1s];omega);refine⟨w,G,W1,W2,W2.drew.setCells w.heap.size ((i+1)*n) news,⟨fun W=>?_,fun W=>h.s_h W g 0 L c i bB,fun ty=>?_,fun W=>?_,fun ty=>?_,fun W=>?_,fun ty=>?_,?_,?_,Ap _⟩⟩
 ·have:=h.s_l W g 0 L c i bB hle
  rw [if_neg bB,BI] at this;exact this
 ·have:=hG ty
  rw [show i+(L+1 - i)=L+1 by omega,show((L+1 - i:Nat):Int)=(L:Int)+1 - (i:Int) by omega] at this;exact this
 ·have:=h.s_l W w.heap.size 0 (L+1) G i bB hGge
  rw [if_neg bB,BI] at this;exact this
 ·rw [← hW2]
  refine h.copy W1 ty w.heap.size (i*n) (L+1 - i) _ ⟨vb,0,none⟩ 1 1 1 (enc r) ROW ZX YJ (fun j v hj=>?_) hN YJ (fun u hu=>hone r u hu);rw [Bn,(hv.keeps hk1 bA).cell,BI];simpa using hj
 ·have:=h.s_l W w.heap.size 0 (L+1) G (i+1) bB hGge
  rw [if_neg bB,BI,show L+1 - (i+1)=L - i by omega] at this;exact this
 ·refine h.copy W2.drew ty w.heap.size ((i+1)*n) (L - i) _ ⟨g,i*n,none⟩ (L - i) _ (L - i) news cs1 (Nat.min_self _) hnl (fun j v hj=>?_) hb1.drew (by rw [hb1s];omega) (fun u hu=>?_)
  ·rw [Bn,hg2.drew.cell];exact hnewc j v hj
  ·rw [← hnews] at hu
   obtain⟨x,_,hx⟩:=DL.1 hu;exact hone x u hx
 ·refine AJ.of_cells hn hb2' bG ?_
  have hlen:(xs.take i++r::xs.drop i).length=L+1:=by simp;omega
  have k1:cs1.toList.take ((i+1)*n)=olds++enc r:=by
   rw [hc1,hRt];exact Jp _ _ _ (by rw [Ag,hol,hn];omega)
  rw [hlen,hc2,k1,Bt,List.flatMap_cons,holds,hnews];rw [show olds++enc r++news++cs1.toList.drop ((i+1)*n+news.length)=(olds++(enc r++news))++cs1.toList.drop ((i+1)*n+news.length) by simp only [CO]];exact Jp _ _ _ (by simp only [Ag,hol,hn,hnl];omega)
 ·have hk3:Aa [w.heap.size] W2 (W2.drew.setCells w.heap.size ((i+1)*n) news):=((Aa.refl _ W2).drew).trans (Aa.setCells (.inl bA) _ _ (Aa.refl _ _))
  exact hk1.own (hk2.trans hk3) bF
end
end
section
open Go.RowKit Go.Shelf
attribute [local go_sem] Oper.semAt_some
attribute [local go_sem ↓] Go.wp_at_zero Go.wp_at_succ
theorem Gv:Jw Tryz.prog 121 59 5 (dK #[dL false,dH dN 0,dH dN 0,dH dN 0,dH dN 0]):=⟨by kernel_rfl,by kernel_rfl,by kernel_rfl,fun W=>by kernel_rfl,fun W=>by kernel_rfl,by kernel_rfl,by
 intro u hu;simp only [Value.cells,Ac,Ab,or_false] at hu;rcases hu with rfl | rfl | rfl | rfl | rfl<;>rfl⟩
theorem Un(xs:List EW)(L i g c B:Nat)(hL:xs.length=L)(hi:i<L)(h1000:L≤1000)(w:World)(hr:w.ownsRow B 59 5 (dI (some ⟨g,0,none⟩) L c) L (xs.flatMap B7)):
  Calls Tryz.prog 337 #[dI (some ⟨g,0,none⟩) L c,dH dN (i:Int),dH dN ((i:Int)+1)] w fun e w'=>e = dM (dI (some ⟨g,0,none⟩) (L - 1) c)∧AJ B7 5 w' (some ⟨g,0,none⟩) c (xs.eraseIdx i)∧Aa [g] w w':=by
 obtain⟨X,A,W1,W2,hD⟩:=Gv.del Di Fx hL hi h1000 w hr;have hs1:=hD.s1;have hs2:=hD.s2;have hs3:=hD.s3;have hs4:=hD.s4;have hcl:=hD.cl 121;have hcl0:=hD.cl;have HD:=lH hD;have hij:((i:Int)==(i:Int)+1)=false:=by simp;omega
 clear hD hr hL hi;go_enter Tryz.func337,Tryz.ntmps337;go_wp2_with (fail)
 go_region_law (refine BA _ _ 121 bD bD bD bD (HD.out.ap _) ?_)
 all_goals
  go_wp2;go_ret;exact⟨rfl,HD.out.fin,HD.out.keep⟩
theorem X6:Jw Tryz.prog 33 78 24 (dK #[dH dN 0,dH dN 0,CZ ⟨#[]⟩,CZ ⟨#[]⟩,dH dN 0,dH dN 0,CZ ⟨#[]⟩,dH dN 0,dH dN 0,dL false,dH dN 0,dH dN 0,dH dN 0,dH dN 0,CZ ⟨#[]⟩,dH dN 0,dH dN 0,dH dN 0,dH dN 0,dH dN 0,dH dN 0,CZ ⟨#[]⟩,dH dN 0,dH dN 0]):=⟨by kernel_rfl,by kernel_rfl,by kernel_rfl,fun W=>by kernel_rfl,fun W=>by kernel_rfl,by kernel_rfl,by
 intro u hu;simp only [Value.cells,Ac,Ab,or_false] at hu;rcases hu with rfl | rfl | rfl | rfl | rfl | rfl | rfl | rfl | rfl | rfl | rfl | rfl | rfl | rfl | rfl | rfl | rfl | rfl | rfl | rfl | rfl | rfl | rfl | rfl<;>rfl⟩
theorem Wo(xs:List BC)(L i g c B:Nat)(hL:xs.length=L)(hi:i<L)(h1000:L≤1000)(w:World)(hr:w.ownsRow B 78 24 (dI (some ⟨g,0,none⟩) L c) L (xs.flatMap encJob)):
  Calls Tryz.prog 61 #[dI (some ⟨g,0,none⟩) L c,dH dN (i:Int),dH dN ((i:Int)+1)] w fun e w'=>e = dM (dI (some ⟨g,0,none⟩) (L - 1) c)∧AJ encJob 24 w' (some ⟨g,0,none⟩) c (xs.eraseIdx i)∧Aa [g] w w':=by
 obtain⟨X,A,W1,W2,hD⟩:=X6.del D8 I2 hL hi h1000 w hr;have hs1:=hD.s1;have hs2:=hD.s2;have hs3:=hD.s3;have hs4:=hD.s4;have hcl:=hD.cl 33;have hcl0:=hD.cl;have HD:=lH hD;have hij:((i:Int)==(i:Int)+1)=false:=by simp;omega
 clear hD hr hL hi;go_enter Tryz.func61,Tryz.ntmps61;go_wp2_with (fail)
 go_region_law (refine BA _ _ 33 bD bD bD bD (HD.out.ap _) ?_)
 all_goals
  go_wp2;go_ret;exact⟨rfl,HD.out.fin,HD.out.keep⟩
theorem CT:Jw Tryz.prog 27 124 8 (.agg Mr.k):=⟨by kernel_rfl,by kernel_rfl,by kernel_rfl,fun W=>by kernel_rfl,fun W=>by kernel_rfl,by kernel_rfl,by
 intro u hu;simp only [Value.cells,Ac,Ab,or_false] at hu;rcases hu with rfl | rfl | rfl | rfl | rfl | rfl | rfl | rfl<;>rfl⟩
theorem Qb(xs:List TV)(L i g c B:Nat)(hL:xs.length=L)(hi:i<L)(h1000:L≤1000)(w:World)(hr:w.ownsRow B 124 8 (dI (some ⟨g,0,none⟩) L c) L (xs.flatMap BM)):
  Calls Tryz.prog 200 #[dI (some ⟨g,0,none⟩) L c,dH dN (i:Int),dH dN ((i:Int)+1)] w fun e w'=>e = dM (dI (some ⟨g,0,none⟩) (L - 1) c)∧AJ BM 8 w' (some ⟨g,0,none⟩) c (xs.eraseIdx i)∧Aa [g] w w':=by
 obtain⟨X,A,W1,W2,hD⟩:=CT.del CU Fp hL hi h1000 w hr;have hs1:=hD.s1;have hs2:=hD.s2;have hs3:=hD.s3;have hs4:=hD.s4;have hcl:=hD.cl 27;have hcl0:=hD.cl;have HD:=lH hD;have hij:((i:Int)==(i:Int)+1)=false:=by simp;omega
 clear hD hr hL hi;go_enter Tryz.func200,Tryz.ntmps200;go_wp2_with (fail)
 go_region_law (refine BA _ _ 27 bD bD bD bD (HD.out.ap _) ?_)
 all_goals
  go_wp2;go_ret;exact⟨rfl,HD.out.fin,HD.out.keep⟩
theorem N0{w:World}{vb g k:Nat}{ta tb:TypeId}{ca cb:Array Value}(hv:Blk w vb ta ca)(hg:Blk w g tb cb)(hne:vb≠g)(hcb:cb.size≠0)(lb c:Nat):
  (callFunc 354 #[dI (some ⟨vb,0,none⟩) 1 1,dI (some ⟨g,k,none⟩) lb c]).run Tryz.prog w = .ok (.value (dL false)) w:=by
 rw [run_callFunc_extern Tryz.func354 bC bC bC (e:=Extern.SlicesOverlaps.overlaps #[121,121] #[4]) bC,
  Lib.run_overlaps_apart w 121 4 59 Gv.ht 5 Gv.sz ⟨vb,0,none⟩ ⟨g,k,none⟩ 1 1 lb c hne ta tb ca.size cb.size (by unfold Blk at hv;simp [World.shape?,hv]) (by unfold Blk at hg;simp [World.shape?,hg]) hcb (hv.frozen 0) (hv.frozen _)]
 rfl
def IY(B:Nat)(xs:List EW)(r:EW)(L i:Nat)(S:List Nat)(w:World):Ending→World→Prop:=fun e w'=>∃a c,e = dM (dI a (L+1) c)∧Mq w' a c (xs.take i++r::xs.drop i)∧Aa S w w'∧∀g o,a=some ⟨g,o,none⟩→B≤g
theorem Wv(xs:List EW)(r:EW)(L c B vb:Nat)(a:Option Addr)(hL:xs.length=L)(h1000:L≤1000)(w:World)(hB:B≤w.heap.size)(hr:w.ownsRow B 59 5 (dI a L c) L (xs.flatMap B7))(hv:Blk w vb 59 (B7 r).toArray):
  Calls Tryz.prog 336 #[dI a L c,dH dN (L:Int),dI (some ⟨vb,0,none⟩) 1 1] w (IY B xs r L L (dI a L c).ownBlock.toList w):=by
 have hsl:AJ B7 5 w (some ⟨vb,0,none⟩) 1 [r]:=AJ.of_cells Di hv bA (by simp [B7]);obtain⟨i0,z,hi1,hi2,hi3,hi4,hi5⟩:=BK Gv.hi;obtain⟨v',w',h1,h2,h3⟩:=AJ.app (c:=1) Tryz.prog Tryz.underlying121 hi1 hi2 hi3 rfl hi4 bE Di Fx (show w.ownsRow B 59 5 (dI a L c) xs.length (xs.flatMap B7) by rw [hL];exact hr) hB hsl bG hi5 121;obtain⟨a',c',rfl,hs',hge'⟩:=AJ.of_row Di h2;have hfin:IY B xs r L L (dI a L c).ownBlock.toList w (dM (.slice a' (xs++[r]).length c')) w':=⟨a',c',by simp [hL],by rw [← hL,List.take_length,List.drop_length];exact hs',(Aa.refl _ w).grown h3 (fun k hk=>.inl Yi),hge'⟩;obtain⟨q,hq⟩:=eX ((xs++[r]).length);rw [hq] at h1 hfin;have HF:=lH hfin;obtain⟨X,hX⟩:∃X,∀W,(AG 121 (dI a L c) (some (dH dN (L:Int))) none none).run Tryz.prog W = .ok X W:=by
  rcases hr.2 with⟨h0,h1⟩ | ⟨g,cap,cur,h0,hb,hg,hle,_⟩
  ·have h1:L=0:=h1
   subst h1;injection h0 with h0 _ h2
   subst h0;subst h2;exact⟨dI none 0 0,fun W=>by kernel_rfl⟩
  ·injection h0 with h0 _ h2
   subst h0;subst h2;exact⟨_,fun W=>Gv.s_l W g 0 L c L (Ap _) hle⟩
 have hij:((L:Int)==(L:Int))=true:=by simp
 clear hsl hi1 hi2 hi3 hi4 hi5 h2 h3 hs' hfin hq hr hv hL;simp only [AW] at h1;go_enter Tryz.func336,Tryz.ntmps336;go_wp2_with (at_builtin;refine Ar _ rfl _ _ 121 rfl rfl rfl h1 ?_);go_ret;exact HF.out
theorem UB(xs:List EW)(r:EW)(L i g c B vb:Nat)(hL:xs.length=L)(hi:i<L)(hroom:L+1≤c)(h1000:L≤1000)(w:World)(hr:w.ownsRow B 59 5 (dI (some ⟨g,0,none⟩) L c) L (xs.flatMap B7))(hv:Blk w vb 59 (B7 r).toArray)(hne:vb≠g):
  Calls Tryz.prog 336 #[dI (some ⟨g,0,none⟩) L c,dH dN (i:Int),dI (some ⟨vb,0,none⟩) 1 1] w (IY B xs r L i [g] w):=by
 have HGB:=lH (AP hr g Yg);obtain⟨W1,W2,hI⟩:=Gv.ins Di Fx r hL hi hroom h1000 w hr hv hne;obtain⟨cs,hblk⟩:=Em hr rfl;have hcs:cs.size≠0:=by
  rcases hr.2 with⟨h0,_⟩ | ⟨g',c',cur,e1,hb,hg,hle,hcm,hs,htk⟩
  ·cases h0
  ·injection e1 with e1 _ e2
   injection e1 with e1;injection e1 with e1 _
   subst e1;subst e2;have h1:Blk w g 59 cur:=hg;unfold Blk at h1 hblk;rw [h1] at hblk;injection hblk with hblk;injection hblk with hblk
   rw [← hblk,hs];omega
 have hov:=fun k lb c=>N0 (k:=k) hv hblk hne hcs lb c;have hs1:=hI.s1;have hs2:=hI.s2;have hs3:=hI.s3;have hs4:=hI.s4;have hc1:=hI.c1;have hc2:=hI.c2;have HI:=lH hI;have hw1:IntKind.i64.wrap ((L:Int)+1)=(L:Int)+1:=IntWalk.i64_in _ bB;have hw2:IntKind.i64.wrap ((i:Int)+1)=(i:Int)+1:=IntWalk.i64_in _ bB;have hij:((i:Int)==(L:Int))=false:=by simp;omega
 have hlc:¬(c:Int)<(L:Int)+1:=by omega
 clear hI hr hv hblk hcs hL hi hroom hne;go_enter Tryz.func336,Tryz.ntmps336;go_wp2_with (fail);go_region;all_goals
  go_wp2;go_ret;exact⟨_,_,rfl,HI.out.fin,HI.out.keep,fun g' o' e=>by(injection e with e;injection e with e _;rw [← e];exact HGB.out)⟩
theorem UA(xs:List EW)(r:EW)(L i g c B vb:Nat)(hL:xs.length=L)(hi:i<L)(hroom:c<L+1)(h1000:L≤1000)(w:World)(hB:B≤w.heap.size)(hr:w.ownsRow B 59 5 (dI (some ⟨g,0,none⟩) L c) L (xs.flatMap B7))(hv:Blk w vb 59 (B7 r).toArray):
  Calls Tryz.prog 336 #[dI (some ⟨g,0,none⟩) L c,dH dN (i:Int),dI (some ⟨vb,0,none⟩) 1 1] w (IY B xs r L i [g] w):=by
 have HBW:=lH hB;clear hB;obtain⟨N,G,W1,W2,W3,hI⟩:=Gv.insG (ti:=3) Tryz.underlying3 bE Di Fx r hL hi hroom h1000 w hr hv;have hs1:=hI.s1;have hs2:=hI.s2;have hs3:=hI.s3;have hs4:=hI.s4;have hap:=hI.ap 121;have hc1:=hI.c1;have hc2:=hI.c2;have HI:=lH hI;have hw1:IntKind.i64.wrap ((L:Int)+1)=(L:Int)+1:=IntWalk.i64_in _ bB;have hw2:IntKind.i64.wrap ((i:Int)+1)=(i:Int)+1:=IntWalk.i64_in _ bB;have hw3:IntKind.i64.wrap ((L:Int)+1 - (i:Int))=(L:Int)+1 - (i:Int):=IntWalk.i64_in _ bB;have hij:((i:Int)==(L:Int))=false:=by simp;omega
 have hlc:(c:Int)<(L:Int)+1:=by omega
 clear hI hr hv hL hi hroom;go_enter Tryz.func336,Tryz.ntmps336;go_wp2_with (at_builtin;refine Lib.wpList_append_run _ rfl _ _ _ _ rfl _ _ rfl rfl _ _ hap ?_);go_region;all_goals
  go_wp2;go_ret;exact⟨_,_,rfl,HI.out.fin,HI.out.keep.mono bA,fun g' o' e=>by(injection e with e;injection e with e _;rw [← e];exact As HBW.out HI.out.ge)⟩
theorem Ru(xs:List EW)(r:EW)(L i c B vb:Nat)(a:Option Addr)(hL:xs.length=L)(hi:i≤L)(h1000:L≤1000)(w:World)(hB:B≤w.heap.size)(hr:w.ownsRow B 59 5 (dI a L c) L (xs.flatMap B7))(hv:Blk w vb 59 (B7 r).toArray)(hne:∀g,(dI a L c).ownBlock=some g→vb≠g):
  Calls Tryz.prog 336 #[dI a L c,dH dN (i:Int),dI (some ⟨vb,0,none⟩) 1 1] w (IY B xs r L i (dI a L c).ownBlock.toList w):=by
 rcases Nat.lt_or_ge i L with h | h
 ·rcases hr.2 with⟨h0,h1⟩ | ⟨g,cap,cur,h0,hb,hg,hle,_⟩
  ·have h1:L=0:=h1
   omega
  ·injection h0 with h0 _ h2
   subst h0;subst h2;rcases Nat.lt_or_ge c (L+1) with h3 | h3
   ·exact UA xs r L i g c B vb hL h h3 h1000 w hB hr hv
   ·exact UB xs r L i g c B vb hL h h3 h1000 w hr hv (hne g rfl)
 ·obtain rfl:i=L:=by omega
  exact Wv xs r i c B vb a hL h1000 w hB hr hv
def GB(B:Nat)(w:World)(u:Value)(l:List EW):Prop:=∃a c,u = dI a l.length c∧Mq w a c l∧∀g o,a=some ⟨g,o,none⟩→B≤g
theorem GB.none_(B:Nat)(w:World):GB B w (dI none 0 0) []:=⟨none,0,rfl,AJ.none_,fun _ _ e=>by cases e⟩
theorem PF(a:Option Addr)(c:Nat)(L:List EW)(n:Nat)(hn:L.length=n)(hL:n≤1000)(at_:Int)(w:World)(E:Nat→Addr)(hE:Ez w E)(h:Mq w a c L):
  Calls Tryz.prog 298 #[dI a n c,dH dN at_] w (fun e w'=>∃u,e = dM (.tuple #[u,dH dN (B8 L at_).2])∧GB w.heap.size w' u (B8 L at_).1∧Aa [] w w'):=by
 obtain⟨b1,hb1⟩:=eX (DD L);have HR:=lH (It a c L n hn bB b1 hb1 w h);have HH:=lH h;have HN:=lH hn;have HE:=lH hE;have HB:=lH hb1;have e5:=hE.cell 5 bA;have e6:=hE.cell 6 bA;clear h hn hE hb1;cases b1 with
 | false=>
  have HC:Hid (B8 L at_=([],81)):=lH (by unfold B8;rw [HB.out];rfl);rw [HC.out];dsimp only;go_enter Tryz.func298,Tryz.ntmps298;go_wp2_with (fail);refine HR.out.mono ?_;rintro e w1 ⟨rfl,hk1⟩;have e5:=(HE.out.keep hk1).cell 5 bA;have HK1:=lH hk1;clear hk1;go_wp2_with (fail);refine(Jr w1 (HE.out.keep HK1.out)).mono ?_;rintro e w2 ⟨rfl,rfl⟩;go_wp2_with (fail);exact bodyPost_ret (v:=.tuple #[dI none 0 0,dH dN 81]) (by simp [results,Tryz.results298,go_sem]) rfl ⟨_,rfl,GB.none_ _ _,HK1.out⟩
 | true=>
  by_cases hat:at_<0∨(n:Int)≤at_
  ·have HC:Hid (B8 L at_=([],82)):=lH (by unfold B8;rw [HB.out,if_pos rfl,if_pos Zz])
   rw [HC.out];dsimp only;have hf:at_<0∨(¬at_<0∧at_≥(n:Int)):=by omega
   clear hat;go_enter Tryz.func298,Tryz.ntmps298;go_wp2_with (fail);refine HR.out.mono ?_;rintro e w1 ⟨rfl,hk1⟩;have e6:=(HE.out.keep hk1).cell 6 bA;have HK1:=lH hk1;clear hk1;rcases hf with hf | ⟨hf1,hf2⟩
   ·go_wp2_with (fail)
    refine(G4 w1 (HE.out.keep HK1.out)).mono ?_;rintro e w2 ⟨rfl,rfl⟩;go_wp2_with (fail);exact bodyPost_ret (v:=.tuple #[dI none 0 0,dH dN 82]) (by simp [results,Tryz.results298,go_sem]) rfl ⟨_,rfl,GB.none_ _ _,HK1.out⟩
   ·go_wp2_with (fail)
    refine(G4 w1 (HE.out.keep HK1.out)).mono ?_;rintro e w2 ⟨rfl,rfl⟩;go_wp2_with (fail);exact bodyPost_ret (v:=.tuple #[dI none 0 0,dH dN 82]) (by simp [results,Tryz.results298,go_sem]) rfl ⟨_,rfl,GB.none_ _ _,HK1.out⟩
  ·obtain⟨i,rfl,hi⟩:=Kx (i:=at_) (u:=n) bB bB
   have HC:Hid (B8 L (i:Int)=(L.eraseIdx i,0)):=lH (by unfold B8;rw [HB.out,if_pos rfl,if_neg Zz,Int.toNat_natCast]);rw [HC.out];dsimp only;have hf1:¬((i:Int)<0):=by omega
   have hf2:¬((n:Int)≤(i:Int)):=by omega
   have hw2:IntKind.i64.wrap ((i:Int)+1)=(i:Int)+1:=IntWalk.i64_in _ bB;clear hat;go_enter Tryz.func298,Tryz.ntmps298;go_wp2_with (fail);refine HR.out.mono ?_;rintro e w1 ⟨rfl,hk1⟩;have HK1:=lH hk1;clear hk1;go_wp2_with (fail);refine(IR a c L n HN.out bB w1 (HH.out.keeps HK1.out)).mono ?_;rintro e w2 ⟨a2,c2,rfl,hs2,hr2,hk2⟩;obtain⟨g2,rfl⟩:∃g2,a2=some ⟨g2,0,none⟩:=by
    rcases hr2.2 with⟨e0,e1⟩ | ⟨g,cap,cur,e0,_⟩
    ·have e1:n=0:=e1
     omega
    ·injection e0 with e0 _ _
     exact⟨g,e0⟩
   have hg2:=AP hr2 g2 Yg;have HK2:=lH hk2;have HR2:=lH hr2;have HG2:=lH hg2;clear hs2 hr2 hk2 hg2;go_wp2_with (fail);refine(Un L n i g2 c2 _ HN.out hi hL w2 HR2.out).mono ?_;rintro e w3 ⟨rfl,hs3,hk3⟩;have HK3:Hid (Aa [] w w3):=lH ((HK1.out.trans HK2.out).own hk3 (fun y hy=>by simp only [Ac,Ab,or_false] at hy;have:=HG2.out;have:=HK1.out.size;omega));have HS3:=lH hs3;have hel:(L.eraseIdx i).length=n - 1:=by rw [List.length_eraseIdx,if_pos (by rw [HN.out];exact hi),HN.out]
   have HEL:=lH hel;clear hs3 hk3 hel;go_wp2_with (fail);exact bodyPost_ret (v:=.tuple #[dI (some ⟨g2,0,none⟩) (n - 1) c2,dH dN 0]) (by simp [results,Tryz.results298,go_sem]) rfl ⟨_,rfl,⟨_,c2,by rw [HEL.out],HS3.out,fun g o e=>by(injection e with e;injection e with e _;rw [← e];exact As HK1.out.size HG2.out)⟩,HK3.out⟩
theorem PE(a:Option Addr)(c:Nat)(L:List EW)(n:Nat)(hn:L.length=n)(hL:n≤999)(at_:Int)(r:EW)(w:World)(E:Nat→Addr)(hE:Ez w E)(h:Mq w a c L):
  Calls Tryz.prog 297 #[dI a n c,dH dN at_,dK (L_ r)] w (fun e w'=>∃u,e = dM (.tuple #[u,dH dN (Bp L at_ r).2])∧GB w.heap.size w' u (Bp L at_ r).1∧Aa [] w w'):=by
 obtain⟨b1,hb1⟩:=eX (DD L);obtain⟨b2,hb2⟩:=eX (Jj r);obtain⟨wz,hwz⟩:=eX (w.alloc (.cells (L_ r) 59));have HZ:Hid (Aa [] w wz):=lH Y7;have HBX:Hid (Blk wz w.heap.size 59 (L_ r)):=lH aD;have HR:=lH (It a c L n hn bB b1 hb1 wz (h.keeps HZ.out));have HRR:=lH (G2 r b2 hb2);have HH:=lH (h.keeps HZ.out);have HN:=lH hn;have HE:=lH (hE.keep HZ.out);have HB:=lH hb1;have HB2:=lH hb2;clear h hn hE hb1 hb2;go_enter Tryz.func297,Tryz.ntmps297;go_wp2_with (fail);clear hwz;refine HR.out.mono ?_;rintro e w1 ⟨rfl,hk1⟩;have HK1:=lH hk1;have e5:=(HE.out.keep hk1).cell 5 bA;have hbx:=HBX.out.keeps hk1 bA;have d0:=hbx.ce 0;have d1:=hbx.ce 1;have d2:=hbx.ce 2;have d3:=hbx.ce 3;have d4:=hbx.ce 4;have HBX1:=lH hbx;clear hk1 hbx;cases b1 with
 | false=>
  have HC:Hid (Bp L at_ r=([],81)):=lH (by unfold Bp;rw [HB.out];rfl);go_wp2_with (fail);refine(Jr w1 (HE.out.keep HK1.out)).mono ?_;rintro e w2 ⟨rfl,rfl⟩;go_wp2_with (fail);exact bodyPost_ret (v:=.tuple #[dI none 0 0,dH dN 81]) (by simp [results,Tryz.results297,go_sem]) rfl ⟨_,by rw [HC.out],by rw [HC.out];exact GB.none_ _ _,HZ.out.trans HK1.out⟩
 | true=>
  go_wp2_with (fail);refine(HRR.out w1).mono ?_;rintro e w2 ⟨rfl,hk2⟩;have HK2:=lH (HK1.out.trans hk2);have e2:=(HE.out.keep HK2.out).cell 2 bA;have e6:=(HE.out.keep HK2.out).cell 6 bA;have hbx:=HBX.out.keeps HK2.out bA;clear d0 d1 d2 d3 d4 e5;have d0:=hbx.ce 0;have d1:=hbx.ce 1;have d2:=hbx.ce 2;have d3:=hbx.ce 3;have d4:=hbx.ce 4;have HBX2:=lH hbx;clear hk2 hbx;cases b2 with
  | false=>
   have HC:Hid (Bp L at_ r=([],80)):=lH (by unfold Bp;rw [HB.out,if_pos rfl,HB2.out];rfl);go_wp2_with (fail);refine(Dd w2 (HE.out.keep HK2.out)).mono ?_;rintro e w3 ⟨rfl,rfl⟩;go_wp2_with (fail);exact bodyPost_ret (v:=.tuple #[dI none 0 0,dH dN 80]) (by simp [results,Tryz.results297,go_sem]) rfl ⟨_,by rw [HC.out],by rw [HC.out];exact GB.none_ _ _,HZ.out.trans HK2.out⟩
  | true=>
   by_cases hat:at_<0∨(n:Int)<at_∨16≤n
   ·have HC:Hid (Bp L at_ r=([],82)):=lH (by unfold Bp;rw [HB.out,if_pos rfl,HB2.out,if_pos rfl,if_pos Zz])
    have hf:at_<0∨(¬at_<0∧(n:Int)<at_)∨(¬at_<0∧¬(n:Int)<at_∧(16:Int)≤(n:Int)):=by omega
    clear hat;rcases hf with hf | ⟨hf1,hf2⟩ | ⟨hf1,hf2,hf3⟩<;>
    ·go_wp2_with (fail)
     refine(G4 w2 (HE.out.keep HK2.out)).mono ?_;rintro e w3 ⟨rfl,rfl⟩;go_wp2_with (fail);exact bodyPost_ret (v:=.tuple #[dI none 0 0,dH dN 82]) (by simp [results,Tryz.results297,go_sem]) rfl ⟨_,by rw [HC.out],by rw [HC.out];exact GB.none_ _ _,HZ.out.trans HK2.out⟩
   ·have hi:at_.toNat≤n:=by omega
    obtain⟨i,rfl⟩:∃i:Nat,at_=i:=⟨at_.toNat,by omega⟩;rw [Int.toNat_natCast] at hi;have HC:Hid (Bp L (i:Int) r=(L.take i++r::L.drop i,0)):=lH (by unfold Bp;rw [HB.out,if_pos rfl,HB2.out,if_pos rfl,if_neg Zz,Int.toNat_natCast]);have hf1:¬((i:Int)<0):=by omega
    have hf2:¬((n:Int)<(i:Int)):=by omega
    have hf3:¬((16:Int)≤(n:Int)):=by omega
    have hlen:(L.take i++r::L.drop i).length=n+1:=by have:=HN.out;simp;omega
    have HLEN:=lH hlen;have HS:Hid (∀W,Aa [] w2 W→Aa [] w2 W∧W.cell? ⟨w,0,none⟩=some (dL r.allow)∧W.cell? ⟨w,1,none⟩=some (dH dN r.addr)∧W.cell? ⟨w,2,none⟩=some (dH dN r.bits)∧W.cell? ⟨w,3,none⟩=some (dH dN r.from_)∧W.cell? ⟨w,4,none⟩=some (dH dN r.to_)):=lH fun W hk=>⟨hk,(HBX2.out.keeps hk bA).cell 0,(HBX2.out.keeps hk bA).cell 1,(HBX2.out.keeps hk bA).cell 2,(HBX2.out.keeps hk bA).cell 3,(HBX2.out.keeps hk bA).cell 4⟩;clear hat hlen e2 e6 d0 d1 d2 d3 d4;go_wp2_with (fail);refine wp_region_held_drew (S:=(fun w':World=>Aa [] w2 w'∧w'.cell? ⟨w,0,none⟩=some (dL r.allow)∧w'.cell? ⟨w,1,none⟩=some (dH dN r.addr)∧w'.cell? ⟨w,2,none⟩=some (dH dN r.bits)∧w'.cell? ⟨w,3,none⟩=some (dH dN r.from_)∧w'.cell? ⟨w,4,none⟩=some (dH dN r.to_))) bC Xy (fun hHeld=>?_);refine rQ 0 ?_;refine rQ 2 ?_;refine rQ 3 ?_;refine wpAnyH_ready (rs:=[1,4]) bC bA ?_;refine AllReadyH.cons rfl (fun K hK=>?_) ?_
    ·go_simp
     (refine(IR a c L n HN.out bB _ (HH.out.keeps (HK2.out.trans hHeld.1))).mono ?_;rintro r9 wb ⟨ac,cc,rfl,hcs,hcr,hck⟩)
     refine rO hK Xy fun hHeld=>?_;clear hK K;refine rC 4 fun K hK=>?_;go_simp;refine rO hK Xy fun hHeld=>?_;clear hK K;refine rC 5 fun K hK=>?_;go_simp
     (refine(Ru L r n i cc w2.heap.size wb.heap.size ac HN.out hi bB (wb.alloc (.cells (L_ r) 59)) (by(have:=hck.size;simp at this ⊢;omega)) (Ak hcr ((Aa.refl [] wb).alloc _) bA) (Blk.new wb 59 (L_ r)) (fun g hg=>by(have:=(hcr.lt g hg).2;omega))).mono ?_;rintro r8 wi ⟨ai,ci,rfl,his,hik,hig⟩;have hKI:Aa [] w2 wi:=((((Aa.refl [] w2).drew.trans hck).alloc _).own hik (fun y hy=>by(have:=hcr.lt y bU;simp at this ⊢;omega))))
     refine rO hK Xy fun hHeld=>?_;clear hK K;refine rQ 6 ?_;refine rQ 7 ?_;refine wpAnyH_done bC ?_ _
     (go_wp2_with (fail);exact bodyPost_ret (v:=.tuple #[dI ai (n+1) ci,dH dN 0]) (by simp [results,Tryz.results297,go_sem]) rfl ⟨_,by rw [HC.out],by(rw [HC.out];exact⟨ai,ci,by rw [HLEN.out],his,fun g o e=>As (As HZ.out.size HK2.out.size) (As bB (hig g o e))⟩),(HZ.out.trans HK2.out).trans hKI⟩)
    refine AllReadyH.cons rfl (fun K hK=>?_) ?_
    ·go_simp
     refine rO hK Xy fun hHeld=>?_;clear hK K;refine rC 1 fun K hK=>?_;go_simp
     (refine(IR a c L n HN.out bB _ (HH.out.keeps (HK2.out.trans hHeld.1))).mono ?_;rintro r9 wb ⟨ac,cc,rfl,hcs,hcr,hck⟩)
     refine rO hK Xy fun hHeld=>?_;clear hK K;refine rC 5 fun K hK=>?_;go_simp
     (refine(Ru L r n i cc (w2.heap.size+1) w2.heap.size ac HN.out hi bB wb (by(have:=hck.size;simp at this ⊢;omega)) (by simpa using hcr) ((Blk.new w2 59 (L_ r)).drew.keeps hck bA) (fun g hg=>by(have:=(hcr.lt g hg).1;simp at this;omega))).mono ?_;rintro r8 wi ⟨ai,ci,rfl,his,hik,hig⟩;have hKI:Aa [] w2 wi:=(((((Aa.refl [] w2).alloc _).drew).trans hck).own hik (fun y hy=>by(have:=hcr.lt y bU;simp at this ⊢;omega))))
     refine rO hK Xy fun hHeld=>?_;clear hK K;refine rQ 6 ?_;refine rQ 7 ?_;refine wpAnyH_done bC ?_ _
     (go_wp2_with (fail);exact bodyPost_ret (v:=.tuple #[dI ai (n+1) ci,dH dN 0]) (by simp [results,Tryz.results297,go_sem]) rfl ⟨_,by rw [HC.out],by(rw [HC.out];exact⟨ai,ci,by rw [HLEN.out],his,fun g o e=>As (As HZ.out.size HK2.out.size) (As bB (hig g o e))⟩),(HZ.out.trans HK2.out).trans hKI⟩)
    exact AllReadyH.nil
theorem Db.down{B B':Nat}{w:World}{x:Value}{l:List Ey}(h:Db B w x l)(hb:B'≤B):Db B' w x l:=by
 obtain⟨a,c,h1,h2,h3⟩:=h;exact⟨a,c,h1,h2,fun g o e=>As hb (h3 g o e)⟩
theorem KG{cb:Nat}{u:TV}{seq:Int}{c:FF}{now:Int}{res:Ten×Int}{w w':World}{er:Int}(h:res.2=er)(h0:er≠0)(hk:Aa [cb] w w'):Fq cb u seq c now res w (dM (.iface 239 (dK #[dH dN er]))) w':=⟨by rw [h,Fa,if_neg h0],fun e=>absurd (h▸e) h0,hk⟩
theorem Ud{cb:Nat}{u0:TV}{seq:Int}{c:FF}{now:Int}{res:Ten×Int}{w w':World}{t:Ten}{u:TV}(h:res=(t,0))(hb:Blk w' cb 170 (IM u seq c now))(ht:BU w' u t)(hk:Aa [cb] w w')(hg:EC w.heap.size u0 u):Fq cb u0 seq c now res w (dM .nilIface) w':=by
 subst h;exact⟨rfl,fun _=>⟨u,hb,ht,hg⟩,hk⟩
theorem Sk(cb:Nat)(u:TV)(t:Ten)(seq:Int)(c:FF)(now:Int)(hnow:0≤now∧now≤1000000000000)(w:World)(h:Blk w cb 170 (IM u seq c now))(ht:BU w u t)(hf:EX cb u):Calls Tryz.prog 248 #[dJ (some ⟨cb,0,none⟩)] w (Fq cb u seq c now (if t.state=1 then if c.n<1∨1000000000<c.n∨1000000000000<now+c.n then(t,2) else({ t with state:=3,deadline:=now+c.n },0) else(t,156)) w):=by
 have c3:=h.cell 3;simp only [IM,Ai,Ah,Al] at c3;have HB:=lH h;have HT:=lH ht;have HF:=lH hf;have hst:=ht.state;by_cases hs:u.state=1;rotate_left
 ·rw [if_neg YC]
  have f1:(u.state==1)=false:=by simpa using hs
  clear h ht hf hst hs;go_enter Tryz.func248,Tryz.ntmps248;go_wp2_with (fail);refine(NI cb 3 w).mono ?_;rintro e w1 ⟨rfl,rfl⟩;go_wp2;go_ret;exact⟨rfl,(fun e=>by cases e),Aa.refl _ _⟩
 ·rw [if_pos YC]
  obtain⟨res,hres⟩:∃res,(if c.n<1∨1000000000<c.n∨1000000000000<now+c.n then(t,(2:Int)) else({ t with state:=3,deadline:=now+c.n },0))=res:=⟨_,rfl⟩;rw [hres];have HRES:=lH hres;clear hres;have f1:(u.state==1)=true:=by simpa using hs
  clear h ht hf hst hs;go_enter Tryz.func248,Tryz.ntmps248;go_wp2_with (fail);refine(LK cb u seq c now 3 w HB.out).mono ?_;rintro e w1 ⟨rfl,hb,hk⟩;have d7:=hb.cell 7;have d19:=hb.cell 19;have d21:=hb.cell 21;have g7:=hb.frozen 7;simp only [IM,Ai,Ah,Al] at d7 d19 d21;have HB1:=lH hb;have HK:=lH hk;clear hb hk c3;by_cases h1:c.n<1
  ·go_wp2
   go_ret;exact KG (by rw [← HRES.out,if_pos (.inl h1)]) bE HK.out
  ·by_cases h2:1000000000<c.n
   ·go_wp2
    go_ret;exact KG (by rw [← HRES.out,if_pos (.inr (.inl h2))]) bE HK.out
   ·have hw:IntKind.i64.wrap (now+c.n)=now+c.n:=IntWalk.i64_in _ bB
    by_cases h3:1000000000000<now+c.n
    ·go_wp2
     go_ret;exact KG (by rw [← HRES.out,if_pos (.inr (.inr h3))]) bE HK.out
    ·have HR2:Hid (res=({ t with state:=3,deadline:=now+c.n },0)):=lH (by rw [← HRES.out,if_neg bB])
     go_wp2;go_ret;exact Ud (u:={ u with state:=3,deadline:=now+c.n }) HR2.out (HB1.out.set_ 7 (dH dN (now+c.n))) { HT.out.far (HK.out.trans (Ae w1 cb 7 (dH dN (now+c.n)))) HF.out with state:=rfl,deadline:=rfl } (HK.out.trans (Ae w1 cb 7 _)) ⟨.inl ⟨rfl,rfl⟩,.inl ⟨rfl,rfl⟩⟩
theorem On(cb:Nat)(u:TV)(t:Ten)(seq:Int)(c:FF)(now:Int)(w:World)(hg:Et w)(h:Blk w cb 170 (IM u seq c now))(ht:BU w u t)(hc:t.creds.length≤1000)(hf:EX cb u):Calls Tryz.prog 249 #[dJ (some ⟨cb,0,none⟩)] w (Fq cb u seq c now (if(AN t.creds c.key now c.n c.m).2.2=0 then({ t with creds:=(AN t.creds c.key now c.n c.m).1 },0) else(t,(AN t.creds c.key now c.n c.m).2.2)) w):=by
 have HS:Hid (∀W,Aa [] w W→Aa [] w W∧W.cell? ⟨cb,6,none⟩=some (dI u.ca u.cl u.cc)∧W.cell? ⟨cb,18,none⟩=some (CZ c.key)∧W.cell? ⟨cb,19,none⟩=some (dH dN c.n)∧W.cell? ⟨cb,20,none⟩=some (dH dN c.m)∧W.cell? ⟨cb,21,none⟩=some (dH dN now)):=lH fun W hk=>⟨hk,(h.keeps hk bA).cell 6,(h.keeps hk bA).cell 18,(h.keeps hk bA).cell 19,(h.keeps hk bA).cell 20,(h.keeps hk bA).cell 21⟩;have hgl:0<w.heap.size:=A4 w _ hg;have HR:=lH (fun W (hk:Aa [] w W)=>K1 u.ca u.cc t.creds u.cl ht.cl (by have:=ht.cl;omega) c.key now c.n c.m W (hg.keeps hk bA) (AT hgl hk.size) (ht.cs.keeps hk));have HB:=lH h;have HT:=lH ht;have HF:=lH hf;obtain⟨⟨l,id,er⟩,hr⟩:∃r,AN t.creds c.key now c.n c.m=r:=⟨_,rfl⟩;rw [hr] at HR ⊢;dsimp only at HR ⊢;obtain⟨res,hres⟩:∃res,(if er=0 then(({ t with creds:=l } : Ten),(0:Int)) else(t,er))=res:=⟨_,rfl⟩;rw [hres];have HRES:=lH hres;have hcl:cb<w.heap.size:=h.lt;have HFIN:Hid (∀(x:Value) (W:World),Aa [] w W→Db w.heap.size W x l→Fq cb u seq c now res w (dM (Fa er)) (W.setCell ⟨cb,6,none⟩ x)):=lH fun x W hk hx=>by
  have hk2:Aa [cb] w (W.setCell ⟨cb,6,none⟩ x):=(hk.mono bA).trans (Ae W cb 6 x);by_cases he:er=0
  ·obtain⟨a,c2,rfl,hs,hge⟩:=hx
   rw [he];refine Ud (t:={ t with creds:=l }) (u:={ u with ca:=a,cl:=l.length,cc:=c2 }) (by rw [← HRES.out,if_pos he]) ((HB.out.keeps hk bA).set_ 6 _) { HT.out.far hk2 HF.out with cl:=rfl,cs:=?_ } hk2 ⟨.inl ⟨rfl,rfl⟩,.inr hge⟩;exact AJ.keepsS hs (Ae W cb 6 _) (fun g o e hm=>by have:=hge g o e;simp only [Ac,Ab,or_false] at hm;omega)
  ·rw [Fa,if_neg he]
   exact KG (by rw [← HRES.out,if_neg he]) he hk2
 clear h ht hf hg hgl hc hr hres hcl;go_enter Tryz.func249,Tryz.ntmps249;go_wp2_with (fail);refine wp_region_held_drew (S:=(fun W:World=>Aa [] w W∧W.cell? ⟨cb,6,none⟩=some (dI u.ca u.cl u.cc)∧W.cell? ⟨cb,18,none⟩=some (CZ c.key)∧W.cell? ⟨cb,19,none⟩=some (dH dN c.n)∧W.cell? ⟨cb,20,none⟩=some (dH dN c.m)∧W.cell? ⟨cb,21,none⟩=some (dH dN now))) bC (by((try dsimp only);(first | exact HS.out _ (hHeld.1.trans hkr) | exact HS.out _ ((Aa.refl [] w).drew)))) (fun hHeld=>?_);refine rQ 0 ?_;refine rQ 1 ?_;refine rQ 2 ?_;refine rQ 3 ?_;refine rQ 4 ?_;refine rQ 5 ?_;refine rQ 6 ?_;refine rQ 7 ?_;refine rQ 8 ?_;refine rQ 9 ?_;refine rQ 10 ?_;refine rQ 11 ?_;refine rQ 12 ?_;refine rQ 13 ?_;refine rQ 14 ?_;refine rQ 15 ?_;refine rQ 16 ?_;refine rQ 17 ?_;refine rQ 18 ?_;refine rQ 19 ?_;refine rQ 20 ?_;refine rQ 21 ?_;refine rQ 22 ?_;refine rQ 23 ?_;refine rQ 24 ?_;refine rC 25 fun K hK=>?_;go_simp
 (refine(HR.out _ hHeld.1).mono ?_;rintro e wr ⟨x,rfl,hx,hkr⟩;have hkq:Aa [] w wr:=hHeld.1.trans hkr;obtain⟨xa,xc,rfl,hxs,hxg⟩:=Db.down hx hHeld.1.size)
 refine rO hK (by((try dsimp only);(first | exact HS.out _ (hHeld.1.trans hkr) | exact HS.out _ ((Aa.refl [] w).drew)))) fun hHeld=>?_;clear hK K;refine rQ 26 ?_;refine rQ 27 ?_;refine rQ 28 ?_;refine rQ 29 ?_;refine rQ 30 ?_;refine rQ 31 ?_;refine rQ 32 ?_;refine wpAnyH_done bC ?_ _
 (have f6:=(HB.out.keeps hHeld.1 bA).frozen 6;go_wp2_with (fail);refine(IA er _).mono ?_;rintro e wu ⟨rfl,rfl⟩;go_wp2_with (fail);exact bodyPost_ret (v:=Fa er) (by simp [results,Tryz.results249,go_sem]) rfl (HFIN.out _ _ hkq ⟨xa,xc,rfl,hxs,hxg⟩))
def RL(t:Ten)(c:FF):Ten×Int:=if 0≤c.at_ then if(Bp t.rules c.at_ c.rule).2=0 then({ t with rules:=(Bp t.rules c.at_ c.rule).1 },0) else(t,(Bp t.rules c.at_ c.rule).2)
  else if(B8 t.rules (-(c.at_+1))).2=0 then({ t with rules:=(B8 t.rules (-(c.at_+1))).1 },0) else(t,(B8 t.rules (-(c.at_+1))).2)
theorem Rg{cb:Nat}{u:TV}{t:Ten}{seq:Int}{c:FF}{now:Int}{w:World}{res:Ten×Int}{l:List EW}{er:Int}(hB:Blk w cb 170 (IM u seq c now))(hT:BU w u t)(hF:EX cb u)(hres:(if er=0 then(({ t with rules:=l } : Ten),(0:Int)) else(t,er))=res):
  ∀(x:Value) (W:World),Aa [] w W→GB w.heap.size W x l→Fq cb u seq c now res w (dM (Fa er)) (W.setCell ⟨cb,5,none⟩ x):=fun x W hk hx=>by
 have hcl:cb<w.heap.size:=hB.lt;have hk2:Aa [cb] w (W.setCell ⟨cb,5,none⟩ x):=(hk.mono bA).trans (Ae W cb 5 x);by_cases he:er=0
 ·obtain⟨a,c2,rfl,hs,hge⟩:=hx
  rw [he];refine Ud (t:={ t with rules:=l }) (u:={ u with ra:=a,rl:=l.length,rc:=c2 }) (by rw [← hres,if_pos he]) ((hB.keeps hk bA).set_ 5 _) { hT.far hk2 hF with rl:=rfl,rs:=?_ } hk2 ⟨.inr hge,.inl ⟨rfl,rfl⟩⟩;exact AJ.keepsS hs (Ae W cb 5 _) (fun g o e hm=>by have:=hge g o e;simp only [Ac,Ab,or_false] at hm;omega)
 ·rw [Fa,if_neg he]
  exact KG (by rw [← hres,if_neg he]) he hk2
theorem Uc(cb:Nat)(u:TV)(t:Ten)(seq:Int)(c:FF)(now:Int)(hat : -9223372036854775808≤c.at_∧c.at_≤9223372036854775807)(w:World)(E:Nat→Addr)(hE:Ez w E)(h:Blk w cb 170 (IM u seq c now))(ht:BU w u t)(hc:t.rules.length≤999)(hf:EX cb u):Calls Tryz.prog 250 #[dJ (some ⟨cb,0,none⟩)] w (Fq cb u seq c now (RL t c) w):=by
 have c12:=h.cell 12;have c5:=h.cell 5;have c13:=h.cell 13;have c14:=h.cell 14;have c15:=h.cell 15;have c16:=h.cell 16;have c17:=h.cell 17;simp only [IM,Ai,Ah,Al] at c12 c5 c13 c14 c15 c16 c17;have HB:=lH h;by_cases hp:0≤c.at_
 ·obtain⟨⟨l,er⟩,hr⟩:∃r,Bp t.rules c.at_ c.rule=r:=⟨_,rfl⟩
  have HI:=lH (fun W (hk:Aa [] w W)=>PE u.ra u.rc t.rules u.rl ht.rl (by have:=ht.rl;omega) c.at_ c.rule W E (hE.keep hk) (ht.rs.keeps hk));rw [hr] at HI;dsimp only at HI;obtain⟨res,hres⟩:=eX (RL t c);have HFIN:=lH (Rg (res:=res) (l:=l) (er:=er) h ht hf (by rw [← hres];unfold RL;rw [if_pos hp,hr]));rw [hres];clear h ht hf hE hc hr hres;go_enter Tryz.func250,Tryz.ntmps250;go_wp2_with (fail);refine wp_region_held_drew (S:=(fun _:World=>True)) bC trivial (fun hHeld=>?_)
  repeat' (first | exact rZ | refine rX ?_ | ((first | (refine rA 6 (fun K hK=>?_) ?_;go_simp) | (refine rA 12 (fun K hK=>?_) ?_;go_simp) | (refine rA 13 (fun K hK=>?_) ?_;go_simp;(refine(HI.out _ ((Aa.refl [] w).drew)).mono ?_;rintro e wr ⟨x,rfl,hx,hkr⟩;obtain⟨xa,xc,rfl,hxs,hxg⟩:=hx;have hkq:Aa [] w wr:=((Aa.refl [] w).drew).trans hkr;have e5:=hkq.cellsV _ _ c5;have f5:=(HB.out.keeps hkq bA).frozen 5)) | (refine rA 21 (fun K hK=>?_) ?_;go_simp));refine rO hK trivial fun hHeld=>?_;clear hK K) | (refine rQ 0 ?_;refine rQ 1 ?_;refine rQ 2 ?_;refine rQ 3 ?_;refine rQ 4 ?_;refine rQ 5 ?_;refine rQ 7 ?_;refine rQ 8 ?_;refine rQ 9 ?_;refine rQ 10 ?_;refine rQ 11 ?_) | (refine rQ 14 ?_;refine rQ 15 ?_;refine rQ 16 ?_;refine rQ 17 ?_;refine rQ 18 ?_;refine rQ 19 ?_;refine rQ 20 ?_) | (refine rQ 22 ?_) | refine rB [6,12,13,21] ?_ | (refine wpAnyH_done bC ?_ _;(go_wp2_with (fail);refine(IA er _).mono ?_;rintro e wu ⟨rfl,rfl⟩;go_wp2_with (fail);exact bodyPost_ret (v:=Fa er) (by simp [results,Tryz.results250,go_sem]) rfl (HFIN.out _ _ hkq ⟨xa,xc,rfl,hxs,hxg⟩))))
 ·obtain⟨⟨l,er⟩,hr⟩:∃r,B8 t.rules (-(c.at_+1))=r:=⟨_,rfl⟩
  have HI:=lH (fun W (hk:Aa [] w W)=>PF u.ra u.rc t.rules u.rl ht.rl (by have:=ht.rl;omega) (-(c.at_+1)) W E (hE.keep hk) (ht.rs.keeps hk));rw [hr] at HI;dsimp only at HI;obtain⟨res,hres⟩:=eX (RL t c);have HFIN:=lH (Rg (res:=res) (l:=l) (er:=er) h ht hf (by rw [← hres];unfold RL;rw [if_neg hp,hr]));rw [hres];have w1:IntKind.i64.wrap (c.at_+1)=c.at_+1:=IntWalk.i64_in _ bB;have w2:IntKind.i64.wrap (-(c.at_+1)) = -(c.at_+1):=IntWalk.i64_in _ bB;have hg0:decide (c.at_≥0)=false:=decide_eq_false bB;clear h ht hf hE hc hr hres;go_enter Tryz.func250,Tryz.ntmps250;go_wp2_with (fail);refine(HI.out _ (Aa.refl [] w)).mono ?_;rintro e wr ⟨x,rfl,hx,hkq⟩;obtain⟨xa,xc,rfl,hxs,hxg⟩:=hx;have e5:=hkq.cellsV _ _ c5;have f5:=(HB.out.keeps hkq bA).frozen 5;have HKQ:=lH hkq;have HX:Hid (GB w.heap.size wr (dI xa l.length xc) l):=lH ⟨xa,xc,rfl,hxs,hxg⟩;clear hkq hxs hxg;go_wp2_with (fail);refine(IA er _).mono ?_;rintro e wu ⟨rfl,rfl⟩;go_wp2_with (fail);exact bodyPost_ret (v:=Fa er) (by simp [results,Tryz.results250,go_sem]) rfl (HFIN.out _ _ HKQ.out HX.out)
theorem U8(n:Nat)(h0:0<n)(hn:n≤10000)(w:World):Calls Tryz.prog 203 #[dI none 0 0,dH dN (n:Int)] w fun e w'=>∃g G,e = dM (dI (some ⟨g,0,none⟩) 0 G)∧w'.ownsRow w.heap.size 124 8 (dI (some ⟨g,0,none⟩) 0 G) 0 []∧Aa [] w w':=by
 obtain⟨i0,zz,hii,hiz,his,hizs,hib⟩:=BK CT.hi;have hb:n*i0.bytes≤281474976710656:=As (Nat.mul_le_mul hn hib) bE;have hap:=Lib.run_append_nil_zeros (P:=Tryz.prog) w 27 3 27 124 i0 zz .i64 .i64 CT.ht Tryz.underlying3 hii hiz n h0 bB bB hb;obtain⟨G,hG⟩:=eX (grownCap w n 0 124);have hGge:n≤G:=by rw [← hG];exact grownCap_ge _ _ _ _
 have hGle:G≤maxLen:=by rw [← hG];exact grownCap_le_maxLen _ _ _ _ bZ
 rw [hG] at hap;obtain⟨ROW,hROW⟩:=eX (A5 zz.cells n++A5 zz.cells (G - n));rw [hROW] at hap;have hRs:ROW.size=G*8:=by
  rw [← hROW];simp [A5,hizs];omega
 obtain⟨W1,hW1⟩:=eX (w.drew.alloc (.cells ROW 124));rw [hW1] at hap;have HROW:Hid (W1.ownsRow w.heap.size 124 8 (dI (some ⟨w,0,none⟩) 0 G) 0 []):=lH (by
  rw [← hW1];exact⟨by simp,.inr ⟨w,G,ROW,rfl,Ap _,Blk.new w.drew 124 ROW,Cy _,hGle,hRs,by simp⟩⟩)
 have HK:Hid (Aa [] w W1):=lH (by rw [← hW1];exact((Aa.refl [] w).drew).alloc _);have hs0:∀W,(AG 27 (dI none 0 0) none (some (dH dN 0)) none).run Tryz.prog W = .ok (dI none 0 0) W:=fun W=>by kernel_rfl
 have hs1:∀W,(AG 27 (dI (some ⟨w,0,none⟩) n G) none (some (dH dN 0)) none).run Tryz.prog W = .ok (dI (some ⟨w,0,none⟩) 0 G) W:=fun W=>CT.s_h W w.heap.size 0 n G 0 (Cy _);have i1:¬(n:Int)<0:=by omega
 have i2:(0:Int)<(n:Int):=by omega
 have hw:IntKind.i64.wrap (n:Int)=(n:Int):=IntWalk.i64_in _ bB;have hw2:wrap64 (n:Int)=(n:Int):=IntWalk.wrap64_in _ ⟨by omega,by omega⟩;clear hii hiz his hizs hib hb hG hGge hGle hROW hRs hW1 h0 hn;go_enter Tryz.func203,Tryz.ntmps203;go_wp2_with (at_builtin;refine Lib.wpList_append_run _ rfl _ _ _ _ rfl _ _ rfl rfl _ _ hap ?_);go_ret;exact⟨_,_,rfl,HROW.out,HK.out⟩
theorem Iw(sb:Nat)(ty:TypeId)(a1 a2 a3:Option Addr)(c1 c2 c3 n1 n2 n3:Nat)(V1 V2 V3:List TV)(h1:V1.length=n1)(h2:V2.length=n2)(h3:V3.length=n3)(h0:0<n1+n2+n3)(hn:n1+n2+n3≤10000)(w:World)
 (hs:Blk w sb ty #[dI a1 n1 c1,dI a2 n2 c2,dI a3 n3 c3])(hv1:AJ BM 8 w a1 c1 V1)(hv2:AJ BM 8 w a2 c2 V2)(hv3:AJ BM 8 w a3 c3 V3):
  Calls Tryz.prog 147 #[dI (some ⟨sb,0,none⟩) 3 3] w fun e w'=>∃a c,e = dM (dI a (n1+n2+n3) c)∧AJ BM 8 w' a c (V1++V2++V3)∧Aa [] w w'∧∀g o,a=some ⟨g,o,none⟩→w.heap.size≤g:=by
 obtain⟨N,hN⟩:=eX (n1+n2+n3);have HG:=lH (U8 N bB bB w);have k1:IntKind.i64.wrap (n1:Int)=(n1:Int):=IntWalk.i64_in _ bB;have k1':wrap64 (n1:Int)=(n1:Int):=IntWalk.wrap64_in _ ⟨by omega,by omega⟩;have k2:IntKind.i64.wrap ((n1:Int)+(n2:Int))=(n1:Int)+(n2:Int):=IntWalk.i64_in _ bB;have k3:IntKind.i64.wrap ((n1:Int)+(n2:Int)+(n3:Int))=(N:Int):=by rw [show(n1:Int)+(n2:Int)+(n3:Int)=(N:Int) by omega];exact IntWalk.i64_in _ bB
 have j1:¬(n1:Int)<0:=by omega
 have j2:¬(n1:Int)+(n2:Int)<0:=by omega
 have j3:¬(N:Int)<0:=by omega
 have HSB:=lH hs;have H1:=lH hv1;have H2:=lH hv2;have H3:=lH hv3;have L1:=lH h1;have L2:=lH h2;have L3:=lH h3;have HNN:=lH hN;have HLE:=lH hn;have s0:=hs.ce 0;have s1:=hs.ce 1;have s2:=hs.ce 2;clear hs hv1 hv2 hv3 h1 h2 h3 hN hn h0;go_enter Tryz.func147,Tryz.ntmps147;go_wp2;refine wp_loop_rounds 4 ?_;rw [rounds_succ];go_wp2_with (fail);rw [rounds_succ];go_wp2_with (fail);rw [rounds_succ];go_wp2_with (fail);rw [rounds_succ];go_wp2_with (fail);refine HG.out.mono ?_;rintro e w1 ⟨g,G,rfl,hrow,hk⟩;obtain⟨i0,zz,hi1,hi2,hi3,hi4,hi5⟩:=BK CT.hi;obtain⟨x1,u1,r1,o1,g1⟩:=AJ.app (c:=c1) Tryz.prog (ys:=([]:List TV)) CT.ht hi1 hi2 hi3 rfl hi4 bE CU Fp hrow hk.size (H1.out.keeps hk) (by have:=HNN.out;have:=HLE.out;rw [L1.out];simp;omega) hi5 27;have q1:Aa [] w u1:=hk.own ((Aa.refl (Value.ownBlock (dI (some ⟨g,0,none⟩) 0 G)).toList w1).grown g1 (fun k hk=>.inl Yi)) (fun y hy=>AP hrow y hy);rw [AX] at o1;obtain⟨x2,u2,r2,o2,g2⟩:=AJ.app (c:=c2) Tryz.prog CT.ht hi1 hi2 hi3 rfl hi4 bE CU Fp o1 q1.size (H2.out.keeps q1) (by have:=HNN.out;have:=HLE.out;rw [L1.out,L2.out];omega) hi5 27;have q2:Aa [] w u2:=q1.own ((Aa.refl x1.ownBlock.toList u1).grown g2 (fun k hk=>.inl Yi)) (fun y hy=>AP o1 y hy);obtain⟨x3,u3,r3,o3,g3⟩:=AJ.app (c:=c3) Tryz.prog CT.ht hi1 hi2 hi3 rfl hi4 bE CU Fp o2 q2.size (H3.out.keeps q2) (by have:=HNN.out;have:=HLE.out;rw [Ag,L1.out,L2.out,L3.out];omega) hi5 27;have q3:Aa [] w u3:=q2.own ((Aa.refl x2.ownBlock.toList u2).grown g3 (fun k hk=>.inl Yi)) (fun y hy=>AP o2 y hy);obtain⟨a',c',rfl,hs',hge'⟩:=AJ.of_row CU o3;have hlen:(V1++V2++V3).length=N:=by rw [Ag,Ag,L1.out,L2.out,L3.out];exact HNN.out
 rw [hlen] at r3;rw [L1.out] at r1;rw [L2.out] at r2;rw [L3.out] at r3;have t0:=hk.cellsV _ _ s0;have t1:=q1.cellsV _ _ s1;have t2:=q2.cellsV _ _ s2;have HFIN:Hid (∃a c,dM (.slice a' N c') = dM (dI a (n1+n2+n3) c)∧AJ BM 8 u3 a c (V1++V2++V3)∧Aa [] w u3∧∀g o,a=some ⟨g,o,none⟩→w.heap.size≤g):=lH ⟨a',c',by rw [HNN.out],hs',q3,hge'⟩;clear hrow hk hi1 hi2 hi3 hi4 hi5 o1 g1 q1 o2 g2 q2 o3 g3 q3 hs' hge' hlen s0 s1 s2;go_wp2_with (fail);refine wp_loop_rounds 4 ?_;rw [rounds_succ];go_wp2_with (at_builtin;refine Ar _ rfl _ _ 27 rfl rfl rfl r1 ?_);rw [rounds_succ];go_wp2_with (at_builtin;refine Ar _ rfl _ _ 27 rfl rfl rfl r2 ?_);rw [rounds_succ];go_wp2_with (at_builtin;refine Ar _ rfl _ _ 27 rfl rfl rfl r3 ?_);rw [rounds_succ];go_wp2_with (fail);go_ret;exact HFIN.out
end
end Go.Proofs.YtcjdkbgdahgjbaaGreatDoor
