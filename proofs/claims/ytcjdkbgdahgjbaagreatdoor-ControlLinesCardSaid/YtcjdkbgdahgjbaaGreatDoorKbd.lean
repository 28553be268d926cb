/- Steps of the proof: SnapO, SnapT. -/
import Derived.Test.YtcjdkbgdahgjbaaGreatDoorK0
import Derived.Test.YtcjdkbgdahgjbaaGreatDoorKak
import Derived.Test.YtcjdkbgdahgjbaaGreatDoorKau
import Derived.Deep.QuietTactic
import Derived.BigQuiet
set_option maxRecDepth 100000
set_option maxHeartbeats 8000000
set_option linter.all false
namespace Go.Proofs.YtcjdkbgdahgjbaaGreatDoor
open _root_.Array renaming getElem?_eq_some_iff→Aj
open _root_.Bool renaming and_eq_true→Af
open Builtin renaming append_→Bo
open Ending renaming returned→dM
open Instr renaming slice→AG
open IntKind renaming i64→dN
open _root_.List renaming eq_nil_of_length_eq_zero→Er,getElem?_eq_getElem→Au,getElem?_eq_some_iff→Ad,length_append→Ag,length_drop→Bi,length_singleton→AW,length_take→A7,mem_append→AF,mem_singleton→Am
open _root_.Nat renaming add_assoc→CM,le_refl→Ap,le_trans→As
open Value renaming agg→dK,int→dH,slice→dI
section
open Go.RowKit Go.Shelf
attribute [local go_sem ↓] Go.wp_at_zero Go.wp_at_succ
def T9(w:World)(q:Po)(page:List ByteArray)(nx err:Int)(r:Ending)(w':World):Prop:=
 ∃a n c V pa m pc,r = dM (.tuple #[dK #[dI a n c,dH dN q.next],dI pa m pc,dH dN nx,dH dN err])∧V.length=n∧BF w' a c V q∧page.length=m∧BR w' pa pc page∧Aa [] w w'
def Nd(w:World)(q:Po)(page:List ByteArray)(nx err:Int)(r:Ending)(w':World):Prop:=
 ∃a n c V pa m pc,r = dM (.tuple #[dK #[dI a n c,dH dN q.next],dI pa m pc,dH dN nx,dH dN err])∧V.length=n∧BF w' a c V q∧page.length=m∧BR w' pa pc page∧Aa [] w w'∧(∀z∈V,PB w.heap.size z)∧Fr w.heap.size pa m
theorem T9.fresh0{w:World}{nx err:Int}{r:Ending}{w':World}(h:T9 w QH [] nx err r w'):Nd w QH [] nx err r w':=by
 obtain⟨a,n,c,V,pa,m,pc,h1,h2,h3,h4,h5,h6⟩:=h;obtain rfl:V = []:=Er h3.mt.len;exact⟨a,n,c,_,pa,m,pc,h1,h2,h3,h4,h5,h6,(fun z hz=>by cases hz),fun _ _ _ h0=>absurd h0 (by rw [← h4];exact Nat.lt_irrefl 0)⟩
theorem Tg(w:World):BR w none 0 []:=⟨Ap _,fun h=>absurd rfl h,by simp,by simp,fun _=>rfl⟩
theorem Ti:Tryz.prog.underlying 41=some (.slice (Tryz.prog.elem 41)):=by kernel_rfl
theorem Tj(W:World):(sizeOf (Tryz.prog.elem 41)).run Tryz.prog W = .ok 1 W:=by kernel_rfl
theorem QR{w:World}{a:Option Addr}{c:Nat}{xs:List ByteArray}(h:BR w a c xs)(F T:Nat)(h1:F≤T)(h2:T≤xs.length)(t:Int)(ht:t=T):
  ∃a7,(∀W:World,(AG 41 (dI a xs.length c) (some (dH dN (F:Int))) (some (dH dN t)) (some (dH dN t))).run Tryz.prog W = .ok (dI a7 (T - F) (T - F)) W)∧BR w a7 (T - F) ((xs.drop F).take (T - F)):=by
 subst ht;have hlen:((xs.drop F).take (T - F)).length=T - F:=by rw [A7,Bi];omega
 refine⟨if T=F then a else a.map (·.add (F*1)),fun W=>?_,?_⟩
 ·have hc:=h.le
  have hh:=run_slice_lhm (P:=Tryz.prog) W 41 a xs.length c Ti .i64 .i64 .i64 F T T bB bB bB bB;rw [hh,Tj];rfl
 ·refine⟨by rw [hlen];exact Ap _,fun hn=>?_,by rw [hlen];have:=h.small;omega,fun x hx=>h.size x (List.mem_of_mem_drop (List.mem_of_mem_take hx)),fun he=>?_⟩
  ·have hTF:¬T=F:=fun e=>hn (Er (by rw [hlen];omega))
   obtain⟨g,off,cs,fz,rfl,hg,hat⟩:=h.at_ (by rintro rfl;simp at h2;omega);refine⟨g,off+F,cs,fz,by rw [if_neg hTF];simp [EO],hg,fun i hi=>?_⟩;have hi2:F+i<xs.length:=by rw [hlen] at hi;omega
   have:=hat (F+i) hi2;rw [CM,this];simp
  ·by_cases hTF:T=F
   ·omega
   ·rw [if_neg hTF] at he
    cases a with
    | none=>
     have hx:xs = []:=Classical.byContradiction fun hn=>by
      obtain⟨g,off,cs,fz,e,_⟩:=h.at_ hn;cases e
     subst hx;simp at h2;omega
    | some p=>cases he
theorem Lt(a:Option Addr)(c:Nat)(V:List SV)(p:Po)(n:Nat)(hn:V.length=n)(cursor from_ num now:Int)(w:World)(hP:BF w a c V p)(e:Nat→Addr)(he:Kn w e)(i:Int)(k:Nat)(hk3:k<3)(hF:Ha p cursor from_ num now=(i,some k)):
  Calls Tryz.prog 239 #[dK #[dI a n c,dH dN p.next],dH dN cursor,dH dN from_,dH dN num,dH dN now] w (T9 w QH [] 0 (VH (some k))):=by
 obtain⟨x,hx⟩:=eX (p.next);have hcc:=fun W (hk:Aa [] w W)=>O0 a c V p n hn cursor from_ num now W (hP.keeps hk) e (he.keep hk) i (some k) hF;rw [hx] at hcc ⊢;obtain⟨q,hq⟩:=eX (VH (some k));rw [hq];have HCC:=lH hcc;have HE:=lH he;have HQ:=lH hq;have HB1:=lH (Aq (w.alloc (.cells #[dI a n c,dH dN x] 32)) 32 #[dI none 0 0,dH dN 0] (w.heap.size+1) bA);have HB0:=lH ((Blk.new w 32 #[dI a n c,dH dN x]).alloc (.cells #[dI none 0 0,dH dN 0] 32));have HK:=lH (((Aa.refl [] w).alloc (.cells #[dI a n c,dH dN x] 32)).alloc (.cells #[dI none 0 0,dH dN 0] 32));have p0:_=some (dI a n c):=HB0.out.cell 0;have p1:_=some (dH .i64 x):=HB0.out.cell 1;clear hcc he hP hx hn hF hq;go_enter Tryz.func239,Tryz.ntmps239;go_wp2_with (fail);refine(HCC.out _ HK.out).mono ?_;rintro r w1 ⟨rfl,hk⟩;have HB1:=lH (HB1.out.keeps hk bA);have HK:=lH (HK.out.trans hk);clear hk p0 p1;unfold GZ;go_wp2_with (fail);refine(H9 (some k) e (fun y hy=>by cases hy;exact hk3) _ (HE.out.keep HK.out) q HQ.out).mono ?_;rintro r w2 ⟨rfl,rfl⟩;have c0:=HB1.out.cell 0;have c1:=HB1.out.cell 1;have f0:=HB1.out.frozen 0;have f1:=HB1.out.frozen 1;have HBF:=lH ((HB1.out.set_ 0 (dI none 0 0)).set_ 1 (dH dN 0));have HKF:=lH ((HK.out.setCell (p:=⟨w.heap.size+1,0,none⟩) (.inr bH) (dI none 0 0)).setCell (p:=⟨w.heap.size+1,1,none⟩) (.inr bH) (dH dN 0));go_wp2;have q0:_=some (dI none 0 0):=HBF.out.cell 0;have q1:_=some (dH .i64 0):=HBF.out.cell 1;refine bodyPost_ret (v:=.tuple #[dK #[dI none 0 0,dH dN 0],dI none 0 0,dH dN 0,dH dN q]) (by simp [results,Tryz.results239,go_sem,q0,q1]) rfl ?_;exact⟨none,0,0,[],none,0,0,rfl,rfl,Ia _,rfl,Tg _,HKF.out⟩
theorem RT{A:World}{b:Nat}{p q r:Value}(h:Blk A b 43 #[p,q,r]):A.cell? ⟨b,0,none⟩=some p∧A.cell? ⟨b,1,none⟩=some q∧A.cell? ⟨b,2,none⟩=some r:=⟨h.cell 0,h.cell 1,h.cell 2⟩
structure Tz(w w5 A:World)(B bx:Nat)(bc pc:Array Value):Prop where
 strk:Dq B w5 A
 box:Blk A bx 43 bc
 pool:Blk A w.heap.size 32 pc
 res:Blk A (w.heap.size+1) 32 #[dI none 0 0,dH dN 0]
 size:B≤A.heap.size
theorem Tz.keeps{w w5 A A':World}{B bx:Nat}{bc pc:Array Value}(h:Tz w w5 A B bx bc pc)(hk:Aa [] A A'):Tz w w5 A' B bx bc pc:=
 ⟨h.strk.trans (Dq.of_keeps hk h.size),h.box.keeps hk bA,h.pool.keeps hk bA,h.res.keeps hk bA,As h.size hk.size⟩
theorem Tz.step{w w5 A A':World}{B bx g:Nat}{bc pc:Array Value}(h:Tz w w5 A B bx bc pc)(hk:Dq B A A')(hg:Aa [g] A A')(hgb:g≠bx)(hB:w.heap.size+1<B):Tz w w5 A' B bx bc pc:=
 ⟨h.strk.trans hk,h.box.keeps hg (by simpa using Ne.symm hgb),(hk.low.block _ bB).trans h.pool,(hk.low.block _ hB).trans h.res,As h.size hk.low.size⟩
theorem US{w w5:World}{B bx g off n c0 i:Nat}{bc pc:Array Value}{V0:List SV}(h:Tz w w5 w5 B bx bc pc)(hs:Dy w5 B (dI (some ⟨g,off,none⟩) n c0) V0)(hl:V0.length≤1000)(hi:i<V0.length)(hgb:g≠bx)(hB:w.heap.size+1<B)(A:World)(hk:Aa [] w5 A):
  Calls Tryz.prog 291 #[dI (some ⟨g,off,none⟩) n c0,dH dN (i:Int),dH dN ((i:Int)+1)] A fun r w'=>∃v',r = dM v'∧Dy w' B v' (V0.eraseIdx i)∧Tz w w5 w' B bx bc pc∧NG v' = [g]∧Aa [g] A w':=by
 have hA:=h.keeps hk;refine(Um _ V0 B hl i hi A hA.size (hs.keeps hk)).mono ?_;rintro r w' ⟨v',rfl,h1,h2,h3,h4⟩;exact⟨v',rfl,h1,hA.step h2 h3 hgb hB,h4,h3⟩
theorem OS{w w5 A:World}{B bx g b:Nat}{bc pc:Array Value}{v6:Value}{V6:List SV}{x:SV}(h:Tz w w5 A B bx bc pc)(hs:Dy A B v6 V6)(hr:NG v6 = [g])(hl:V6.length≤1000)(hgb:g≠bx)(hB:w.heap.size+1<B)(hb:Blk A b 43 x.arr)(ty:TypeId):
  ∃a9 k9 c9 w7,(Bo #[30,30] ty #[v6,dI (some ⟨b,0,none⟩) 1 1]).run Tryz.prog A = .ok (dI a9 k9 c9) w7∧Dy w7 B (dI a9 k9 c9) (V6++[x])∧(V6++[x]).length=k9∧Tz w w5 w7 B bx bc pc:=by
 obtain⟨v7,w7,h1,h2,h3,h4⟩:=hs.pushK hl h.size b x hb ty;obtain⟨a9,c9,rfl,_,_⟩:=h2.row;rw [hr] at h4;exact⟨a9,_,c9,w7,h1,h2,rfl,h.step h3 h4 hgb hB⟩
theorem OT{w w5 w7:World}{B bx k9 c9:Nat}{bc:Array Value}{a9 a8:Option Addr}{c8 n c m:Nat}{a:Option Addr}{x now:Int}{V0:List SV}{y:SV}{s:Sn}{L:List Sn}{i:Nat}{q:Po}{page:List ByteArray}
 (hs:Dy w7 B (dI a9 k9 c9) (V0.eraseIdx i++[⟨y.cur,y.ia,m,y.ic,now⟩]))(hk9:(V0.eraseIdx i++[(⟨y.cur,y.ia,m,y.ic,now⟩:SV)]).length=k9)(h7:Tz w w5 w7 B bx bc #[dI a n c,dH dN x])(hM:Mt w5 V0 L)(hl:V0.length≤1000)
 (hm1:Nc w5 y s)(hm:s.items.length=m)(hst:BR w5 a8 c8 page)(hkw:Aa [] w w5)(hq:(⟨L.eraseIdx i++[{ s with used:=now }],x⟩:Po)=q)(hB:w.heap.size+1<B)(hbx:bx≠w.heap.size)(hfv:∀z∈V0,PB w.heap.size z)(hfy:Fr w.heap.size y.ia m):
  ∃a9' k9' c9' V9,Hid (Blk (w7.setCell ⟨w,0,none⟩ (dI a9 k9 c9)) w.heap.size 32 #[.slice a9' k9' c9',dH dN x])∧Hid (V9.length=k9')∧Hid (BF (w7.setCell ⟨w,0,none⟩ (dI a9 k9 c9)) a9' c9' V9 q)∧Hid (Aa [] w (w7.setCell ⟨w,0,none⟩ (dI a9 k9 c9)))∧Hid (Blk (w7.setCell ⟨w,0,none⟩ (dI a9 k9 c9)) (w.heap.size+1) 32 #[dI none 0 0,dH dN 0])∧Hid (Blk (w7.setCell ⟨w,0,none⟩ (dI a9 k9 c9)) bx 43 bc)∧Hid (BR (w7.setCell ⟨w,0,none⟩ (dI a9 k9 c9)) a8 c8 page)∧Hid (∀z∈V9,PB w.heap.size z):=by
 have hks:Aa [w.heap.size] w7 (w7.setCell ⟨w,0,none⟩ (dI a9 k9 c9)):=(Aa.refl [w.heap.size] w7).setCell (p:=⟨w,0,none⟩) (.inl bA) _;have hpt:∀k∈[w.heap.size],∃cs,Blk w7 k 32 cs∧32≠9∧32≠43:=fun k hk=>by
  simp at hk;subst hk;exact⟨_,h7.pool,by decide,by decide⟩
 have hns:GS w7 [w.heap.size]:=fun k hk cs fz hh=>by
  simp at hk;subst hk;have h':w7.heap[w.heap.size]? = some (.cells #[dI a n c,dH dN x] 32 (0,0)):=h7.pool;rw [h'] at hh;injection hh with hh;injection hh with _ h3 _
  exact absurd h3 bE
 obtain⟨a9',c9',hv,hc9,hr9⟩:=hs.row;rw [hk9] at hv;injection hv with e1 _ e3
 subst e1;subst e3;have hP:BF w7 a9 c9 (V0.eraseIdx i++[(⟨y.cur,y.ia,m,y.ic,now⟩:SV)]) q:=by
  rw [← hq];refine⟨hc9,by rw [Ag,List.length_eraseIdx,AW];split<;>omega,hr9,?_⟩;exact((hM.erase i).strK h7.strk).app ⟨⟨hm1.1,rfl,hm.symm,hm1.2.2.2.strK h7.strk⟩,trivial⟩
 refine⟨a9,k9,c9,_,lH (h7.pool.set_ 0 _),lH hk9,lH (hP.keepsS hks hpt),lH ?_,lH (h7.res.far (p:=⟨w,0,none⟩) bH _),lH (h7.box.far (p:=⟨w,0,none⟩) hbx _),lH ((hst.strK h7.strk).keepsS hks hns),lH (fun z hz=>by
  rcases AF.1 hz with hz | hz
  ·exact hfv z (List.mem_of_mem_eraseIdx hz)
  ·obtain rfl:=Am.1 hz
   exact hfy)⟩
 exact(Aa.of_below ((hkw.below (Ap _) bA).trans (h7.strk.low.mono bB)) []).setCell (p:=⟨w,0,none⟩) (.inr (Ap _)) _
theorem Mt.get?{w:World}{V:List SV}{L:List Sn}(h:Mt w V L){i:Nat}{s:Sn}(hs:L[i]? = some s):∃y,V[i]? = some y∧Nc w y s:=by
 obtain⟨hi,rfl⟩:=Ad.1 hs;have hv:i<V.length:=by rw [h.len];exact hi
 exact⟨V[i],Au hv,h.get i hv hi⟩
theorem UW(a : Option Addr)(c : Nat)(V : List SV)(p : Po)(n : Nat)(hn : V.length = n)(cursor : Int)(F K : Nat)(now : Int)(w : World)(hP : BF w a c V p)(e : Nat → Addr)(he : Kn w e)(i : Nat)(hF : Ha p cursor F K now = ((i : Int), none))(hn3 : n ≤ 3)(hK : K ≤ 10)(s : Sn)(hs : p.l[i]? = some s)(hFl : F ≤ s.items.length)
   (T : Nat)(hT : T = if s.items.length < F + K then s.items.length else F + K):
    Calls Tryz.prog 239 #[dK #[dI a n c, dH dN p.next], dH dN cursor, dH dN (F : Int), dH dN (K : Int), dH dN now] w (Nd w ⟨p.l.eraseIdx i ++ [{ s with used := now }], p.next⟩ ((s.items.drop F).take (T - F)) (if T = s.items.length then -1 else (T : Int)) 0) := by
  obtain ⟨q, hq⟩ : ∃ q : Po, ⟨p.l.eraseIdx i ++ [{ s with used := now }], p.next⟩ = q := ⟨_, rfl⟩
  obtain ⟨page, hpg⟩ : ∃ page, (s.items.drop F).take (T - F) = page := ⟨_, rfl⟩
  obtain ⟨nx, hnx⟩ : ∃ nx : Int, (if T = s.items.length then -1 else (T : Int)) = nx := ⟨_, rfl⟩
  rw [hq, hpg, hnx]
  obtain ⟨x, hx⟩ : ∃ x, p.next = x := ⟨_, rfl⟩
  have hcc := fun W (hk : Aa [] w W) => O0 a c V p n hn cursor F K now W (hP.keeps hk) e (he.keep hk) i none hF
  have hco := fun W (hk : Aa [] w W) => UR a c V p.l n hn bB W (hP.row.keeps hk) (hP.mt.keeps hk)
  rw [hx] at hcc hq ⊢
  have HQ := lH hq
  have HNX := lH hnx
  have HCC := lH hcc
  have HCO := lH hco
  have HLN : Hid (p.l.length = n) := lH (by rw [← hn, hP.mt.len])
  have HSI := lH hs
  have HFL := lH hFl
  have HTT := lH hT
  have HB1 := lH (Aq (w.alloc (.cells #[dI a n c, dH dN x] 32)) 32 #[dI none 0 0, dH dN 0] (w.heap.size + 1) bA)
  have HB0 := lH ((Blk.new w 32 #[dI a n c, dH dN x]).alloc (.cells #[dI none 0 0, dH dN 0] 32))
  have HK := lH (((Aa.refl [] w).alloc (.cells #[dI a n c, dH dN x] 32)).alloc (.cells #[dI none 0 0, dH dN 0] 32))
  have p0 : _ = some (dI a n c) := HB0.out.cell 0
  have p1 : _ = some (dH .i64 x) := HB0.out.cell 1
  clear hcc hco he hP hx hn hF hs hFl hT hq hnx
  go_enter Tryz.func239, Tryz.ntmps239
  go_wp2_with (fail)
  refine (HCC.out _ HK.out).mono ?_
  rintro r w2 ⟨rfl, hk⟩
  have HB0 := lH (HB0.out.keeps hk bA)
  have HB1 := lH (HB1.out.keeps hk bA)
  have HK := lH (HK.out.trans hk)
  clear hk p0 p1
  have p0 : _ = some (dI a n c) := HB0.out.cell 0
  unfold GZ
  go_wp2_with (fail)
  refine (HCO.out _ HK.out).mono ?_
  rintro r w3 ⟨v0, V0, rfl, hs0, hm0, hb0, hf0⟩
  have HF0 : Hid (∀ z ∈ V0, PB w.heap.size z) := lH (fun z hz => Fr.down (hf0 z hz) HK.out.size)
  clear hf0
  have hk := Aa.of_below hb0 []
  have HSZ : Hid (w.heap.size + 1 < w2.heap.size) := lH HB1.out.lt
  have HB0 := lH (HB0.out.keeps hk bA)
  have HB1 := lH (HB1.out.keeps hk bA)
  have HK := lH (HK.out.trans hk)
  have HW3 := lH hb0.size
  obtain ⟨y, hy, hm1⟩ := hm0.get? HSI.out
  have hil : i < V0.length := (Ad.1 hy).1
  have hV0 : V0.length = n := by rw [hm0.len, HLN.out]
  obtain ⟨a0, c0, hv0, hc0, hr0⟩ := hs0.row
  obtain ⟨g, off, cs0, fz0, rfl, hgb, hat⟩ := hr0 (by rintro rfl; simp at hil)
  obtain ⟨t0, t1, t2⟩ := hat i hil
  have hyy : V0[i] = y := by
    rw [Au hil] at hy
    exact Option.some.inj hy
  rw [hyy] at t0 t1 t2
  rw [hV0] at hv0 hc0 hil
  subst hv0
  have j1 : (0 : Int) ≤ (i : Int) := by omega
  have j2 : (i : Int) < (n : Int) := by omega
  obtain ⟨m, hm⟩ : ∃ m, s.items.length = m := ⟨_, rfl⟩
  have hyl : y.il = m := by rw [hm1.2.2.1, hm]
  rw [hyl] at t1
  have HFY : Hid (Fr w.heap.size y.ia m) := lH (by rw [← hyl]; exact HF0.out y (by rw [← hyy]; exact List.getElem_mem _))
  have HMM := lH hm
  have hFm : F ≤ m := by rw [← hm]; exact HFL.out
  have hTd := HTT.out
  rw [hm] at hTd
  have hTm : T ≤ m := by split at hTd <;> omega
  have hFT : F ≤ T := by split at hTd <;> omega
  have HS0 := lH hs0
  have HM0 := lH hm0
  have HM1 := lH hm1
  have HIY : Hid (V0[i]? = some y) := lH hy
  have HV0 := lH hV0
  have HGB := lH (show g < w3.heap.size from (Aj.1 hgb).1)
  have hm1000 : m ≤ 1000000 := by rw [← hm]; exact hm1.2.2.2.small
  have hwr : IntKind.i64.wrap ((F : Int) + (K : Int)) = (F : Int) + (K : Int) := IntWalk.i64_in _ bB
  have HBX := lH (Blk.new w3 43 #[dH dN y.cur, dI y.ia m y.ic, dH dN y.used])
  have HKX := lH ((Aa.refl [] w3).alloc (.cells #[dH dN y.cur, dI y.ia m y.ic, dH dN y.used] 43))
  have b0 : _ = some (dH .i64 y.cur) := HBX.out.cell 0
  have b1 : _ = some (dI y.ia m y.ic) := HBX.out.cell 1
  have b2 : _ = some (dH .i64 y.used) := HBX.out.cell 2
  have hwi : IntKind.i64.wrap ((i : Int) + 1) = (i : Int) + 1 := IntWalk.i64_in _ bB
  obtain ⟨t, ht, hcase⟩ : ∃ t : Int, t = T ∧ ((T = m ∧ t = m ∧ (m : Int) < (F : Int) + (K : Int)) ∨ (T = F + K ∧ t = (F : Int) + (K : Int) ∧ ¬ (m : Int) < (F : Int) + (K : Int))) := by
    split at hTd
    · exact ⟨m, by omega, .inl ⟨hTd, rfl, by omega⟩⟩
    · exact ⟨(F : Int) + (K : Int), by omega, .inr ⟨hTd, rfl, by omega⟩⟩
  obtain ⟨a7, hsl, hst7⟩ := QR hm1.2.2.2 F T hFT (by rw [hm]; exact hTm) t ht
  rw [hm] at hsl
  rw [hpg] at hst7
  have HST7 := lH (hst7.keeps HKX.out)
  have hpl : page.length = T - F := by rw [← hpg, A7, Bi, hm]; omega
  have HPL := lH hpl
  clear hk hs0 hm0 hb0 p0 hm1 hst7 hy hV0 hgb hat hr0 hyy hm hyl hTd ht hpl hpg
  rcases hcase with ⟨hTe, rfl, hlt⟩ | ⟨hTe, rfl, hlt⟩
  all_goals
    have HTE := lH hTe
    clear hTe
    go_wp2_with (fail)
    refine (Ft a7 _ _ _ HPL.out _ HST7.out).mono ?_
    rintro r w4 ⟨a8, c8, rfl, hst8, hk4, hfr8⟩
    have HFR8 : Hid (Fr w.heap.size a8 (T - F)) := lH (hfr8.down (HK.out.trans HKX.out).size)
    clear hfr8
    have hb4 := HBX.out.keeps hk4 bA
    have b2 : w4.cell? ⟨w3, 2, none⟩ = some (dH dN y.used) := hb4.cell 2
    have f2 := hb4.frozen 2
    have hb5 : Blk (w4.setCell ⟨w3, 2, none⟩ (dH dN now)) w3.heap.size 43 #[dH dN y.cur, dI y.ia m y.ic, dH dN now] := hb4.set_ 2 (dH dN now)
    have hk35 : Aa [] w3 (w4.setCell ⟨w3, 2, none⟩ (dH dN now)) := (HKX.out.trans hk4).setCell (p := ⟨w3, 2, none⟩) (.inr (Ap _)) (dH dN now)
    have hst5 : BR (w4.setCell ⟨w3, 2, none⟩ (dH dN now)) a8 c8 page := hst8.keepsS (Aa.setCell (S := [w3.heap.size]) (Aa.refl _ w4) (p := ⟨w3, 2, none⟩) (.inl bA) (dH dN now)) (fun k hk cs fz h => by
      simp at hk; subst hk
      have h' : w4.heap[w3.heap.size]? = some (.cells #[dH dN y.cur, dI y.ia m y.ic, dH dN y.used] 43 (0, 0)) := hb4
      rw [h'] at h
      injection h with h; injection h with _ h3 _
      exact absurd h3 bE)
    go_wp2_with (fail)
    clear b0 b1 b2 f2 hb4
    obtain ⟨w5, hw5⟩ : ∃ w5, w4.setCell ⟨w3, 2, none⟩ (dH dN now) = w5 := ⟨_, rfl⟩
    rw [hw5] at hb5 hk35 hst5 ⊢
    have HB5 := lH hb5
    have HK5 := lH hk35
    have HP8 := lH hst5
    have HS5 := lH (HS0.out.keeps hk35)
    have HSZ5 : Hid (w2.heap.size ≤ w5.drew.heap.size) := lH (As HW3.out hk35.size)
    have HBP := lH (HB0.out.keeps hk35 bA)
    have HBR := lH (HB1.out.keeps hk35 bA)
    have HKW := lH (HK.out.trans hk35)
    clear hw5 hb5 hk35 hst5 hst8 hk4
    have HM5 := lH (HM0.out.keeps HK5.out)
    have HM15 := lH (HM1.out.keeps HK5.out)
    have HVL : Hid (V0.length ≤ 1000) := lH (by rw [HV0.out]; omega)
    have HEL : Hid ((V0.eraseIdx i).length ≤ 1000) := lH (by rw [List.length_eraseIdx]; have := HVL.out; split <;> omega)
    have HGX : Hid (g ≠ w3.heap.size) := lH (by have := HGB.out; omega)
    have HBN : Hid (w3.heap.size ≠ w.heap.size) := lH (by have := HSZ.out; have := HW3.out; omega)
    have HG5 : Hid (w5.heap.size ∉ [g]) := lH (by simp; have := HGB.out; have := HK5.out.size; omega)
    have hst6 : Tz w w5 w5 w2.heap.size w3.heap.size #[dH dN y.cur, dI y.ia m y.ic, dH dN now] #[dI a n c, dH dN x] := ⟨Dq.refl _ _, HB5.out, HBP.out, HBR.out, HSZ5.out⟩
    have HDEL := lH (US hst6 HS5.out HVL.out (by rw [HV0.out]; exact hil) HGX.out HSZ.out)
    clear hst6
    go_cut [64] (fun _ wx => ∃ a9 k9 c9 V9, Hid (Blk wx w.heap.size 32 #[dI a9 k9 c9, dH dN x]) ∧ Hid (V9.length = k9) ∧ Hid (BF wx a9 c9 V9 q) ∧ Hid (Aa [] w wx) ∧ Hid (Blk wx (w.heap.size + 1) 32 #[dI none 0 0, dH dN 0]) ∧ Hid (Blk wx w3.heap.size 43 #[dH dN y.cur, dI y.ia m y.ic, dH dN now]) ∧ Hid (BR wx a8 c8 page) ∧ Hid (∀ z ∈ V9, PB w.heap.size z))
    case first =>
      refine wp_region_held_drew (S := (fun w' : World => w'.cell? ⟨w3, 0, none⟩ = some (dH dN y.cur) ∧ w'.cell? ⟨w3, 1, none⟩ = some (dI y.ia m y.ic) ∧ w'.cell? ⟨w3, 2, none⟩ = some (dH dN now))) bC bW (fun hHeld => ?_)
      refine rQ 0 ?_
      refine rQ 1 ?_
      refine rQ 2 ?_
      refine rQ 3 ?_
      refine rQ 5 ?_
      refine wpAnyH_ready (rs := [4, 6]) bC bA ?_
      refine AllReadyH.cons rfl (fun K hK => ?_) ?_
      · go_simp
        ((with_reducible refine (HDEL.out _ (by first | exact (Aa.refl [] w5).drew | exact ((Aa.refl [] w5).alloc _).drew)).mono ?_); rintro e6 w6 ⟨v6, rfl, hs6, h6, hr6, hkr6⟩; have HS6 := lH hs6; have H6 := lH h6; have HR6 := lH hr6; have HKR6 := lH hkr6; clear hs6 h6 hr6 hkr6)
        refine rO hK bW fun hHeld => ?_; clear hK K
        refine rC 6 fun K hK => ?_
        go_simp
        refine rO hK bW fun hHeld => ?_; clear hK K
        refine rC 7 fun K hK => ?_
        (obtain ⟨a9, k9, c9, w7, hrun, hs7, hk9, h7⟩ := OS (x := (⟨y.cur, y.ia, m, y.ic, now⟩ : SV)) (H6.out.keeps ((Aa.refl [] w6).alloc (.cells (SV.arr (⟨y.cur, y.ia, m, y.ic, now⟩ : SV)) 43))) (HS6.out.keeps ((Aa.refl [] w6).alloc (.cells (SV.arr (⟨y.cur, y.ia, m, y.ic, now⟩ : SV)) 43))) HR6.out HEL.out HGX.out HSZ.out (Blk.new w6 43 (SV.arr (⟨y.cur, y.ia, m, y.ic, now⟩ : SV))) 30; (try simp only [SV.arr] at hrun); refine CJ _ _ 30 bD bD bD bD hrun ?_; have HS7 := lH hs7; have H7 := lH h7; have HL7 := lH hk9; have c7 : w7.cell? ⟨w, 0, none⟩ = some (dI a n c) := h7.pool.cell 0; have f7 := h7.pool.frozen 0; clear hs7 h7 hk9 hrun)
        refine rO hK bW fun hHeld => ?_; clear hK K
        refine rQ 8 ?_
        refine rC 9 fun K hK => ?_
        go_simp
        refine rO hK bW fun hHeld => ?_; clear hK K
        refine wpAnyH_done bC ?_ _
        (go_wp2_with (fail); go_meet; exact OT HS7.out HL7.out H7.out HM5.out HVL.out HM15.out HMM.out HP8.out HKW.out HQ.out HSZ.out HBN.out HF0.out HFY.out)
      refine AllReadyH.cons rfl (fun K hK => ?_) ?_
      · go_simp
        refine rO hK bW fun hHeld => ?_; clear hK K
        refine rC 4 fun K hK => ?_
        go_simp
        ((with_reducible refine (HDEL.out _ (by first | exact (Aa.refl [] w5).drew | exact ((Aa.refl [] w5).alloc _).drew)).mono ?_); rintro e6 w6 ⟨v6, rfl, hs6, h6, hr6, hkr6⟩; have HS6 := lH hs6; have H6 := lH h6; have HR6 := lH hr6; have HKR6 := lH hkr6; clear hs6 h6 hr6 hkr6)
        refine rO hK bW fun hHeld => ?_; clear hK K
        refine rC 7 fun K hK => ?_
        (obtain ⟨a9, k9, c9, w7, hrun, hs7, hk9, h7⟩ := OS (x := (⟨y.cur, y.ia, m, y.ic, now⟩ : SV)) H6.out HS6.out HR6.out HEL.out HGX.out HSZ.out (Blk.keeps (Blk.drew (Blk.new w5 43 (SV.arr (⟨y.cur, y.ia, m, y.ic, now⟩ : SV)))) HKR6.out HG5.out) 30; (try simp only [SV.arr] at hrun); refine CJ _ _ 30 bD bD bD bD hrun ?_; have HS7 := lH hs7; have H7 := lH h7; have HL7 := lH hk9; have c7 : w7.cell? ⟨w, 0, none⟩ = some (dI a n c) := h7.pool.cell 0; have f7 := h7.pool.frozen 0; clear hs7 h7 hk9 hrun)
        refine rO hK bW fun hHeld => ?_; clear hK K
        refine rQ 8 ?_
        refine rC 9 fun K hK => ?_
        go_simp
        refine rO hK bW fun hHeld => ?_; clear hK K
        refine wpAnyH_done bC ?_ _
        (go_wp2_with (fail); go_meet; exact OT HS7.out HL7.out H7.out HM5.out HVL.out HM15.out HMM.out HP8.out HKW.out HQ.out HSZ.out HBN.out HF0.out HFY.out)
      exact AllReadyH.nil
    case rest =>
      obtain ⟨a9, k9, c9, V9, HBP9, HV9, HP9, HK9, HBR9, HBX9, HST9, HF9⟩ := hcut
      have x1 : wc.cell? ⟨w3, 1, none⟩ = some (dI y.ia m y.ic) := HBX9.out.cell 1
      have z0 : wc.cell? ⟨w, 0, none⟩ = some (dI a9 k9 c9) := HBP9.out.cell 0
      have z1 : wc.cell? ⟨w, 1, none⟩ = some (dH dN x) := HBP9.out.cell 1
      have r0 : wc.cell? ⟨w.heap.size + 1, 0, none⟩ = some (dI none 0 0) := HBR9.out.cell 0
      have r1 : wc.cell? ⟨w.heap.size + 1, 1, none⟩ = some (dH dN 0) := HBR9.out.cell 1
      have g0 := HBR9.out.frozen 0
      have g1 := HBR9.out.frozen 1
      have hks : Aa [w.heap.size + 1] wc ((wc.setCell ⟨w.heap.size + 1, 0, none⟩ (dI a9 k9 c9)).setCell ⟨w.heap.size + 1, 1, none⟩ (dH dN x)) := ((Aa.refl _ wc).setCell (p := ⟨w.heap.size + 1, 0, none⟩) (.inl bA) _).setCell (p := ⟨w.heap.size + 1, 1, none⟩) (.inl bA) _
      have HPF := lH (HP9.out.keepsS hks (fun k hk => by simp at hk; subst hk; exact ⟨_, HBR9.out, by decide, by decide⟩))
      have HSF := lH (HST9.out.keepsS hks (fun k hk cs fz hh => by
        simp at hk; subst hk
        have h' : wc.heap[w.heap.size + 1]? = some (.cells #[dI none 0 0, dH dN 0] 32 (0, 0)) := HBR9.out
        rw [h'] at hh
        injection hh with hh; injection hh with _ h3 _
        exact absurd h3 bE))
      have HKF := lH ((HK9.out.setCell (p := ⟨w.heap.size + 1, 0, none⟩) (.inr (by dsimp only; omega)) (dI a9 k9 c9)).setCell (p := ⟨w.heap.size + 1, 1, none⟩) (.inr (by dsimp only; omega)) (dH dN x))
      have HBF := lH ((HBR9.out.set_ 0 (dI a9 k9 c9)).set_ 1 (dH dN x))
      have HQN : Hid (x = q.next) := lH (by rw [← HQ.out])
      clear hks
      by_cases hTm2 : T = m
      · have HNX1 : Hid (nx = -1) := lH (by rw [← HNX.out, if_pos (by rw [HMM.out]; exact hTm2)])
        try have hcmp : ((F : Int) + (K : Int) == (m : Int)) = true := by have := HTE.out; simp; omega
        clear hTm2
        go_wp2
        have q0 : _ = some (dI a9 k9 c9) := HBF.out.cell 0
        have q1 : _ = some (dH .i64 x) := HBF.out.cell 1
        refine bodyPost_ret (v := .tuple #[dK #[dI a9 k9 c9, dH dN x], dI a8 (T - F) c8, dH dN (-1), dH dN 0]) (by simp [results, Tryz.results239, go_sem, q0, q1]) rfl ?_
        exact ⟨a9, k9, c9, V9, a8, T - F, c8, by rw [← HQN.out, HNX1.out], HV9.out, HPF.out, HPL.out, HSF.out, HKF.out, HF9.out, HFR8.out⟩
      · first
          | exact absurd HTE.out hTm2
          | (have HNX1 : Hid (nx = (F : Int) + (K : Int)) := lH (by rw [← HNX.out, if_neg (by rw [HMM.out]; exact hTm2)]; have := HTE.out; omega)
             have hcmp : ((F : Int) + (K : Int) == (m : Int)) = false := by have := HTE.out; simp; omega
             clear hTm2
             go_wp2
             have q0 : _ = some (dI a9 k9 c9) := HBF.out.cell 0
             have q1 : _ = some (dH .i64 x) := HBF.out.cell 1
             refine bodyPost_ret (v := .tuple #[dK #[dI a9 k9 c9, dH dN x], dI a8 (T - F) c8, dH dN ((F : Int) + (K : Int)), dH dN 0]) (by simp [results, Tryz.results239, go_sem, q0, q1]) rfl ?_
             exact ⟨a9, k9, c9, V9, a8, T - F, c8, by rw [← HQN.out, HNX1.out], HV9.out, HPF.out, HPL.out, HSF.out, HKF.out, HF9.out, HFR8.out⟩)
theorem W7(a:Option Addr)(c:Nat)(V:List SV)(p:Po)(n:Nat)(hn:V.length=n)(cursor from_ num now:Int)(w:World)(hP:BF w a c V p)(e:Nat→Addr)(he:Kn w e)
 (q:Po)(page:List ByteArray)(nx err:Int)(hA:GH p cursor from_ num now=(q,page,nx,err)):
  Calls Tryz.prog 239 #[dK #[dI a n c,dH dN p.next],dH dN cursor,dH dN from_,dH dN num,dH dN now] w (Nd w q page nx err):=by
 unfold GH at hA;by_cases hc:Cr p now=true
 ·rw [if_pos hc] at hA
  by_cases hb:num<1∨10<num
  ·rw [if_pos hb] at hA
   cases hA;exact(Lt a c V p n hn cursor from_ num now w hP e he 0 1 bB (by rw [Ha,if_pos hc,if_pos hb])).mono fun _ _ h=>h.fresh0
  ·rw [if_neg hb] at hA
   cases hf:CW (Gb cursor from_ now) p.l with
   | none=>
    rw [hf] at hA;cases hA;exact(Lt a c V p n hn cursor from_ num now w hP e he 0 2 bB (by rw [Ha,if_pos hc,if_neg hb,hf])).mono fun _ _ h=>h.fresh0
   | some k=>
    rw [hf] at hA;obtain⟨hl,hh⟩:=KU hf;simp only [Gb,Af,decide_eq_true_eq] at hh;have hF:Ha p cursor from_ num now=((k:Int),none):=by rw [Ha,if_pos hc,if_neg hb,hf]
    obtain⟨s,hs⟩:=eX (p.l[k]);have hs2:p.l[k]? = some s:=by rw [Au hl,hs]
    rw [hs] at hh;dsimp only at hA;rw [hs2] at hA;dsimp only at hA;obtain⟨F,rfl⟩:=Int.eq_ofNat_of_zero_le hh.1.2;obtain⟨K,rfl⟩:=Int.eq_ofNat_of_zero_le (show 0≤num by omega);have h3:=(Gt hc).1;have hm:V.length=p.l.length:=hP.mt.len;have h:=UW a c V p n hn cursor F K now w hP e he k hF (by rw [← hn,hm];exact h3) bB s hs2 bB _ rfl;obtain⟨T,hT⟩:∃T:Nat,(if s.items.length<F+K then s.items.length else F+K)=T:=⟨_,rfl⟩;have hE:Jd s.items.length (F:Int) (K:Int)=(T:Int):=by unfold Jd;rw [← hT];split<;>split<;>omega
    rw [hT] at h;rw [hE,show((T:Int) - (F:Int)).toNat=T - F by omega,Int.toNat_natCast] at hA;have hTT:((T:Int)=(s.items.length:Int))=(T=s.items.length):=by rw [Int.natCast_inj]
    simp only [hTT] at hA;cases hA;exact h
 ·rw [if_neg hc] at hA
  cases hA;exact(Lt a c V p n hn cursor from_ num now w hP e he 0 0 bB (by rw [Ha,if_neg hc])).mono fun _ _ h=>h.fresh0
theorem ZA(w:World):Calls Tryz.prog 79 #[] w fun r w'=>r = dM (dK #[dI none 0 0,dH dN 1])∧Aa [] w w':=by
 have HB:=lH (Blk.new w 32 #[dI none 0 0,dH dN 1]);go_enter Tryz.func79,Tryz.ntmps79;go_wp2;exact bodyPost_ret (v:=dK #[dI none 0 0,dH dN 1]) (by have q0:=HB.out.cell 0;have q1:=HB.out.cell 1;simp [results,Tryz.results79,go_sem,q0,q1]) rfl ⟨rfl,(Aa.refl [] w).alloc _⟩
end
end Go.Proofs.YtcjdkbgdahgjbaaGreatDoor
