/- Steps of the proof: SloC, CreB, RegA, RegB, RoleD, AclB, RoleF. -/
import Derived.Test.YtcjdkbgdahgjbaaGreatDoorK0
import Derived.Test.YtcjdkbgdahgjbaaGreatDoorKaa
import Derived.Test.YtcjdkbgdahgjbaaGreatDoorKab
import Derived.Test.YtcjdkbgdahgjbaaGreatDoorKad
import Derived.Test.YtcjdkbgdahgjbaaGreatDoorKak
set_option maxRecDepth 100000
set_option maxHeartbeats 8000000
set_option linter.all false
namespace Go.Proofs.YtcjdkbgdahgjbaaGreatDoor
open _root_.Array renaming length_toList→BL,replicate_succ→Bc,replicate_zero→Bd
open _root_.Bool renaming and_assoc→DW,and_eq_true→Af,false_and→D4,true_and→De
open _root_.ByteArray renaming toList_eq→DS
open Ending renaming returned→dM
open Exit renaming noGoto_normal→AH
open Fence renaming wide→Ba
open Instr renaming lookup→Dx
open IntKind renaming i64→dN
open _root_.List renaming append_assoc→CO,append_toArray→B0,cons_append→A6,getD_eq_getElem?_getD→AE,getElem?_cons_succ→Al,getElem?_cons_zero→Ah,getElem?_toArray→Ai,length_append→Ag,length_cons→Ao,length_map→BX,length_nil→Eh,length_range→A8,length_singleton→AW,map_cons→Cn,mem_append→AF,mem_cons→Ac,mem_map→Ee,mem_of_getElem?→Ex,mem_singleton→Am,nil_append→AX,not_mem_nil→Ab,push_toArray→By,range_succ→AY,range→A0,size_toArray→Cx,take_append_drop→Bj,take_of_length_le→Ax
open _root_.Nat renaming add_zero→CG,le_refl→Ap,le_trans→As,min_eq_left→DP,zero_le→Cy
open Value renaming agg→dK,bool→dL,int→dH,pointer→dJ,slice→dI,string→CZ
open World renaming block_lt_of_cell?→A4,ownsRow_nil→Bz
section
open Go.RowKit Go.Shelf
attribute [local go_sem] Oper.semAt_some
attribute [local go_sem ↓] Go.wp_at_zero Go.wp_at_succ
def Fy(used:List Bool)(met:List Int)(i:Int):Bool:=decide (0≤i)&&decide (i<used.length)&&!(used.getD i.toNat true)&&!decide (i∈met)
theorem O3(used:List Bool)(A B:List Int):∀(met:List Int),Es used met (A++B)=(Es used met A&&Es used (met++A) B):=by
 induction A with
 | nil=>intro met;simp [Es]
 | cons o A ih=>intro met;simp [Es,ih,DW]
theorem M6{used:List Bool}{L:List Int}{k:Nat}{i:Int}(h:L[k]? = some i):Es used [] (L.take (k+1))=(Es used [] (L.take k)&&Fy used (L.take k) i):=by
 rw [AB h,O3];simp [Es,Fy]
theorem IX{used:List Bool}{L:List Int}{k:Nat}{i:Int}(h:L[k]? = some i)(hb:Fy used (L.take k) i=false):Es used [] L=false:=by
 have e:L=L.take (k+1)++L.drop (k+1):=(Bj _ _).symm;rw [e,O3,M6 h,hb];simp
theorem Gl:∀(u:List Bool) (g:List Int) (i:Nat),u.length=g.length→(usedL i u g).length=u.count true
 | [],[],_,_=>rfl
 | true::u,_::g,i,h=>by simp only [usedL,Ao,List.count_cons];rw [Gl u g (i+1) bK];simp
 | false::u,_::g,i,h=>by simp only [usedL,List.count_cons];rw [Gl u g (i+1) bK];simp
 | [],_::_,_,h=>by simp at h
 | _::_,[],_,h=>by simp at h
theorem Vw{w:World}{b:Nat}{met:List Int}(h:Do (dH .i64) w b met)(k:Int):(Dx 110 (.map (some b)) (dH dN k) false).run Tryz.prog w = .ok (dL (decide (k∈met))) w:=by
 have h1:=h.look IZ Tryz.underlying110 Tryz.underlying3 bC k;rw [h1]
theorem R5{w:World}{b:Nat}{met:List Int}(h:Do (dH .i64) w b met)(k:Int)(hn:k∉met):∃o,(Instr.mapUpdate 110 (.map (some b)) (dH dN k) (dL true)).run Tryz.prog w = .ok () (w.putObj b o)∧Do (dH .i64) (w.putObj b o) b (met++[k]):=
 h.update IZ Tryz.underlying110 Tryz.underlying3 k hn
theorem Vv{w:World}{b:Nat}{met:List Int}(h:Do (dH .i64) w b met)(ty:TypeId):(Builtin.len_ #[110] ty #[.map (some b)]).run Tryz.prog w = .ok (dH dN (met.length:Nat)) w:=by
 obtain⟨es,c,hb,he⟩:=h;have hl:=congrArg List.length he;simp only [BX,BL] at hl;simp [Builtin.len_,run_underlying Tryz.underlying110,MapKept.run_getObj_map hb,goInt,hl]
structure Yj(w:World)(tb:Nat)(v:D3)(s:Ff)(gn fn nb pb:Nat)(m:Nat)(A:World):Prop where
 box:Blk A nb 3 #[dH dN ((gn:Int) - m)]
 st:Do (dH .i64) A w.heap.size s.free
 pb:A.cell? ⟨pb,0,none⟩=some (dJ (some ⟨tb,0,none⟩))
 tab:IG A tb v s gn gn fn
 kw:Aa [] w A
theorem Yj.keeps{w:World}{tb:Nat}{v:D3}{s:Ff}{gn fn nb pb m:Nat}{A A':World}{S:List Nat}(h:Yj w tb v s gn fn nb pb m A)(hT:IG w tb v s gn gn fn)(hk:Aa S A A')(hS:∀y∈S,pb<y∧nb<y∧w.heap.size<y):Yj w tb v s gn fn nb pb m A':=by
 have hkw:=h.kw.own hk (fun y hy=>by have:=(hS y hy).2.2;omega);exact⟨h.box.keeps hk (fun hm=>by have:=hS _ hm;omega),h.st.keeps hk (fun hm=>by have:=hS _ hm;omega),(hk.cell (p:=⟨pb,0,none⟩) (A4 _ _ h.pb) (fun hm=>by have:=hS _ hm;dsimp only at this;omega)).trans h.pb,hT.keeps hkw,hkw⟩
theorem NV(tb:Nat)(v:D3)(s:Ff)(gn fn:Nat)(b:Bool)(hb:(Es s.used [] s.free&&decide (s.gens.length=s.free.length+s.used.count true))=b)(w:World)(h:IG w tb v s gn gn fn):
  Calls Tryz.prog 154 #[dJ (some ⟨tb,0,none⟩)] w fun e w'=>e = dM (dL b)∧Aa [] w w':=by
 refine(callsIn_wide (n:=9)).1 ?_;obtain⟨c0,c1,c2⟩:=h.cells;have hg1000:gn≤1000:=by have:=h.m.sg;rw [h.lg] at this;exact this
 have hf1000:fn≤1000:=by have:=h.m.sf;rw [h.lf] at this;exact this
 have htl:=h.blk.lt;have HT:=lH h;have HB:=lH hb;have hmk:=fun W=>run_makeMap (P:=Tryz.prog) 110 W;clear h hb;refine callsIn_of_wp_marks Tryz.func154 rfl trivial ?_ rfl;simp only [Tryz.ntmps154,Cx,Ao,Eh,Nat.reduceAdd,Nat.reduceSub,Bc,Bd,By,B0,AX,A6];gi_wp2
 gi_loopw [14] (fun i wr=>∃k:Nat,i = dH dN k∧k≤fn∧Hid (Es s.used [] (s.free.take k)=true)∧Hid (Do (dH .i64) wr w.heap.size (s.free.take k))∧Hid (Aa [] w wr)) (fun i _=>fn - (intOf i).toNat)
 case atStart=>exact⟨0,rfl,Cy _,lH rfl,lH (Do.new w),lH ((Aa.refl [] w).alloc _)⟩
 case round=>
  obtain⟨k,rfl,hk,HP,HST,HK⟩:=hrel;obtain⟨c0,c1,c2⟩:=(HT.out.keeps HK.out).cells;by_cases hlt:k<fn
  ·have i1:(0:Int)≤(k:Int):=by omega
   have i2:(k:Int)<(fn:Int):=by omega
   obtain⟨g,off,x,ha,hg,hx,hat⟩:=HT.out.m.f.at_k (k:=k) (by rw [HT.out.lf];exact hlt);have q0:=hat 0 (dH dN x) rfl;rw [CG,Nat.mul_one] at q0;rw [← HK.out.cell (p:=⟨g,off+k,none⟩) hg bA] at q0;rw [ha] at c2 ⊢;have HX:=lH hx;have HLU:Hid (s.used.length=gn):=lH HT.out.lu;clear hat hg hx ha;by_cases hx0:x<0
   ·obtain rfl:b=false:=by rw [← HB.out,IX HX.out (by simp [Fy];omega)];rfl
    gi_wp2;exact⟨_,by simp [results,Tryz.results154,go_sem],rfl,HK.out⟩
   ·obtain⟨m,rfl⟩:∃m:Nat,x=m:=⟨x.toNat,by omega⟩
    have i3:¬(m:Int)<0:=by omega
    by_cases hxu:gn≤m
    ·have i4:(gn:Int)≤(m:Int):=by omega
     obtain rfl:b=false:=by rw [← HB.out,IX HX.out (by simp [Fy,HLU.out];omega)];rfl
     gi_wp2;exact⟨_,by simp [results,Tryz.results154,go_sem],rfl,HK.out⟩
    ·have i4:¬(gn:Int)≤(m:Int):=by omega
     have i5:(0:Int)≤(m:Int):=by omega
     have i6:(m:Int)<(gn:Int):=by omega
     obtain⟨g1,o1,u,ha1,hg1,hx1,hat1⟩:=HT.out.m.u.at_k (k:=m) (by rw [HT.out.lu];omega);have q1:=hat1 0 (dL u) rfl;rw [CG,Nat.mul_one] at q1;rw [← HK.out.cell (p:=⟨g1,o1+m,none⟩) hg1 bA] at q1;rw [ha1] at c1;obtain⟨y,hy⟩:=eX (decide ((m:Int)∈s.free.take k));have hlk:=Vw HST.out (m:Int);rw [hy] at hlk;have hstep:Fy s.used (s.free.take k) (m:Int)=(!u&&!y):=by
      unfold Fy;rw [hy,HLU.out,decide_eq_true i5,decide_eq_true i6,Int.toNat_natCast,AE,hx1];simp
     have HSTEP:=lH hstep;have HY:=lH hy;clear hat1 hg1 hx1 ha1 hstep hy hx0 hxu;cases u with
     | true=>
      obtain rfl:b=false:=by rw [← HB.out,IX HX.out (by rw [HSTEP.out];rfl)];rfl
      gi_wp2;exact⟨_,by simp [results,Tryz.results154,go_sem],rfl,HK.out⟩
     | false=>
      cases y with
      | true=>
       obtain rfl:b=false:=by rw [← HB.out,IX HX.out (by rw [HSTEP.out];rfl)];rfl
       gi_wp2;exact⟨_,by simp [results,Tryz.results154,go_sem],rfl,HK.out⟩
      | false=>
       obtain⟨o,hup,hset2⟩:=R5 HST.out (m:Int) (of_decide_eq_false HY.out);have HP2:Hid (Es s.used [] (s.free.take (k+1))=true):=lH (by rw [M6 HX.out,HP.out,HSTEP.out];rfl);have HSET2:Hid (Do (dH .i64) (wr.putObj w.heap.size o) w.heap.size (s.free.take (k+1))):=lH (by rw [AB HX.out];exact hset2);have HK2:=lH (HK.out.own (Dw _ w.heap.size o) bF);clear hset2;gi_wp2;go_roundw;case rel=>exact⟨k+1,by go_num,by omega,HP2,HSET2,HK2⟩
       case measure=>simp [intOf];omega
  ·obtain rfl:k=fn:=by omega
   have hst:=HST.out;have hp:=HP.out;rw [Ax (by rw [HT.out.lf];exact Ap _)] at hst hp;have hbb:b=decide (gn=k+s.used.count true):=by rw [← HB.out,hp,HT.out.lg,HT.out.lf];rfl
   have hcount:=Gl s.used s.gens 0 (by rw [HT.out.lu,HT.out.lg]);have HBB:=lH hbb;have HCT:=lH hcount;have HST2:=lH hst;clear hst hp hbb hcount;gi_wp2_with (fail);refine⟨trivial,(callsIn_wide.2 (P6 _ _)).mono ?_⟩;rintro e w1 ⟨rfl,hw1⟩;gi_wp2_with (fail);have hsz:w1.heap.size=wr.heap.size+2:=by rw [← hw1];simp
   have hwr:w.heap.size<wr.heap.size:=HST2.out.lt;have hI0:Yj w tb v s gn k wr.heap.size (wr.heap.size+1) 0 w1:=by
    have hk2:Aa [] wr w1:=by rw [← hw1];exact((Aa.refl [] wr).alloc _).alloc _
    refine⟨?_,HST2.out.keeps hk2 bA,?_,HT.out.keeps (HK.out.trans hk2),HK.out.trans hk2⟩
    ·rw [← hw1];have:=(Blk.new wr 3 #[dH dN (gn:Int)]).alloc (.cells #[dJ (some ⟨tb,0,none⟩)] 250);simpa using this
    ·rw [← hw1];exact(Aq _ 250 _ _ bA).cell 0
   have HI0:=lH hI0;clear hI0 hw1;refine Bx rfl bB (gf:=204) (lb:=#[dJ (some ⟨wr.heap.size+1,0,none⟩)]) rfl trivial (enters_of Tryz.func204 bC rfl) (P7 8 (wr.heap.size+1) tb v s gn k hg1000) (fun _=>rfl)
    (fun pre A=>Yj w tb v s gn k wr.heap.size (wr.heap.size+1) pre.length A) (fun _ _=>False)
    (fun pre A A' h hk=>h.keeps HT.out hk bF)
    (fun pre A A' h hk=>h)
    (fun pre A h=>⟨h.pb,h.tab⟩) HI0.out
    (fun x W=>({ tmps:=#[dJ (some ⟨tb,0,none⟩),undef,u2,.map (some w.heap.size),undef,u5,dJ (some ⟨wr,0,none⟩),.map (some w.heap.size),dJ (some ⟨tb,0,none⟩),dJ (some ⟨tb,0,none⟩),dJ (some ⟨tb,0,none⟩),dJ (some ⟨tb,2,none⟩),dI v.fa k v.fc,dH dN (k:Int),dH dN (k:Int),dL false,u16,u17,u18,u19,u20,u21,u22,u23,u24,u25,u26,u27,u28,u29,u30,u31,u32,u33,u34,u35,u36,u37,u38,u39,u40,u41,u42,u43,u44,u45,u46,u47,dJ (some ⟨tb,0,none⟩),dJ (some ⟨tb,0,none⟩),dJ (some ⟨tb,0,none⟩),dJ (some ⟨tb,0,none⟩),dI v.ga gn v.gc,dH dN (gn:Int),dJ (some ⟨tb,0,none⟩),.func (.func 204) #[] #[dJ (some ⟨wr.heap.size+1,0,none⟩)],dK #[dH dN x.1,dH dN x.2],undef,undef,undef,undef,undef,undef],defers:=[] },W))
    (fun x W=>Aa.refl [] W) ?assign ?body ?done ?stop
   case assign=>
    rintro l ⟨x1,x2⟩ W K hK;simp only [OD];gi_wp2;exact hK
   case body=>
    rintro l pre ⟨x1,x2⟩ W W2 hI hpre hsz2 hk2;dsimp only at hk2 ⊢;have hI2:=hI.keeps HT.out hk2 bF;have hpl:pre.length+1≤gn:=by
     have h1:=hpre.length_le;rw [HCT.out] at h1;have h2:=List.count_le_length (a:=true) (l:=s.used);have h3:=HT.out.lu;simp only [Ag,AW] at h1;omega
    have d0:=hI2.box.ce 0;have f0:=hI2.box.frozen 0;obtain⟨x,hx⟩:∃x:Int,(gn:Int) - (pre.length:Nat)=x:=⟨_,rfl⟩;rw [hx] at d0;have hx1:wrap64 (x - 1)=x - 1:=by unfold wrap64;omega
    have hx2:IntKind.i64.wrap (x - 1)=x - 1:=by rw [IntKind.wrap_i64];omega
    have HX:=lH hx;have HII:=lH hI2;have hs2:W.heap.size≤W2.heap.size:=hk2.size;have HS2:=lH hs2;clear hI hk2 hI2 hx hpl hs2;gi_wp2;have hk4:Aa [wr.heap.size] W2 (W2.setCell ⟨wr,0,none⟩ (dH dN (x - 1))):=(Aa.refl _ W2).setCell (p:=⟨wr,0,none⟩) (.inl bA) _;have hkw:=HII.out.kw.own hk4 bF;refine⟨hk4.size,fun y hy=>hk4.block y ?_ ?_,?_,HII.out.st.keeps hk4 bI,(hk4.cell (p:=⟨wr.heap.size+1,0,none⟩) (A4 _ _ HII.out.pb) bA).trans HII.out.pb,HT.out.keeps hkw,hkw⟩
    ·simp only [Ac,Ab,or_false] at hy
     have h9:=HS2.out;omega
    ·simp only [Ac,Ab,or_false] at hy ⊢;omega
    ·have:=HII.out.box.set_ 0 (dH dN (x - 1))
     rw [Ag,AW];rw [show(gn:Int) - ((pre.length+1:Nat):Int)=x - 1 by have:=HX.out;omega];exact this
   case done=>
    rintro W hI hsz2 hK;have d0:=hI.box.ce 0;rw [HCT.out] at d0;have hln:=fun ty=>Vv hI.st ty;rw [HT.out.lf] at hln;obtain⟨x,hx⟩:∃x:Int,(gn:Int) - ((s.used.count true:Nat):Int)=x:=⟨_,rfl⟩;rw [hx] at d0;have hcmp:(x==(k:Int))=b:=by rw [HBB.out,← hx,Bool.eq_iff_iff,beq_iff_eq,decide_eq_true_eq];omega
    have HII:=lH hI;clear hI hx;gi_wp2;refine⟨by simp,.inl ⟨_,_,rfl,run_takeDeferred hK,?_⟩⟩;have hk4:=Az (S:=[w1.heap.size]) W (.deferred none) (l:=w1.heap.size) bA;refine⟨_,by simp [results,Tryz.results154,go_sem],rfl,HII.out.kw.own hk4 bF⟩
   case stop=>
    rintro pre W hpre hX hsz2 hK;exact hX.elim
def NY:Array Value:=#[.func (.func 152) #[] #[],.func (.func 153) #[] #[],.func (.func 154) #[] #[]]
theorem QQ(tb:Nat)(v:D3)(s:Ff)(gn un fn fb:Nat)(ty:TypeId)(b:Bool)(hb:CA s=b)(w:World)(h:IG w tb v s gn un fn)(hf:Blk w fb ty NY):
  Calls Tryz.prog 151 #[dJ (some ⟨tb,0,none⟩),dI (some ⟨fb,0,none⟩) 3 3] w fun e w'=>e = dM (dL b)∧Aa [] w w':=by
 have HT:=lH h;have HF:=lH hf;obtain⟨b1,h1⟩:=eX (JY gn un);obtain⟨b2,h2⟩:=eX (Rt s.gens);obtain⟨b3,h3⟩:=eX ((Es s.used [] s.free&&decide (s.gens.length=s.free.length+s.used.count true)));have hbb:b=(b1&&(b2&&b3)):=by
  rw [← hb,← h1,← h2,← h3];unfold CA JY;rw [h.lg,h.lu];simp only [DW]
 have HBB:=lH hbb;have H1:=lH h1;have H2:=lH h2;have H3:=lH h3;clear h hf h1 h2 h3 hb hbb;go_enter Tryz.func151,Tryz.ntmps151;go_wp2;refine wp_loop_rounds 4 ?_;rw [rounds_succ];have s0:=HF.out.cell 0;simp only [NY,Ai,Ah] at s0;go_wp2_with (fail);refine(Qw tb v s gn un fn b1 H1.out _ HT.out).mono ?_;rintro e w1 ⟨rfl,hk1⟩;clear s0;have HK1:=lH hk1;clear hk1;cases b1 with
 | false=>
  obtain rfl:b=false:=HBB.out;go_wp2;go_ret;exact⟨rfl,HK1.out⟩
 | true=>
  go_wp2_with (fail);rw [rounds_succ];have s1:=(HF.out.keeps HK1.out bA).cell 1;simp only [NY,Ai,Ah,Al] at s1;go_wp2_with (fail);refine(NW tb v s gn un fn b2 H2.out _ (HT.out.keeps HK1.out)).mono ?_;rintro e w2 ⟨rfl,rfl⟩;clear s1;cases b2 with
  | false=>
   obtain rfl:b=false:=HBB.out;go_wp2;go_ret;exact⟨rfl,HK1.out⟩
  | true=>
   go_wp2_with (fail);rw [rounds_succ];have s2:=(HF.out.keeps HK1.out bA).cell 2;simp only [NY,Ai,Ah,Al] at s2;obtain rfl:un=gn:=by
    have:=H1.out;simp only [JY,Af,decide_eq_true_eq] at this;omega
   go_wp2_with (fail);refine(NV tb v s un fn b3 H3.out _ (HT.out.keeps HK1.out)).mono ?_;rintro e w3 ⟨rfl,hk3⟩;clear s2;have HK3:=lH (HK1.out.trans hk3);clear hk3;obtain rfl:b=b3:=HBB.out;cases b with
   | false=>
    go_wp2;go_ret;exact⟨rfl,HK3.out⟩
   | true=>
    go_wp2_with (fail);rw [rounds_succ];go_wp2;go_ret;exact⟨rfl,HK3.out⟩
theorem Dn(v:D3)(s:Ff)(gn un fn:Nat)(hg:s.gens.length=gn)(hu:s.used.length=un)(hf:s.free.length=fn)(b:Bool)(hb:CA s=b)(w:World)(h:Dp w v s):
  Calls Tryz.prog 91 #[dK (S_ v gn un fn)] w fun e w'=>e = dM (dL b)∧Aa [] w w':=by
 have hk:=(((Aa.refl [] w).alloc (.cells (S_ v gn un fn) 26)).alloc (.cells (S_ v gn un fn) 252)).alloc (.cells NY 256);have HC:=lH (fun W (hkk:Aa [] w W) (hb1:Blk W (w.heap.size+1) 252 (S_ v gn un fn)) (hb2:Blk W (w.heap.size+1+1) 256 NY)=>QQ (w.heap.size+1) v s gn un fn (w.heap.size+1+1) 256 b hb W ⟨hb1,h.keeps hkk,hg,hu,hf⟩ hb2);have HK:=lH hk;have HB1:=lH ((Aq (w.alloc (.cells (S_ v gn un fn) 26)) 252 (S_ v gn un fn) (w.heap.size+1) bA).alloc (.cells NY 256));have HB2:=lH (Aq ((w.alloc (.cells (S_ v gn un fn) 26)).alloc (.cells (S_ v gn un fn) 252)) 256 NY (w.heap.size+1+1) bA);clear hk h hb hg hu hf;go_enter Tryz.func91,Tryz.ntmps91;go_wp2_with (fail);refine(HC.out _ HK.out HB1.out HB2.out).mono ?_;rintro e w1 ⟨rfl,hk1⟩;have HK1:=lH (HK.out.trans hk1);clear hk1;go_wp2;go_ret;exact⟨rfl,HK1.out⟩
def Gc(l:Int)(L:List Ey):Int:=(L.getLast?.map (·.id)).getD l
def Hw(met:List Int)(last:Int)(c:Ey):Bool:=!met.contains c.id&&decide (last≤c.id)
theorem Ns:∀(A B:List Ey) (m:List Int) (l:Int),Cb m l (A++B)=(Cb m l A&&Cb (m++A.map (·.id)) (Gc l A) B)
 | [],B,m,l=>by simp [Cb,Gc]
 | c::A,B,m,l=>by
  have h:Gc l (c::A)=Gc c.id A:=by
   unfold Gc;rw [List.getLast?_cons];cases A.getLast?<;>rfl
  rw [A6,Cb,Cb,Ns A B,h];simp only [Cn,DW];rw [CO];rfl
theorem Wn(m:List Int)(l:Int)(c:Ey):Cb m l [c]=Hw m l c:=by simp [Cb,Hw]
theorem Oo{L:List Ey}{k:Nat}{c:Ey}(h:L[k]? = some c):Cb [] 0 (L.take (k+1))=(Cb [] 0 (L.take k)&&Hw ((L.take k).map (·.id)) (Gc 0 (L.take k)) c):=by
 rw [AB h,Ns,Wn,AX]
theorem Rm{L:List Ey}{k:Nat}{c:Ey}(h:L[k]? = some c)(hb:Hw ((L.take k).map (·.id)) (Gc 0 (L.take k)) c=false):Cb [] 0 L=false:=by
 have h2:=Oo h;rw [hb,Bool.and_false] at h2;rw [← Bj (k+1) L,Ns,h2,D4]
theorem S5{L:List Ey}{k:Nat}{c:Ey}(h:L[k]? = some c):Gc 0 (L.take (k+1))=c.id:=by
 rw [AB h];simp [Gc]
theorem Iz(a:Option Addr)(c:Nat)(L:List Ey)(n:Nat)(hn:L.length=n)(hL:n≤1000000)(b:Bool)(hb:Dg L=b)(w:World)(h:ID w a c L):
  Calls Tryz.prog 157 #[dI a n c] w fun e w'=>e = dM (dL b)∧Aa [] w w':=by
 have HH:=lH h;have HN:=lH hn;have HB:=lH hb;clear h hn hb;have hmk:=fun W=>run_makeMap (P:=Tryz.prog) 110 W;have HI0:Hid (Do (dH .i64) (w.alloc (.map #[] 0)) w.heap.size ([]:List Int)):=lH (Do.new w);go_enter Tryz.func157,Tryz.ntmps157;go_wp2;go_loopw [10,4] (fun i l wr=>∃k:Nat,i = dH dN k∧k≤n∧l = dH dN (Gc 0 (L.take k))∧Hid (Cb [] 0 (L.take k)=true)∧Hid (Do (dH .i64) wr w.heap.size ((L.take k).map (·.id)))∧Hid (Aa [] w wr)) (fun i _ _=>n - (intOf i).toNat)
 case atStart=>exact⟨0,rfl,Cy _,rfl,lH rfl,HI0,lH ((Aa.refl [] w).alloc _)⟩
 case round=>
  obtain⟨k,rfl,hk,hlst,HP,HST,HK⟩:=hrel;obtain⟨la,hla⟩:=eX (Gc 0 (L.take k));rw [hla] at hlst;obtain rfl:=hlst;have HLA:=lH hla;clear hla;by_cases hlt:k<n
  ·obtain⟨g,off,⟨id,ky,fr,to⟩,rfl,hg,hx,hat⟩:=HH.out.at_k (k:=k) bO
   have q0:=hat 0 (dH dN id) rfl;have q1:=hat 1 (CZ ky) rfl;have q2:=hat 2 (dH dN fr) rfl;have q3:=hat 3 (dH dN to) rfl;rw [CG] at q0;rw [← HK.out.cell (p:=⟨g,off+k*4,none⟩) hg bA] at q0;rw [← HK.out.cell (p:=⟨g,off+k*4+1,none⟩) hg bA] at q1;rw [← HK.out.cell (p:=⟨g,off+k*4+2,none⟩) hg bA] at q2;rw [← HK.out.cell (p:=⟨g,off+k*4+3,none⟩) hg bA] at q3;have i1:(0:Int)≤(k:Int):=by omega
   have i2:(k:Int)<(n:Int):=by omega
   have HX:=lH hx;have hk0:=(Aa.refl [] wr).alloc (.cells #[dH dN id,CZ ky,dH dN fr,dH dN to] 233);have hset:=HST.out.keeps hk0 bA;have hbx:=Blk.new wr 233 #[dH dN id,CZ ky,dH dN fr,dH dN to];have d0:=hbx.ce 0;have d1:=hbx.ce 1;have hlk:=Vw hset id;obtain⟨y2,hy2⟩:=eX (decide (id∈(L.take k).map (·.id)));obtain⟨y3,hy3⟩:=eX (decide (id<la));rw [hy2] at hlk;have hst:Hw ((L.take k).map (·.id)) (Gc 0 (L.take k)) ⟨id,ky,fr,to⟩=(!y2&&!y3):=by
    unfold Hw;rw [HLA.out,List.contains_eq_mem,hy2,← hy3]
    congr 1
    rw [← decide_not];exact decide_eq_decide.2 bH
   have HOS:=lH hst;have HY2:=lH hy2;have HK0:=lH (HK.out.alloc (.cells #[dH dN id,CZ ky,dH dN fr,dH dN to] 233));have HSET:=lH hset;have HBX:=lH hbx;have HLTW:Hid (w.heap.size<wr.heap.size):=lH HST.out.lt;clear hat hg hx hk0 hset hbx hy2 hst;cases y2 with
   | true=>
    obtain rfl:b=false:=by rw [← HB.out];unfold Dg;rw [Rm HX.out Z4];rfl
    go_wp2;go_ret;exact⟨rfl,HK0.out⟩
   | false=>
    cases y3 with
    | true=>
     obtain rfl:b=false:=by rw [← HB.out];unfold Dg;rw [Rm HX.out Z4];rfl
     go_wp2;go_ret;exact⟨rfl,HK0.out⟩
    | false=>
     obtain⟨o,hup,hset2⟩:=R5 (HSET.out.keeps ((Aa.refl [] _).drew) bA) id (of_decide_eq_false HY2.out);have HP2:Hid (Cb [] 0 (L.take (k+1))=true):=lH (by rw [Oo HX.out,HP.out,HOS.out];rfl);have HSET2:Hid (Do (dH .i64) ((wr.alloc (.cells #[dH dN id,CZ ky,dH dN fr,dH dN to] 233)).drew.putObj w.heap.size o) w.heap.size ((L.take (k+1)).map (·.id))):=lH (by rw [AB HX.out,List.map_append];exact hset2);have HL2:Hid (Gc 0 (L.take (k+1))=id):=lH (S5 HX.out);have HK2:=lH (HK0.out.drew.own (Dw _ w.heap.size o) bF);have e0:=(HBX.out.drew.keeps (Dw _ w.heap.size o) (by have:=HLTW.out;simp only [Ac,Ab,or_false];omega)).ce 0;clear hset2;go_wp2;go_region;go_wp2;go_roundw;case rel=>exact⟨k+1,by go_num,by omega,by rw [HL2.out],HP2,HSET2,HK2⟩
     case measure=>simp [intOf];omega
  ·obtain rfl:k=n:=by omega
   have hap:Cb [] 0 L=true:=by
    have:=HP.out
    rwa [Ax bL] at this
   obtain⟨y,hy⟩:=eX (L.all GO);have hbb:b=(decide (k≤4)&&y):=by rw [← HB.out];unfold Dg;rw [hap,hy,HN.out];rfl
   have HBB:=lH hbb;have HY:=lH hy;clear hap hy hbb;by_cases h10:k≤4
   ·have i3:(k:Int)≤4:=by omega
    obtain rfl:b=y:=by rw [HBB.out,decide_eq_true h10];rfl
    have HF:=lH (Blk.new wr 318 RN);have HKF:=lH (HK.out.alloc (.cells RN 318));clear h10;go_wp2_with (fail);refine(Oq a c L k HN.out hL _ _ b HY.out _ (HH.out.keeps HKF.out) HF.out).mono ?_;rintro e w1 ⟨rfl,hk1⟩;have HK1:=lH (HKF.out.trans hk1);clear hk1;go_wp2;go_ret;exact⟨rfl,HK1.out⟩
   ·have i3:¬(k:Int)≤4:=by omega
    obtain rfl:b=false:=by rw [HBB.out,decide_eq_false h10];rfl
    clear h10;go_wp2;go_ret;exact⟨rfl,HK.out⟩
theorem Lb(s:ByteArray)(b:Bool)(hb:GG s=b)(w:World):Calls Tryz.prog 155 #[CZ s] w fun e w'=>e = dM (dL b)∧Aa [] w w':=by
 have HB:=lH hb;clear hb;by_cases h0:s=⟨#[]⟩
 ·obtain rfl:b=false:=by rw [← HB.out];simp [GG,h0]
  subst h0;clear HB;go_enter Tryz.func155,Tryz.ntmps155;go_wp2;go_ret;exact⟨rfl,Aa.refl [] w⟩
 ·have hne:=R7 h0
  by_cases h1:s.size≤40
  ·obtain⟨y,hy⟩:=eX (Fk s)
   obtain rfl:b=y:=by rw [← HB.out,← hy,M7];simp [GG,h0,h1]
   have HY:=lH hy;have i1:(s.size:Int)≤40:=by omega
   have hs:s.size≤maxLen:=by unfold maxLen;omega
   clear h0 h1 hy HB;go_enter Tryz.func155,Tryz.ntmps155;go_wp2_with (fail);refine(LM s hs b HY.out _).mono ?_;rintro e w1 ⟨rfl,hk⟩;have HK:=lH hk;clear hk;go_wp2;go_ret;exact⟨by(show dM (dL (!s.toList.isEmpty&&b))=_;rw [List.isEmpty_eq_false_iff.2 hne];rfl),HK.out⟩
  ·obtain rfl:b=false:=by rw [← HB.out];simp [GG,h1]
   have i1:¬(s.size:Int)≤40:=by omega
   clear h0 h1 HB;go_enter Tryz.func155,Tryz.ntmps155;go_wp2;go_ret;exact⟨by(show dM (dL _)=_;simp),Aa.refl [] w⟩
theorem Md(v:TV)(seq:Int)(b:Bool)(hb:(decide (1≤v.version)&&decide (v.version≤seq))=b)(w:World):Calls Tryz.prog 93 #[dK (U_ v seq)] w fun e w'=>e = dM (dL b)∧Aa [] w w':=by
 have HK:=lH ((Aa.refl [] w).alloc (.cells (U_ v seq) 126));obtain⟨b1,h1⟩:=eX (decide (1≤v.version));rw [h1] at hb;have f1:decide (v.version≥1)=b1:=h1;clear h1;cases b1<;>simp only [D4,De] at hb<;>
 ·subst hb
  go_enter Tryz.func93,Tryz.ntmps93;go_wp2;go_ret;exact⟨rfl,HK.out⟩
def LG(st dl:Int):Bool:=decide (1≤st)&&(decide (st≤3)&&(decide (0≤dl)&&(decide (dl≤1000000000000)&&(decide (dl=0)||decide (st=3)))))
theorem Me(v:TV)(seq:Int)(b:Bool)(hb:LG v.state v.deadline=b)(w:World):Calls Tryz.prog 94 #[dK (U_ v seq)] w fun e w'=>e = dM (dL b)∧Aa [] w w':=by
 have HK:=lH ((Aa.refl [] w).alloc (.cells (U_ v seq) 126));obtain⟨st,hst⟩:=eX (v.state);obtain⟨dl,hdl⟩:=eX (v.deadline);rw [hst,hdl] at hb HK;rw [hst,hdl];clear hst hdl;unfold LG at hb;obtain⟨b1,h1⟩:=eX (decide (1≤st));obtain⟨b2,h2⟩:=eX (decide (st≤3));obtain⟨b3,h3⟩:=eX (decide (0≤dl));obtain⟨b4,h4⟩:=eX (decide (dl≤1000000000000));obtain⟨b5,h5⟩:=eX (decide (dl=0));obtain⟨b6,h6⟩:=eX (decide (st=3));rw [h1,h2,h3,h4,h5,h6] at hb;have f1:decide (st≥1)=b1:=h1;have f3:decide (dl≥0)=b3:=h3;have f5:(dl==0)=b5:=by rw [← h5,Bool.eq_iff_iff];simp
 have f6:(st==3)=b6:=by rw [← h6,Bool.eq_iff_iff];simp
 clear h1 h3 h5 h6;cases b1 with
 | false=>
  simp only [D4,De] at hb;subst hb;go_enter Tryz.func94,Tryz.ntmps94;go_wp2;go_ret;exact⟨rfl,HK.out⟩
 | true=>
  cases b2 with
  | false=>
   simp only [D4,De] at hb;subst hb;go_enter Tryz.func94,Tryz.ntmps94;go_wp2;go_ret;exact⟨rfl,HK.out⟩
  | true=>
   cases b3 with
   | false=>
    simp only [D4,De] at hb;subst hb;go_enter Tryz.func94,Tryz.ntmps94;go_wp2;go_ret;exact⟨rfl,HK.out⟩
   | true=>
    cases b4 with
    | false=>
     simp only [D4,De] at hb;subst hb;go_enter Tryz.func94,Tryz.ntmps94;go_wp2;go_ret;exact⟨rfl,HK.out⟩
    | true=>
     simp only [D4,De] at hb;cases b5<;>cases b6<;>simp only [Bool.false_or,Bool.true_or] at hb<;>
     ·subst hb
      go_enter Tryz.func94,Tryz.ntmps94;go_wp2;go_ret;exact⟨rfl,HK.out⟩
theorem OB(v:TV)(t:Ten)(seq:Int)(hs:t.rules.length≤1000∧t.creds.length≤1000)(b:Bool)(hb:(GG v.name&&(DD t.rules&&Dg t.creds))=b)(w:World)(h:BU w v t):Calls Tryz.prog 95 #[dK (U_ v seq)] w fun e w'=>e = dM (dL b)∧Aa [] w w':=by
 obtain⟨b1,h1⟩:=eX (GG v.name);obtain⟨b2,h2⟩:=eX (DD t.rules);obtain⟨b3,h3⟩:=eX (Dg t.creds);rw [h1,h2,h3] at hb;have H1:=lH (Lb v.name b1 h1);have H2:=lH (fun W (hk:Aa [] w W)=>It v.ra v.rc t.rules v.rl h.rl (by have:=h.rl;omega) b2 h2 W (h.rs.keeps hk));have H3:=lH (fun W (hk:Aa [] w W)=>Iz v.ca v.cc t.creds v.cl h.cl (by have:=h.cl;omega) b3 h3 W (h.cs.keeps hk));have HB:=lH hb;have HK0:=lH ((Aa.refl [] w).alloc (.cells (U_ v seq) 126));have HBX:=lH (Blk.new w 126 (U_ v seq));have d2:=HBX.out.ce 2;clear h1 h2 h3 hb h hs;go_enter Tryz.func95,Tryz.ntmps95;go_wp2_with (fail);refine(H1.out _).mono ?_;rintro e w1 ⟨rfl,hk1⟩;have HK1:=lH (HK0.out.trans hk1);have hbx:=HBX.out.keeps hk1 bA;have e5:=hbx.ce 5;have e6:=hbx.ce 6;have HBX1:=lH hbx;clear hk1 hbx d2;cases b1 with
 | false=>
  obtain rfl:b=false:=by rw [← HB.out];rfl
  go_wp2;go_ret;exact⟨rfl,HK1.out⟩
 | true=>
  go_wp2_with (fail);refine(H2.out _ HK1.out).mono ?_;rintro e w2 ⟨rfl,hk2⟩;have HK2:=lH (HK1.out.trans hk2);have hbx:=HBX1.out.keeps hk2 bA;clear e5 e6;have e6:=hbx.ce 6;clear hk2 hbx;cases b2 with
  | false=>
   obtain rfl:b=false:=by rw [← HB.out];rfl
   go_wp2;go_ret;exact⟨rfl,HK2.out⟩
  | true=>
   obtain rfl:b=b3:=by rw [← HB.out];rfl
   go_wp2_with (fail);refine(H3.out _ HK2.out).mono ?_;rintro e w3 ⟨rfl,hk3⟩;have HK3:=lH (HK2.out.trans hk3);clear hk3;go_wp2;go_ret;exact⟨rfl,HK3.out⟩
def TN:Array Value:=#[.func (.func 93) #[] #[],.func (.func 94) #[] #[],.func (.func 95) #[] #[]]
theorem WW{w:World}{v:TV}{t:Ten}(h:BU w v t)(seq:Int):FE seq t=((decide (1≤v.version)&&decide (v.version≤seq))&&(LG v.state v.deadline&&(GG v.name&&(DD t.rules&&Dg t.creds)))):=by
 unfold FE EQ F8 FU LG;rw [h.version,h.state,h.deadline,h.name];simp only [DW]
theorem QU(v:TV)(t:Ten)(seq:Int)(hs:t.rules.length≤1000∧t.creds.length≤1000)(fb:Nat)(ty:TypeId)(b:Bool)(hb:FE seq t=b)(w:World)(h:BU w v t)(hf:Blk w fb ty TN):Calls Tryz.prog 92 #[dK (U_ v seq),dI (some ⟨fb,0,none⟩) 3 3] w fun e w'=>e = dM (dL b)∧Aa [] w w':=by
 obtain⟨wz,hwz⟩:=eX ((w.alloc (.cells (U_ v seq) 126)));have HK0:Hid (Aa [] w wz):=lH Y7;have hb0:Blk wz w.heap.size 126 (U_ v seq):=by rw [← hwz];exact Blk.new w _ _
 have hb1:Blk wz fb ty TN:=hf.keeps HK0.out bA;obtain⟨b1,h1⟩:=eX ((decide (1≤v.version)&&decide (v.version≤seq)));obtain⟨b2,h2⟩:=eX (LG v.state v.deadline);obtain⟨b3,h3⟩:=eX ((GG v.name&&(DD t.rules&&Dg t.creds)));rw [WW h seq,h1,h2,h3] at hb;have H1:=lH h1;have H2:=lH h2;have H3:=lH h3;have HB:=lH hb;have HT:=lH h;have HSZ:=lH hs;clear h1 h2 h3 hb hf h hs;have HB0:=lH hb0;have HB1:=lH hb1;clear hb0 hb1;go_enter Tryz.func92,Tryz.ntmps92;go_wp2;refine wp_loop_rounds 4 ?_;rw [rounds_succ];have hb0:=HB0.out;have hb1:=HB1.out;clear hwz;have s0:=hb1.cell 0;have s1:=hb1.cell 1;have s2:=hb1.cell 2;have d0:=hb0.cell 0;have d1:=hb0.cell 1;have d2:=hb0.cell 2;have d3:=hb0.cell 3;have d4:=hb0.cell 4;have d5:=hb0.cell 5;have d6:=hb0.cell 6;have d7:=hb0.cell 7;have d8:=hb0.cell 8;simp only [TN,Ai,Ah,Al] at s0 s1 s2 d0 d1 d2 d3 d4 d5 d6 d7 d8;have HB0_0:=lH hb0;have HB1_0:=lH hb1;clear hb0 hb1;go_wp2_with (fail);refine(Md v seq b1 H1.out _).mono ?_;rintro e w1 ⟨rfl,hk1⟩;have HK1:=lH (HK0.out.trans hk1);have hb0:=HB0_0.out.keeps hk1 bA;have hb1:=HB1_0.out.keeps hk1 bA;clear s0 s1 s2 d0 d1 d2 d3 d4 d5 d6 d7 d8 hk1;cases b1 with
 | false=>
  obtain rfl:b=false:=by rw [← HB.out];simp
  go_wp2;go_ret;exact⟨rfl,HK1.out⟩
 | true=>
  go_wp2_with (fail);rw [rounds_succ];have s0:=hb1.cell 0;have s1:=hb1.cell 1;have s2:=hb1.cell 2;have d0:=hb0.cell 0;have d1:=hb0.cell 1;have d2:=hb0.cell 2;have d3:=hb0.cell 3;have d4:=hb0.cell 4;have d5:=hb0.cell 5;have d6:=hb0.cell 6;have d7:=hb0.cell 7;have d8:=hb0.cell 8;simp only [TN,Ai,Ah,Al] at s0 s1 s2 d0 d1 d2 d3 d4 d5 d6 d7 d8;have HB0_1:=lH hb0;have HB1_1:=lH hb1;clear hb0 hb1;go_wp2_with (fail);refine(Me v seq b2 H2.out _).mono ?_;rintro e w2 ⟨rfl,hk2⟩;have HK2:=lH (HK1.out.trans hk2);have hb0:=HB0_1.out.keeps hk2 bA;have hb1:=HB1_1.out.keeps hk2 bA;clear s0 s1 s2 d0 d1 d2 d3 d4 d5 d6 d7 d8 hk2;cases b2 with
  | false=>
   obtain rfl:b=false:=by rw [← HB.out];simp
   go_wp2;go_ret;exact⟨rfl,HK2.out⟩
  | true=>
   go_wp2_with (fail);rw [rounds_succ];have s0:=hb1.cell 0;have s1:=hb1.cell 1;have s2:=hb1.cell 2;have d0:=hb0.cell 0;have d1:=hb0.cell 1;have d2:=hb0.cell 2;have d3:=hb0.cell 3;have d4:=hb0.cell 4;have d5:=hb0.cell 5;have d6:=hb0.cell 6;have d7:=hb0.cell 7;have d8:=hb0.cell 8;simp only [TN,Ai,Ah,Al] at s0 s1 s2 d0 d1 d2 d3 d4 d5 d6 d7 d8;have HB0_2:=lH hb0;have HB1_2:=lH hb1;clear hb0 hb1;go_wp2_with (fail);refine(OB v t seq HSZ.out b3 H3.out _ (HT.out.keeps HK2.out)).mono ?_;rintro e w3 ⟨rfl,hk3⟩;have HK3:=lH (HK2.out.trans hk3);have hb0:=HB0_2.out.keeps hk3 bA;have hb1:=HB1_2.out.keeps hk3 bA;clear s0 s1 s2 d0 d1 d2 d3 d4 d5 d6 d7 d8 hk3;cases b3 with
   | false=>
    obtain rfl:b=false:=by rw [← HB.out];simp
    go_wp2;go_ret;exact⟨rfl,HK3.out⟩
   | true=>
    go_wp2_with (fail);rw [rounds_succ];obtain rfl:b=true:=by rw [← HB.out];rfl
    go_wp2;go_ret;exact⟨rfl,HK3.out⟩
def tv0:TV:=⟨0,0,⟨#[]⟩,0,0,none,0,0,none,0,0,0⟩
def JV(lv:List TV)(seq:Int)(k:Nat):Array Value:=(fun v:TV=>#[dH dN (k:Int),dK (U_ v seq)]) (lv.getD k tv0)
theorem DN{n:Nat}{pre:List Nat}{x:Nat}(h:pre++[x] <+: A0 n):pre=A0 x∧x<n:=by
 have hl:pre.length+1≤n:=by have:=h.length_le;simpa using this
 have h1:=List.prefix_iff_eq_take.1 h;rw [Ag,AW,List.take_range,DP hl,AY] at h1;obtain⟨h2,h3⟩:=List.append_inj h1 bA;injection h3 with h3
 subst h3;exact⟨h2,by omega⟩
theorem Bv{n k:Nat}(h:k<n):A0 k++[k] <+: A0 n:=by
 rw [← AY];exact List.prefix_iff_eq_take.2 (by rw [A8,List.take_range,DP bB])
theorem ET(v:Bm)(r:CE)(gn un fn ln:Nat)(w:World):Calls Tryz.prog 47 #[dK (R_ v gn un fn ln r.seq)] w fun e w'=>e = dM (.func (.func 101) #[] #[dJ (some ⟨w,0,none⟩)])∧w.alloc (.cells (R_ v gn un fn ln r.seq) 29)=w':=by
 go_enter Tryz.func47,Tryz.ntmps47;go_wp2;go_ret;exact⟨rfl,rfl⟩
def Ys(pb:Nat)(la:Option Addr)(lc ln:Nat)(lv:List TV)(seq:Int)(A:World):Prop:=A.cell? ⟨pb,3,none⟩=some (dI la ln lc)∧A.cell? ⟨pb,4,none⟩=some (dH dN seq)∧AJ BM 8 A la lc lv
theorem P3(n l pb:Nat)(la:Option Addr)(lc ln:Nat)(lv:List TV)(hln:lv.length=ln)(h1000:ln≤1000)(seq:Int)(J Jx:List Nat→World→Prop)(W:World)(hJ:Nf [] J)(hV:∀z A,J z A→Ys pb la lc ln lv seq A)
 (hY:∀pre x W1,J pre W1→pre++[x] <+: A0 ln→YieldAt Ba (n - 1) Tryz.prog l (JV lv seq x) W1 fun e W'=>
   (e = dM (dL true)∧J (pre++[x]) W')∨(e = dM (dL false)∧Jx (pre++[x]) W'))
 (h0:J [] W):
  CallsIn Ba n Tryz.prog 101 #[.func (.yield l) #[] #[],dJ (some ⟨pb,0,none⟩)] W fun e W'=>(∃v,e = dM v)∧
   (J (A0 ln) W'∨(∃pre,pre <+: A0 ln∧Jx pre W')):=by
 have HV:=lH hV;have HY:=lH hY;have HST:=lH hJ;have HLN:=lH hln;have HJ0:Hid (J (A0 0) W):=lH (by simpa using h0);obtain⟨c3,c4,_⟩:=hV _ _ h0;clear hV hY h0 hJ hln;have hn1:Fence.wide.depth.isSome=true→1≤n:=by intro h;cases h
 refine callsIn_of_wp Tryz.func101 rfl trivial ?_ rfl;simp only [Tryz.ntmps101,Cx,Ao,Eh,Nat.reduceAdd,Nat.reduceSub,Bc,Bd,By,B0,AX,A6];gi_wp2;refine Br (wpIn_seq (wpIn_label ?_));gi_wp2
 gi_loopw [8] (fun i wr=>∃k:Nat,i = dH dN k∧k≤ln∧Hid (J (A0 k) wr)) (fun i _=>ln - (intOf i).toNat)
 case atStart=>exact⟨0,rfl,Cy _,HJ0⟩
 case round=>
  obtain⟨k,rfl,hk,HJs⟩:=hrel;clear c3 c4;by_cases hlt:k<ln
  ·have i1:(0:Int)≤(k:Int):=by omega
   have i2:(k:Int)<(ln:Int):=by omega
   obtain⟨c3,c4,hS⟩:=HV.out _ _ HJs.out;obtain⟨g1,o1,v,rfl,hg1,hx1,hat1⟩:=hS.at_k (k:=k) (by rw [HLN.out];exact hlt);have q0:=hat1 0 _ rfl;have q1:=hat1 1 _ rfl;have q2:=hat1 2 _ rfl;have q3:=hat1 3 _ rfl;have q4:=hat1 4 _ rfl;have q5:=hat1 5 _ rfl;have q6:=hat1 6 _ rfl;have q7:=hat1 7 _ rfl;rw [CG] at q0;have hk0:=(Aa.refl [] wr).alloc (.cells (T_ v) 124);have e4:=DX c4 (.cells (T_ v) 124);have hJ2:=HST.out _ _ _ HJs.out hk0;have hgd:lv.getD k tv0=v:=by rw [AE,hx1];rfl
   have hy0:=Cv (HY.out _ _ _ hJ2 (Bv hlt));rw [← AY] at hy0;obtain⟨fnn,tmps,assign,body,hy,hR⟩:=hy0;simp only [JV,hgd] at hy;clear hS hat1 hx1 hg1 hk0 hJ2 hgd;gi_wp2;refine⟨hn1,?_⟩;refine hR.mono ?_;rintro e W3 ⟨g,rfl,hT,hF⟩;clear hR hy c3 c4 q0 q1 q2 q3 q4 q5 q6 q7 e4;cases g with
   | false=>
    have hJx:=lH (hF.out rfl);clear hT hF;gi_wp2;try rw [AH]
    go_end0
    exact⟨⟨_,rfl⟩,.inr ⟨_,by rw [AY];exact Bv hlt,hJx.out⟩⟩
   | true=>
    have HJ3:=lH (hT.out rfl);clear hT hF;gi_wp2;go_roundw;case rel=>exact⟨k+1,by go_num,by omega,HJ3⟩
    case measure=>simp [intOf];omega
  ·obtain rfl:k=ln:=by omega
   gi_wp2;try rw [AH]
   go_end0
   exact⟨⟨_,rfl⟩,.inl HJs.out⟩
theorem EU(n pb:Nat)(la:Option Addr)(lc ln:Nat)(lv:List TV)(hln:lv.length=ln)(h1000:ln≤1000)(seq:Int):
  NQ Ba n Tryz.prog 101 #[dJ (some ⟨pb,0,none⟩)] (JV lv seq) (A0 ln) (Ys pb la lc ln lv seq):=fun l J Jx W hJ _ hV hY h0=>
 P3 n l pb la lc ln lv hln h1000 seq J Jx W hJ hV hY h0
theorem KZ:Dj (Tryz.prog.info? 3) 1=true:=by kernel_rfl
def IB(role:Int):List Int:=(Bb.filter (fun v=>setsR role &&& v.2.2 != 0)).map (·.1)
theorem SA(role verb:Int):Q3 role verb=decide (verb∈IB role):=by
 unfold Q3 IB;rw [Bool.eq_iff_iff,decide_eq_true_eq,List.any_eq_true];simp only [Ee,List.mem_filter,Af,beq_iff_eq];constructor
 ·rintro⟨x,h1,h2,h3⟩;exact⟨x,⟨h1,h3⟩,h2⟩
 ·rintro⟨x,⟨h1,h3⟩,h2⟩;exact⟨x,h1,h2,h3⟩
structure Yu(w:World)(role:Int)(pre:List (Int×List UInt8×Nat))(A:World):Prop where
 run:∃v,A.ownsRow (w.heap.size+4) 3 1 v (pre.map (·.1)).length ((pre.map (·.1)).flatMap EY)∧Blk A w.heap.size 23 #[v]
 tb:Blk A (w.heap.size+1) 219 #[.func (.func 137) #[dH dN role] #[]]
 kw:Aa [] w A
 vt:D5 A
theorem Yu.keeps{w:World}{role:Int}{pre:List (Int×List UInt8×Nat)}{A A':World}{S:List Nat}(h:Yu w role pre A)(hk:Aa S A A')(hS:∀y∈S,w.heap.size+2≤y∧y<w.heap.size+4)(hg:1<w.heap.size):Yu w role pre A':=by
 obtain⟨v,h1,h2⟩:=h.run;have hn:∀y,y<w.heap.size+2→y∉S:=fun y hy hm=>by have:=hS y hm;omega
 exact⟨⟨v,Ak h1 hk (fun g hg2 hm=>by have:=(h1.lt g hg2).1;have:=hS g hm;omega),h2.keeps hk (hn _ bB)⟩,h.tb.keeps hk (hn _ bB),h.kw.own hk bM,h.vt.keeps hk (hn _ bB)⟩
theorem RK(role:Int)(w:World)(hv:D5 w):Calls Tryz.prog 69 #[dH dN role] w fun x w'=>∃a c,x = dM (dI a (IB role).length c)∧Ik w' a c (IB role)∧Aa [] w w':=by
 refine(callsIn_wide (n:=9)).1 ?_;have hgl:1<w.heap.size:=A4 w _ (hv 0 _ rfl);have HVT:=lH hv;clear hv;refine callsIn_of_wp_marks Tryz.func69 rfl trivial ?_ rfl;simp only [Tryz.ntmps69,Cx,Ao,Eh,Nat.reduceAdd,Nat.reduceSub,Bc,Bd,By,B0,AX,A6];gi_wp2_with (fail);refine⟨trivial,(callsIn_wide.2 (MO _ _ ⟨_,_,_,rfl⟩)).mono ?_⟩;rintro e w1 ⟨rfl,hw1⟩;gi_wp2_with (fail);have hsz:w1.heap.size=w.heap.size+2:=by rw [← hw1];simp
 have hI0:Yu w role [] w1:=by
  have hk:Aa [] w w1:=by rw [← hw1];exact((Aa.refl [] w).alloc _).alloc _
  refine⟨⟨dI none 0 0,Bz _ _ _ _,?_⟩,?_,hk,HVT.out.keeps hk bA⟩<;>rw [← hw1]
  ·exact(Blk.new w _ _).alloc _
  ·exact Aq _ _ _ _ bA
 have HI0:=lH hI0;clear hI0 hw1;refine Bx rfl bB (gf:=170) (lb:=#[dJ (some ⟨w.heap.size+1,0,none⟩)]) rfl trivial (enters_of Tryz.func170 bC rfl) (VF 8 (w.heap.size+1) role) (fun _=>rfl)
  (fun pre A=>Yu w role pre A) (fun _ _=>False)
  (fun pre A A' h hk=>h.keeps hk bF hgl)
  (fun pre A A' h hk=>h)
  (fun pre A h=>⟨h.vt,by simpa using h.tb.cell 0⟩) HI0.out
  (fun x W=>({ tmps:=#[dH dN role,undef,dI none 0 0,dJ (some ⟨w,0,none⟩),dJ (some ⟨W,0,none⟩),dH dN role,.func (.func 137) #[dH dN role] #[],
     .func (.func 170) #[] #[dJ (some ⟨w.heap.size+1,0,none⟩)],dK #[dH dN x.1,CZ ⟨x.2.1.toArray⟩,dH dN (x.2.2:Nat)],undef,undef,undef,undef,undef,undef],defers:=[] },W.alloc (.cells #[dH dN x.1,CZ ⟨x.2.1.toArray⟩,dH dN (x.2.2:Nat)] 218)))
  (fun x W=>(Aa.refl [] W).alloc _) ?assign ?body ?done ?stop
 case assign=>
  rintro l ⟨vn,vw,vs⟩ W K hK;simp only [JW,Kk];gi_wp2;exact hK
 case body=>
  rintro l pre ⟨vn,vw,vs⟩ W W2 hI hpre hsz2 hk2;dsimp only at hk2 ⊢;have hb:=(Blk.new W 218 #[dH dN vn,CZ ⟨vw.toArray⟩,dH dN (vs:Nat)]).keeps hk2 bI;have hI2:=(hI.keeps ((Aa.refl [] W).alloc (.cells #[dH dN vn,CZ ⟨vw.toArray⟩,dH dN (vs:Nat)] 218)) bA hgl).keeps hk2 bF hgl;obtain⟨v,hrow,hob⟩:=hI2.run;have hszW:W.heap.size+1≤W2.heap.size:=by have:=hk2.size;rw [World.size_alloc] at this;exact this
  have hlen:(pre.map (·.1)).length≤10:=by
   have h1:=hpre.length_le;have h2:=List.length_filter_le (fun v:Int×List UInt8×Nat=>setsR role &&& v.2.2 != 0) Bb;have h3:Bb.length=10:=by decide
   simp only [Ag,AW,BX] at h1 ⊢;omega
  obtain⟨g,c,W3,hrun,hrow3,hk3,hge⟩:=C8 (enc:=EY) Tryz.prog (t:=23) Tryz.underlying23 KZ bE DZ IU hrow bB vn bB 23;have d0:=hb.ce 0;have q0:=hob.ce 0;have hgeS:=AP hrow;have hob3:=hob.keeps hk3 (fun hm=>by have:=hgeS _ hm;omega);have q3:=hob3.ce 0;have f3:=hob3.frozen 0;have HOB3:=lH (hob3.set_ 0 (dI (some ⟨g,0,none⟩) ((pre.map (·.1)).length+1) c));obtain⟨m,hm⟩:=eX ((pre.map (·.1)).length+1);have HTB:=lH (hI2.tb.keeps hk3 (fun hm=>by have:=hgeS _ hm;omega));have HVT3:=lH (hI2.vt.keeps hk3 (fun hm=>by have:=hgeS _ hm;omega));have HKW:=lH (hI2.kw.own hk3 Y8);have HROW:=lH hrow3;have HSZ:Hid (W2.heap.size≤W3.heap.size):=lH hk3.size;have HBL:Hid (∀k∈[w1.heap.size,w1.heap.size+1],W3.heap[k]? = W2.heap[k]?):=lH (fun k hk=>hk3.block k ZO (fun hm=>by have:=hgeS k hm;simp only [Ac,Ab,or_false] at hk;omega));have HGE:=lH hge;rw [hm] at hrun HOB3 HROW;have HM:=lH hm;simp only [EY] at hrun;clear hI hpre hk2 hI2 hb hrow hob hlen hrow3 hk3 hge hgeS hob3 hm;gi_wp2_with (gi_at_builtin;refine DV _ rfl _ _ 23 rfl rfl rfl hrun ?_);have hk4:Aa [w.heap.size] W3 (W3.setCell ⟨w,0,none⟩ (dI (some ⟨g,0,none⟩) m c)):=(Aa.refl _ W3).setCell (p:=⟨w,0,none⟩) (.inl bA) _;refine⟨As HSZ.out hk4.size,fun y hy=>(hk4.block y ZL Yc).trans (HBL.out y hy),⟨_,?_,HOB3.out⟩,HTB.out.keeps hk4 bA,HKW.out.own hk4 bF,HVT3.out.keeps hk4 bI⟩;have h9:=Ak HROW.out hk4 (fun g' hg' hm'=>by have:=(HROW.out.lt g' hg').1;simp only [Ac,Ab,or_false] at hm';omega);rw [List.map_append];exact h9
 case done=>
  rintro W hI hsz2 hK;rw [hsz] at hK;obtain⟨v,hrow,hob⟩:=hI.run;have q0:=hob.ce 0;have HROW:=lH hrow;have HKW:=lH hI.kw;clear hI hrow hob;gi_wp2;refine⟨by simp,.inl ⟨_,_,rfl,run_takeDeferred hK,?_⟩⟩;have hk4:=Az (S:=[w.heap.size+2]) W (.deferred none) (l:=w.heap.size+2) bA;have hrow2:=Ak HROW.out hk4 (fun g hg hm=>by have:=(HROW.out.lt g hg).1;simp only [Ac,Ab,or_false] at hm;omega);obtain⟨a,c,rfl,hsl,_⟩:=AJ.of_row DZ hrow2;refine⟨_,by simp [results,Tryz.results69,go_sem];rfl,?_⟩;exact⟨a,c,by simp [IB],hsl,HKW.out.own hk4 bF⟩
 case stop=>
  rintro pre W hpre hX hsz2 hK;exact hX.elim
theorem VZ(role verb:Int)(b:Bool)(hb:Q3 role verb=b)(w:World)(hv:D5 w):Calls Tryz.prog 32 #[dH dN role,dH dN verb] w fun x w'=>x = dM (dL b)∧Aa [] w w':=by
 rw [SA] at hb;have HV:=lH (RK role w hv);obtain⟨L,hL⟩:=eX (IB role);have hl10:L.length≤10:=by
  rw [← hL];have h2:=List.length_filter_le (fun v:Int×List UInt8×Nat=>setsR role &&& v.2.2 != 0) Bb;have h3:Bb.length=10:=by decide
  unfold IB;rw [BX];omega
 rw [hL] at hb HV;have HB:=lH hb;clear hb hv hL;go_enter Tryz.func32,Tryz.ntmps32;go_wp2_with (fail);refine HV.out.mono ?_;rintro x w1 ⟨a,c,rfl,hsl,hk⟩;obtain⟨n,hn⟩:=eX (L.length);have HS:=lH hsl;have HK:=lH hk;have HN:=lH hn;rw [hn] at hl10 ⊢;clear hsl hk hn;go_wp2_with (fail);go_loopw [10] (fun i wr=>∃k:Nat,i = dH dN k∧k≤n∧Hid (verb∉L.take k)∧wr=w1) (fun i _=>n - (intOf i).toNat)
 case atStart=>exact⟨0,rfl,Cy _,lH bA,rfl⟩
 case round=>
  obtain⟨k,rfl,hk,HP,rfl⟩:=hrel;by_cases hlt:k<n
  ·obtain⟨g,off,x,rfl,hg,hx,hat⟩:=HS.out.at_k (k:=k) bO
   have q0:=hat 0 (dH dN x) rfl;rw [CG,Nat.mul_one] at q0;have i1:(0:Int)≤(k:Int):=by omega
   have i2:(k:Int)<(n:Int):=by omega
   have HX:=lH hx;clear hat hg hx;by_cases he:x=verb
   ·have f1:(x==verb)=true:=by simpa using he
    obtain rfl:b=true:=by rw [← HB.out,← he];exact decide_eq_true (Ex HX.out)
    clear he;go_wp2;go_ret;exact⟨rfl,HK.out⟩
   ·have f1:(x==verb)=false:=by simpa using he
    have HP2:Hid (verb∉L.take (k+1)):=lH (by rw [AB HX.out,AF,Am];exact fun h=>h.elim HP.out (fun e=>he e.symm));clear he;go_wp2;go_roundw;case rel=>exact⟨k+1,by go_num,by omega,HP2,trivial⟩
    case measure=>simp [intOf];omega
  ·obtain rfl:k=n:=by omega
   obtain rfl:b=false:=by
    rw [← HB.out];have:=HP.out;rw [Ax bL] at this;exact decide_eq_false this
   go_wp2;go_ret;exact⟨rfl,HK.out⟩
def Ez(w:World)(E:Nat→Addr):Prop:=Fe w 447 [5,2,6,7,8,11] E
theorem Ez.keep{w w':World}{E:Nat→Addr}(h:Ez w E)(hk:Aa [] w w'):Ez w' E:=Fe.keep h hk
theorem Jr{E:Nat→Addr}(w:World)(h:Ez w E):Calls Tryz.prog 229 #[.iface 447 (dJ (some (E 5)))] w fun e w'=>e = dM (dH dN 81)∧w=w':=by
 have c_gaRules:=h.cell 5 bA;have H_gaRules:=lH (Dk h (some 5) 5 bA bA true bE);simp only [GZ] at H_gaRules;clear h;go_enter Tryz.func229,Tryz.ntmps229;go_wp2_with (fail);refine H_gaRules.out.mono ?_;rintro e w1 ⟨rfl,rfl⟩;go_wp2;go_ret;exact⟨rfl,rfl⟩
theorem Dd{E:Nat→Addr}(w:World)(h:Ez w E):Calls Tryz.prog 229 #[.iface 447 (dJ (some (E 2)))] w fun e w'=>e = dM (dH dN 80)∧w=w':=by
 have c_gaRules:=h.cell 5 bA;have H_gaRules:=lH (Dk h (some 2) 5 bA bA false bE);have c_gaRule:=h.cell 2 bA;have H_gaRule:=lH (Dk h (some 2) 2 bA bA true bE);simp only [GZ] at H_gaRules H_gaRule;clear h;go_enter Tryz.func229,Tryz.ntmps229;go_wp2_with (fail);refine H_gaRules.out.mono ?_;rintro e w1 ⟨rfl,rfl⟩;go_wp2_with (fail);refine H_gaRule.out.mono ?_;rintro e w1 ⟨rfl,rfl⟩;go_wp2;go_ret;exact⟨rfl,rfl⟩
theorem G4{E:Nat→Addr}(w:World)(h:Ez w E):Calls Tryz.prog 229 #[.iface 447 (dJ (some (E 6)))] w fun e w'=>e = dM (dH dN 82)∧w=w':=by
 have c_gaRules:=h.cell 5 bA;have H_gaRules:=lH (Dk h (some 6) 5 bA bA false bE);have c_gaRule:=h.cell 2 bA;have H_gaRule:=lH (Dk h (some 6) 2 bA bA false bE);have c_gaPlace:=h.cell 6 bA;have H_gaPlace:=lH (Dk h (some 6) 6 bA bA true bE);simp only [GZ] at H_gaRules H_gaRule H_gaPlace;clear h;go_enter Tryz.func229,Tryz.ntmps229;go_wp2_with (fail);refine H_gaRules.out.mono ?_;rintro e w1 ⟨rfl,rfl⟩;go_wp2_with (fail);refine H_gaRule.out.mono ?_;rintro e w1 ⟨rfl,rfl⟩;go_wp2_with (fail);refine H_gaPlace.out.mono ?_;rintro e w1 ⟨rfl,rfl⟩;go_wp2;go_ret;exact⟨rfl,rfl⟩
theorem Js{E:Nat→Addr}(w:World)(h:Ez w E):Calls Tryz.prog 274 #[.iface 447 (dJ (some (E 8)))] w fun e w'=>e = dM (dH dN 70)∧w=w':=by
 have c_gpPorts:=h.cell 8 bA;have H_gpPorts:=lH (Dk h (some 8) 8 bA bA true bE);simp only [GZ] at H_gpPorts;clear h;go_enter Tryz.func274,Tryz.ntmps274;go_wp2_with (fail);refine H_gpPorts.out.mono ?_;rintro e w1 ⟨rfl,rfl⟩;go_wp2;go_ret;exact⟨rfl,rfl⟩
theorem Kw{a b:ByteArray}(h:¬a=b):¬a.toList=b.toList:=fun e=>h (by
 rw [DS,DS] at e;obtain⟨⟨l⟩⟩:=a;obtain⟨⟨m⟩⟩:=b;have e2:l=m:=e;rw [e2])
theorem M4{α:Type}{p:α→Bool}{L:List α}{k:Nat}{x:α}(h:L[k]? = some x)(hf:(L.take k).find? p=none):(L.take (k+1)).find? p=if p x then some x else none:=by
 rw [AB h,List.find?_append,hf];simp [List.find?_cons];split<;>simp_all
theorem Wr{α:Type}{p:α→Bool}{L:List α}{k:Nat}{x:α}(h:L[k]? = some x)(hf:(L.take k).find? p=none)(hp:p x=true):L.find? p=some x:=by
 have e:L=L.take (k+1)++L.drop (k+1):=(Bj _ _).symm;rw [e,List.find?_append,M4 h hf,hp];rfl
theorem SG(a:Option Addr)(c:Nat)(L:List Kp)(n:Nat)(hn:L.length=n)(hL:n≤1000000)(hs:∀o∈L,o.name.size≤maxLen)(name:ByteArray)(r e:Int)(hr:Fh L name=(r,e))(w:World)(h:Mo w a c L):
  Calls Tryz.prog 31 #[dI a n c,CZ name] w fun x w'=>x = dM (.tuple #[dH dN r,dH dN e])∧Aa [] w w':=by
 have HH:=lH h;have HN:=lH hn;obtain⟨b,hb⟩:=eX (He L);have HB:=lH hb;have HS:=lH hs;have HR:=lH hr;clear h hn hb hs hr;go_enter Tryz.func31,Tryz.ntmps31;go_wp2_with (fail);refine(I6 a c L n HN.out hL HS.out b HB.out w HH.out).mono ?_;rintro x w1 ⟨rfl,hk⟩;have HK:=lH hk;clear hk;cases b with
 | false=>
  obtain⟨rfl,rfl⟩:r=0∧e=120:=by
   have:=HR.out;unfold Fh at this;rw [if_neg Z2] at this;injection this with h1 h2
   exact⟨h1.symm,h2.symm⟩
  go_wp2;go_ret2;exact⟨rfl,HK.out⟩
 | true=>
  have hr2:(match L.find? (fun o=>o.name==name) with | some o=>(o.role,0) | none=>((0:Int),(120:Int)))=(r,e):=by
   have:=HR.out;unfold Fh at this;rw [if_pos HB.out] at this;exact this
  have HR2:=lH hr2;clear hr2;go_wp2;go_loopw [13] (fun i wr=>∃k:Nat,i = dH dN k∧k≤n∧Hid ((L.take k).find? (fun o=>o.name==name)=none)∧Hid (Aa [] w wr)) (fun i _=>n - (intOf i).toNat)
  case atStart=>exact⟨0,rfl,Cy _,lH rfl,HK⟩
  case round=>
   obtain⟨k,rfl,hk,HP,HKr⟩:=hrel;by_cases hlt:k<n
   ·obtain⟨g,off,⟨nm,ro⟩,rfl,hg,hx,hat⟩:=HH.out.at_k (k:=k) bO
    have q0:=hat 0 (CZ nm) rfl;have q1:=hat 1 (dH dN ro) rfl;rw [CG] at q0;rw [← HKr.out.cell (p:=⟨g,off+k*2,none⟩) hg bA] at q0;rw [← HKr.out.cell (p:=⟨g,off+k*2+1,none⟩) hg bA] at q1;have i1:(0:Int)≤(k:Int):=by omega
    have i2:(k:Int)<(n:Int):=by omega
    have HX:=lH hx;clear hat hg hx;by_cases he:nm=name
    ·subst he
     obtain⟨rfl,rfl⟩:ro=r∧(0:Int)=e:=by
      have:=HR2.out;rw [Wr HX.out HP.out bA] at this;injection this with h1 h2
      exact⟨h1,h2⟩
     go_wp2;go_ret2;exact⟨rfl,HKr.out.alloc _⟩
    ·have hne:(nm.toList==name.toList)=false:=beq_eq_false_iff_ne.2 (Kw he)
     have HP2:Hid ((L.take (k+1)).find? (fun o=>o.name==name)=none):=lH (by rw [M4 HX.out HP.out,if_neg (by simpa using he)]);clear he;go_wp2;go_roundw;case rel=>exact⟨k+1,by go_num,by omega,HP2,lH (HKr.out.alloc _)⟩
     case measure=>simp [intOf];omega
   ·obtain rfl:k=n:=by omega
    obtain⟨rfl,rfl⟩:r=0∧e=120:=by
     have:=HR2.out;have h2:=HP.out;rw [Ax bL] at h2;rw [h2] at this;injection this with h1 h2
     exact⟨h1.symm,h2.symm⟩
    go_wp2;go_ret2;exact⟨rfl,HKr.out⟩
end
end Go.Proofs.YtcjdkbgdahgjbaaGreatDoor
