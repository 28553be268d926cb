/- Steps of the proof: RoleA, RoleB, WordG, RoleC. -/
import Derived.Test.YtcjdkbgdahgjbaaGreatDoorK0
import Derived.Test.YtcjdkbgdahgjbaaGreatDoorKaa
import Derived.Test.YtcjdkbgdahgjbaaGreatDoorKac
import Derived.Test.YtcjdkbgdahgjbaaGreatDoorKbc
set_option maxRecDepth 100000
set_option maxHeartbeats 8000000
set_option linter.all false
namespace Go.Proofs.YtcjdkbgdahgjbaaGreatDoor
open _root_.Array renaming length_toList→BL,replicate_succ→Bc,replicate_zero→Bd
open _root_.ByteArray renaming toList_eq→DS
open Ending renaming returned→dM
open Exit renaming noGoto_normal→AH
open Fence renaming wide→Ba
open IntKind renaming i64→dN
open _root_.List renaming all_eq_true→BB,append_toArray→B0,cons_append→A6,filter_append→DK,getElem?_cons_succ→Al,getElem?_cons_zero→Ah,getElem?_eq_getElem→Au,getElem?_eq_some_iff→Ad,getElem?_toArray→Ai,length_cons→Ao,length_nil→Eh,map_cons→Cn,mem_append→AF,mem_cons→Ac,mem_of_getElem?→Ex,nil_append→AX,not_mem_nil→Ab,push_toArray→By,size_toArray→Cx,take_of_length_le→Ax,take_succ_eq_append_getElem→AR
open _root_.Nat renaming add_zero→CG,le_trans→As,zero_add→BI,zero_le→Cy
open Result renaming andThen→AI
open Value renaming agg→dK,bool→dL,int→dH,pointer→dJ,slice→dI,string→CZ
open World renaming block_lt_of_cell?→A4,ownsRow_nil→Bz
section
open Go.RowKit Go.Shelf
attribute [local go_sem] Oper.semAt_some
attribute [local go_sem ↓] Go.wp_at_zero Go.wp_at_succ
theorem Pu(r:Int)(w:World):Calls Tryz.prog 149 #[dH dN r] w fun e w'=>e = dM (dH dN (setsR r:Nat))∧w=w':=by
 by_cases h3:r=3
 ·subst h3
  go_enter Tryz.func149,Tryz.ntmps149;go_wp2;go_ret;exact⟨rfl,rfl⟩
 ·by_cases h2:r=2
  ·subst h2
   go_enter Tryz.func149,Tryz.ntmps149;go_wp2;go_ret;exact⟨rfl,rfl⟩
  ·by_cases h1:r=1
   ·subst h1
    go_enter Tryz.func149,Tryz.ntmps149;go_wp2;go_ret;exact⟨rfl,rfl⟩
   ·have f3:(r==3)=false:=by simpa using h3
    have f2:(r==2)=false:=by simpa using h2
    have f1:(r==1)=false:=by simpa using h1
    have hs:setsR r=0:=by unfold setsR;rw [if_neg h3,if_neg h2,if_neg h1]
    rw [hs];clear h3 h2 h1 hs;go_enter Tryz.func149,Tryz.ntmps149;go_wp2;go_ret;exact⟨rfl,rfl⟩
theorem M7(s:ByteArray):Fk s=Hz s:=rfl
theorem R7{s:ByteArray}(h:¬s=⟨#[]⟩):¬s.toList = []:=fun e=>h (by
 rw [DS] at e;obtain⟨⟨l⟩⟩:=s;have e2:l = []:=e;rw [e2])
theorem O8(o:Kp)(hs:o.name.size≤maxLen)(b:Bool)(hb:(decide (o.name≠⟨#[]⟩)&&Hz o.name)=b)(w:World):
  Calls Tryz.prog 88 #[dK #[CZ o.name,dH dN o.role]] w fun e w'=>e = dM (dL b)∧Aa [] w w':=by
 obtain⟨nm,ro⟩:=o;dsimp only at hs hb ⊢;have HB:=lH hb;have hk0:=(Aa.refl [] w).alloc (.cells #[CZ nm,dH dN ro] 182);obtain⟨y,hy⟩:=eX (Fk nm);have HY:=lH hy;have HK:=lH hk0;clear hb hy hk0;by_cases h0:nm=⟨#[]⟩
 ·obtain rfl:b=false:=by rw [← HB.out];simp [h0]
  subst h0;clear HB HY;go_enter Tryz.func88,Tryz.ntmps88;go_wp2;go_ret;exact⟨rfl,HK.out⟩
 ·obtain rfl:b=y:=by rw [← HB.out,← HY.out,M7];simp [h0]
  have hne:=R7 h0;clear h0;go_enter Tryz.func88,Tryz.ntmps88;go_wp2_with (fail);refine(LM nm hs b HY.out _).mono ?_;rintro e w1 ⟨rfl,hk⟩;have HK2:=lH (HK.out.trans hk);clear hk;go_wp2;go_ret;exact⟨Hl (by rw [List.isEmpty_eq_false_iff.2 hne];rfl),HK2.out⟩
theorem O9(o:Kp)(b:Bool)(hb:decide (setsR o.role≠0)=b)(w:World):
  Calls Tryz.prog 89 #[dK #[CZ o.name,dH dN o.role]] w fun e w'=>e = dM (dL b)∧Aa [] w w':=by
 obtain⟨nm,ro⟩:=o;dsimp only at hb ⊢;obtain⟨n,hn⟩:=eX (setsR ro);have hk0:=(Aa.refl [] w).alloc (.cells #[CZ nm,dH dN ro] 182);have hs:=fun W=>Pu ro W;rw [hn] at hb hs;have HS:=lH hs;have HK:=lH hk0;have hc:((n:Int) != 0)=b:=by rw [← hb,bne,Bool.eq_iff_iff];simp
 clear hb hs hk0 hn;go_enter Tryz.func89,Tryz.ntmps89;go_wp2_with (fail);refine(HS.out _).mono ?_;rintro e w1 ⟨rfl,rfl⟩;go_wp2;go_ret;exact⟨rfl,HK.out⟩
def TM:Array Value:=#[.func (.func 88) #[] #[],.func (.func 89) #[] #[]]
theorem II{α:Type}{p:α→Bool}{L:List α}{k:Nat}{x:α}(h:L[k]? = some x):(L.take (k+1)).all p=((L.take k).all p&&p x):=by
 obtain⟨hk,rfl⟩:=Ad.1 h;rw [AR hk,List.all_append];simp
theorem Gr{α:Type}{p:α→Bool}{L:List α}{k:Nat}{x:α}(h:L[k]? = some x)(hb:p x=false):L.all p=false:=by
 obtain⟨hk,rfl⟩:=Ad.1 h;apply Bool.eq_false_iff.2;intro ha;rw [BB] at ha;have:=ha _ (List.getElem_mem hk);rw [hb] at this;cases this
theorem AJ.at_k{α:Type}{enc:α→List Value}{n:Nat}{w:World}{a:Option Addr}{c:Nat}{xs:List α}(h:AJ enc n w a c xs){k:Nat}(hk:k<xs.length):
  ∃g off x,a=some ⟨g,off,none⟩∧g<w.heap.size∧xs[k]? = some x∧∀j u,(enc x)[j]? = some u→w.cell? ⟨g,off+k*n+j,none⟩=some u:=by
 obtain⟨g,off,ha,hg,hc⟩:=h.at_ bB;exact⟨g,off,xs[k],ha,hg,Au hk,fun j u hj=>hc k hk j u hj⟩
theorem UO(a:Option Addr)(c:Nat)(L:List Kp)(n:Nat)(hn:L.length=n)(hL:n≤1000000)(hs:∀o∈L,o.name.size≤maxLen)(fb:Nat)(ty:TypeId)(b:Bool)(hb:L.all SJ=b)(w:World)(h:Mo w a c L)(hf:Blk w fb ty TM):
  Calls Tryz.prog 87 #[dI a n c,dI (some ⟨fb,0,none⟩) 2 2] w fun e w'=>e = dM (dL b)∧Aa [] w w':=by
 have HH:=lH h;have HN:=lH hn;have HB:=lH hb;have HS:=lH hs;have HF:=lH hf;clear h hn hb hs hf;go_enter Tryz.func87,Tryz.ntmps87;go_wp2;go_loopw [11] (fun i wr=>∃k:Nat,i = dH dN k∧k≤n∧Hid ((L.take k).all SJ=true)∧Hid (Aa [] w wr)) (fun i _=>n - (intOf i).toNat)
 case atStart=>exact⟨0,rfl,Cy _,lH rfl,lH (Aa.refl _ _)⟩
 case round=>
  obtain⟨k,rfl,hk,HP,HK⟩:=hrel;by_cases hlt:k<n
  ·obtain⟨g,off,⟨nm,ro⟩,rfl,hg,hx,hat⟩:=HH.out.at_k (k:=k) bO
   have q0:=hat 0 (CZ nm) rfl;have q1:=hat 1 (dH dN ro) rfl;rw [CG] at q0;rw [← HK.out.cell (p:=⟨g,off+k*2,none⟩) hg bA] at q0;rw [← HK.out.cell (p:=⟨g,off+k*2+1,none⟩) hg bA] at q1;have i1:(0:Int)≤(k:Int):=by omega
   have i2:(k:Int)<(n:Int):=by omega
   have hsz:=HS.out ⟨nm,ro⟩ (Ex hx);obtain⟨b1,hb1⟩:=eX ((decide (nm≠⟨#[]⟩)&&Hz nm));obtain⟨b2,hb2⟩:=eX (decide (setsR ro≠0));have hp:SJ ⟨nm,ro⟩=(b1&&b2):=by rw [← hb1,← hb2];rfl
   have HX:=lH hx;have HPX:=lH hp;have H1:=lH hb1;have H2:=lH hb2;have hk0:=HK.out.alloc (.cells #[CZ nm,dH dN ro] 40);have hbx:=Blk.new wr 40 #[CZ nm,dH dN ro];have hfk:=HF.out.keeps hk0 bA;have HK0:=lH hk0;have HBX:=lH hbx;have HFK:=lH hfk;clear hat hg hx hp hb1 hb2 hk0 hbx hfk;go_wp2;refine wp_loop_rounds 3 ?_;rw [rounds_succ];have s0:=HFK.out.cell 0;have s1:=HFK.out.cell 1;have d0:=HBX.out.cell 0;have d1:=HBX.out.cell 1;simp only [TM,Ai,Ah,Al] at s0 s1 d0 d1;go_wp2_with (fail);refine(O8 ⟨nm,ro⟩ hsz b1 H1.out _).mono ?_;rintro e w1 ⟨rfl,hk1⟩;clear s0 s1 d0 d1 q0 q1;have HFK:=lH (HFK.out.keeps hk1 bA);have HBX:=lH (HBX.out.keeps hk1 bA);have HK1:=lH (HK0.out.trans hk1);clear hk1;cases b1 with
   | false=>
    obtain rfl:b=false:=by rw [← HB.out];exact Gr HX.out YD
    go_wp2;go_ret;exact⟨rfl,HK1.out⟩
   | true=>
    go_wp2_with (fail);rw [rounds_succ];have s0:=HFK.out.cell 0;have s1:=HFK.out.cell 1;have d0:=HBX.out.cell 0;have d1:=HBX.out.cell 1;simp only [TM,Ai,Ah,Al] at s0 s1 d0 d1;go_wp2_with (fail);refine(O9 ⟨nm,ro⟩ b2 H2.out _).mono ?_;rintro e w2 ⟨rfl,hk2⟩;clear s0 s1 d0 d1;have HK2:=lH (HK1.out.trans hk2);clear hk2;cases b2 with
    | false=>
     obtain rfl:b=false:=by rw [← HB.out];exact Gr HX.out YD
     go_wp2;go_ret;exact⟨rfl,HK2.out⟩
    | true=>
     have HP2:Hid ((L.take (k+1)).all SJ=true):=lH (by rw [II HX.out,HP.out,HPX.out];rfl);go_wp2_with (fail);rw [rounds_succ];go_wp2;go_roundw;case rel=>exact⟨k+1,by go_num,by omega,HP2,HK2⟩
     case measure=>simp [intOf];omega
  ·obtain rfl:k=n:=by omega
   obtain rfl:b=true:=by rw [← HB.out,← HP.out,Ax bL]
   go_wp2;go_ret;exact⟨rfl,HK.out⟩
def Kk(v:Int×List UInt8×Nat):List Value:=[dH dN v.1,CZ ⟨v.2.1.toArray⟩,dH dN (v.2.2:Nat)]
def Ev:List Value:=Bb.flatMap Kk
def D5(w:World):Prop:=∀j u,Ev[j]? = some u→w.cell? ⟨1,j,none⟩=some u
theorem D5.keeps{S:List Nat}{w w':World}(h:D5 w)(hk:Aa S w w')(hn:1∉S):D5 w':=fun j u hj=>(hk.cell (p:=⟨1,j,none⟩) (A4 w _ (h j u hj)) hn).trans (h j u hj)
theorem Q2{w:World}(h:D5 w):(loadVar 280 ⟨1,0,none⟩).run Tryz.prog w = .ok (.agg Ev.toArray) w:=by
 have hc:=run_loadCells_list (P:=Tryz.prog) (w:=w) ⟨1,0,none⟩ Ev (fun j v hj=>by rw [Bn,BI];exact h j v hj);have hg:(isAgg 280).run Tryz.prog w = .ok true w:=by kernel_rfl
 simp only [loadVar,Sem.run_bind,hg,Result.andThen_ok];have h30:Ev.length=30:=by decide
 rw [h30] at hc;simp [hc,AI]
theorem Ja{w:World}(h:D5 w):(Instr.loadAt 280 (dJ (some ⟨1,0,none⟩))).run Tryz.prog w = .ok (.agg Ev.toArray) w:=by
 have:=Q2 h;simp [Instr.loadAt,Instr.sureAddr,this]
theorem FM{F:Fence}{nF:Nat}{P:Program}(w:World){ops:Array Oper}{rest:List Oper}{o:Oper}{a:Act}{Q:Exit→Act→World→Prop}(hgd:o.guard=none)(x:Operand)(t:TypeId)
 (ho:o.op = .load t x){u v:Value}(hx:a.eval x=u)(hr:(Instr.loadAt t u).run P w = .ok v w)(h:wpListIn F nF P ops Q rest (a.put o.dst v) w):wpListIn F nF P ops Q (o::rest) a w:=by
 refine wpListIn_plain hgd fun K hK=>?_;unfold Oper.wpIn;refine⟨by simp [Oper.about,ho],?_⟩;rw [Oper.semAt_plain F _ _ Zw];simp [execOp,ho,hx,hr,AI];exact hK _ _ h
def JW(v:Int×List UInt8×Nat):Array Value:=#[.agg (Kk v).toArray]
theorem JS(k:Nat)(hk:k<10)(v:Int×List UInt8×Nat)(hv:Bb[k]? = some v)(w:World):(Instr.index 280 (.agg Ev.toArray) (dH dN (k:Int))).run Tryz.prog w = .ok (.agg (Kk v).toArray) w:=by
 have h:k=0∨k=1∨k=2∨k=3∨k=4∨k=5∨k=6∨k=7∨k=8∨k=9:=by omega
 rcases h with rfl | rfl | rfl | rfl | rfl | rfl | rfl | rfl | rfl | rfl<;>(simp only [Bb,Ah,Al,Option.some.injEq] at hv;subst hv;show _=_;kernel_rfl)
theorem WV(l:List UInt8)(s:ByteArray):((⟨l.toArray⟩:ByteArray).toList==s.toList)=(l==s.data.toList):=by
 rw [DS,DS]
theorem Ts(n:Int)(l:List UInt8)(st:Int)(s:ByteArray)(wb:Nat)(b:Bool)(hb:(l==s.data.toList)=b)(w:World)(hc:w.cell? ⟨wb,0,none⟩=some (CZ s)):
  Calls Tryz.prog 110 #[dK #[dH dN n,CZ ⟨l.toArray⟩,dH dN st],dJ (some ⟨wb,0,none⟩)] w fun e w'=>e = dM (dL b)∧Aa [] w w':=by
 have HK:=lH ((Aa.refl [] w).alloc (.cells #[dH dN n,CZ ⟨l.toArray⟩,dH dN st] 218));have hc2:=HK.out.cellsV _ _ hc;have he:=WV l s;rw [hb] at he;obtain⟨t,ht⟩:∃t:ByteArray,(⟨l.toArray⟩:ByteArray)=t:=⟨_,rfl⟩;rw [ht] at he HK hc2 ⊢;clear ht hb;go_enter Tryz.func110,Tryz.ntmps110;go_wp2;go_ret;exact⟨rfl,HK.out⟩
theorem Vq(role n:Int)(l:List UInt8)(st:Nat)(b:Bool)(hb:(setsR role &&& st != 0)=b)(hst:st=1∨st=2∨st=4)(w:World):
  Calls Tryz.prog 137 #[dH dN role,dK #[dH dN n,CZ ⟨l.toArray⟩,dH dN (st:Nat)]] w fun e w'=>e = dM (dL b)∧Aa [] w w':=by
 obtain⟨r,hr⟩:=eX (setsR role);have hrc:r=7∨r=3∨r=1∨r=0:=by
  rw [← hr];unfold setsR
  repeat' split
  all_goals simp
 have hs:=fun W=>Pu role W;rw [hr] at hb hs;have HS:=lH hs;have HK:=lH ((Aa.refl [] w).alloc (.cells #[dH dN n,CZ ⟨l.toArray⟩,dH dN (st:Nat)] 218));have HB:=lH hb;obtain⟨t,ht⟩:∃t:ByteArray,(⟨l.toArray⟩:ByteArray)=t:=⟨_,rfl⟩;rw [ht] at HK ⊢;have c2:(w.alloc (.cells #[dH dN n,CZ t,dH dN (st:Nat)] 218)).cell? ⟨w,2,none⟩=some (dH dN (st:Nat)):=(Blk.new w 218 #[dH dN n,CZ t,dH dN (st:Nat)]).cell 2;clear ht hb hs hr;go_enter Tryz.func137,Tryz.ntmps137;go_wp2
 go_region_held3 (fun w'=>w'.cell? ⟨w,2,none⟩=some (dH dN (st:Nat))) (first | exact c2) (first | (go_at_call 149;refine(HS.out _).mono ?_;rintro e w1 ⟨rfl,rfl⟩))
 all_goals go_wp2
 all_goals go_ret
 refine⟨Hl ?_,HK.out.drew⟩;rw [← HB.out];rcases hrc with rfl | rfl | rfl | rfl<;>rcases hst with rfl | rfl | rfl<;>rfl
theorem VP:∀x∈Bb,x.2.2=1∨x.2.2=2∨x.2.2=4:=by decide
theorem QT(n l tb:Nat)(wb:Nat)(s:ByteArray)(J Jx:List (Int×List UInt8×Nat)→World→Prop)(W:World)(hJ:Nf [] J)(hV:∀z A,J z A→D5 A∧A.cell? ⟨tb,0,none⟩=some (.func (.func 110) #[] #[dJ (some ⟨wb,0,none⟩)])∧A.cell? ⟨wb,0,none⟩=some (CZ s))
 (hY:∀pre x W1,J pre W1→pre++[x] <+: Bb.filter (fun v=>v.2.1==s.data.toList)→YieldAt Ba (n - 1) Tryz.prog l (JW x) W1 fun e W'=>
   (e = dM (dL true)∧J (pre++[x]) W')∨(e = dM (dL false)∧Jx (pre++[x]) W'))
 (h0:J [] W):
  CallsIn Ba n Tryz.prog 170 #[.func (.yield l) #[] #[],dJ (some ⟨tb,0,none⟩)] W fun e W'=>(∃v,e = dM v)∧
   (J (Bb.filter (fun v=>v.2.1==s.data.toList)) W'∨(∃pre,pre <+: Bb.filter (fun v=>v.2.1==s.data.toList)∧Jx pre W')):=by
 have HJ:=lH hJ;have HV:=lH hV;have HY:=lH hY;have HJ0:=lH h0;clear hJ hV hY h0;have hn1:Fence.wide.depth.isSome=true→1≤n:=by intro h;cases h
 refine callsIn_of_wp Tryz.func170 rfl trivial ?_ rfl;simp only [Tryz.ntmps170,Cx,Ao,Eh,Nat.reduceAdd,Nat.reduceSub,Bc,Bd,By,B0,AX,A6];gi_wp2;refine Br (wpIn_seq (wpIn_label ?_));obtain⟨VC,hVC⟩:=eX (Ev.toArray);have HVC:=lH hVC
 gi_step
 gi_step
 gi_step
 refine FM _ rfl _ 280 rfl rfl (Ja (HV.out _ _ HJ0.out).1) ?_;rw [hVC];clear hVC;gi_wp2
 gi_loopw [6] (fun i wr=>∃k:Nat,i = dH dN k∧k≤10∧Hid (J ((Bb.take k).filter (fun v=>v.2.1==s.data.toList)) wr)) (fun i _=>10 - (intOf i).toNat)
 case atStart=>exact⟨0,rfl,Cy _,HJ0⟩
 case round=>
  obtain⟨k,rfl,hk,HJs⟩:=hrel;by_cases hlt:k<10
  ·have i1:(0:Int)≤(k:Int):=by omega
   have i2:(k:Int)<10:=by omega
   obtain⟨⟨vn,vw,vs⟩,hx⟩:∃x,Bb[k]? = some x:=⟨_,Au (by simpa [Bb] using hlt)⟩;have hidx:=fun W'=>JS k hlt (vn,vw,vs) hx W';rw [HVC.out] at hidx;simp only [Kk] at hidx;have hk0:=(Aa.refl [] wr).alloc (.cells #[dH dN vn,CZ ⟨vw.toArray⟩,dH dN (vs:Nat)] 218);have hb:=Blk.new wr 218 #[dH dN vn,CZ ⟨vw.toArray⟩,dH dN (vs:Nat)];have d0:=hb.ce 0;have d1:=hb.ce 1;have d2:=hb.ce 2;have hj1:=HJ.out _ _ _ HJs.out hk0;obtain⟨hv1,hv2,hv3⟩:=HV.out _ _ hj1;obtain⟨b,hpb⟩:=eX ((fun v=>v.2.1==s.data.toList) (vn,vw,vs));have HJ1:=lH hj1;have HPB:=lH hpb;have HX:=lH hx;have HB:=lH hb;clear hk0 hb hj1 hpb hx;gi_wp2_with (fail);refine⟨trivial,hn1,?_⟩;refine(callsIn_wide.2 (Ts vn vw (vs:Nat) s wb b HPB.out _ (by have:=(HV.out _ _ HJ1.out).2.2;exact this))).mono ?_;rintro e w1 ⟨rfl,hk1⟩;have hj2:=HJ.out _ _ _ HJ1.out hk1;have HB1:=lH (HB.out.keeps hk1 bA);have HJ2:=lH hj2;clear hj2 hk1 d0 d1 d2 hv1 hv2 hv3 hidx;cases b with
   | false=>
    have hz:(Bb.take (k+1)).filter (fun v=>v.2.1==s.data.toList)=(Bb.take k).filter (fun v=>v.2.1==s.data.toList):=by rw [AB HX.out,DK,List.filter_cons,HPB.out];simp
    have HJ3:Hid (J ((Bb.take (k+1)).filter (fun v=>v.2.1==s.data.toList)) w1):=lH (by rw [hz];exact HJ2.out);clear hz;gi_wp2;refine⟨(fun f hf=>by cases hf),?_⟩;gi_wp2;go_roundw;case rel=>exact⟨k+1,by go_num,by omega,HJ3⟩
    case measure=>simp [intOf];omega
   | true=>
    have hz:(Bb.take (k+1)).filter (fun v=>v.2.1==s.data.toList)=(Bb.take k).filter (fun v=>v.2.1==s.data.toList)++[(vn,vw,vs)]:=by rw [AB HX.out,DK,List.filter_cons,HPB.out];simp
    have hpre:(Bb.take k).filter (fun v=>v.2.1==s.data.toList)++[(vn,vw,vs)] <+: Bb.filter (fun v=>v.2.1==s.data.toList):=by rw [← hz];exact(List.take_prefix _ _).filter _
    have hy0:=Cv (HY.out _ _ _ HJ2.out hpre);rw [← hz] at hy0;obtain⟨fn,tmps,assign,body,hy,hR⟩:=hy0;simp only [JW,Kk] at hy;have d0:=HB1.out.ce 0;have d1:=HB1.out.ce 1;have d2:=HB1.out.ce 2;have HPRE:Hid ((Bb.take (k+1)).filter (fun v=>v.2.1==s.data.toList) <+: Bb.filter (fun v=>v.2.1==s.data.toList)):=lH (by rw [hz];exact hpre);clear hz hpre;gi_wp2;refine⟨hn1,?_⟩;refine hR.mono ?_;rintro e W3 ⟨g,rfl,hT,hF⟩;clear hR hy d0 d1 d2;cases g with
    | false=>
     have hJx:=lH (hF.out rfl);clear hT hF;gi_wp2;try rw [AH]
     go_end0
     exact⟨⟨_,rfl⟩,.inr ⟨_,HPRE.out,hJx.out⟩⟩
    | true=>
     have HJ3:=lH (hT.out rfl);clear hT hF;gi_wp2;go_roundw;case rel=>exact⟨k+1,by go_num,by omega,HJ3⟩
     case measure=>simp [intOf];omega
  ·obtain rfl:k=10:=by omega
   gi_wp2;try rw [AH]
   go_end0
   exact⟨⟨_,rfl⟩,.inl HJs.out⟩
theorem Tn(n tb:Nat)(wb:Nat)(s:ByteArray):
  NQ Ba n Tryz.prog 170 #[dJ (some ⟨tb,0,none⟩)] JW (Bb.filter (fun v=>v.2.1==s.data.toList)) (fun A=>D5 A∧A.cell? ⟨tb,0,none⟩=some (.func (.func 110) #[] #[dJ (some ⟨wb,0,none⟩)])∧A.cell? ⟨wb,0,none⟩=some (CZ s)):=fun l J Jx W hJ _ hV hY h0=>
 QT n l tb wb s J Jx W hJ hV hY h0
theorem Tm(n l tb:Nat)(role:Int)(J Jx:List (Int×List UInt8×Nat)→World→Prop)(W:World)(hJ:Nf [] J)(hV:∀z A,J z A→D5 A∧A.cell? ⟨tb,0,none⟩=some (.func (.func 137) #[dH dN role] #[]))
 (hY:∀pre x W1,J pre W1→pre++[x] <+: Bb.filter (fun v=>setsR role &&& v.2.2 != 0)→YieldAt Ba (n - 1) Tryz.prog l (JW x) W1 fun e W'=>
   (e = dM (dL true)∧J (pre++[x]) W')∨(e = dM (dL false)∧Jx (pre++[x]) W'))
 (h0:J [] W):
  CallsIn Ba n Tryz.prog 170 #[.func (.yield l) #[] #[],dJ (some ⟨tb,0,none⟩)] W fun e W'=>(∃v,e = dM v)∧
   (J (Bb.filter (fun v=>setsR role &&& v.2.2 != 0)) W'∨(∃pre,pre <+: Bb.filter (fun v=>setsR role &&& v.2.2 != 0)∧Jx pre W')):=by
 have HJ:=lH hJ;have HV:=lH hV;have HY:=lH hY;have HJ0:=lH h0;clear hJ hV hY h0;have hn1:Fence.wide.depth.isSome=true→1≤n:=by intro h;cases h
 refine callsIn_of_wp Tryz.func170 rfl trivial ?_ rfl;simp only [Tryz.ntmps170,Cx,Ao,Eh,Nat.reduceAdd,Nat.reduceSub,Bc,Bd,By,B0,AX,A6];gi_wp2;refine Br (wpIn_seq (wpIn_label ?_));obtain⟨VC,hVC⟩:=eX (Ev.toArray);have HVC:=lH hVC
 gi_step
 gi_step
 gi_step
 refine FM _ rfl _ 280 rfl rfl (Ja (HV.out _ _ HJ0.out).1) ?_;rw [hVC];clear hVC;gi_wp2
 gi_loopw [6] (fun i wr=>∃k:Nat,i = dH dN k∧k≤10∧Hid (J ((Bb.take k).filter (fun v=>setsR role &&& v.2.2 != 0)) wr)) (fun i _=>10 - (intOf i).toNat)
 case atStart=>exact⟨0,rfl,Cy _,HJ0⟩
 case round=>
  obtain⟨k,rfl,hk,HJs⟩:=hrel;by_cases hlt:k<10
  ·have i1:(0:Int)≤(k:Int):=by omega
   have i2:(k:Int)<10:=by omega
   obtain⟨⟨vn,vw,vs⟩,hx⟩:∃x,Bb[k]? = some x:=⟨_,Au (by simpa [Bb] using hlt)⟩;have hidx:=fun W'=>JS k hlt (vn,vw,vs) hx W';rw [HVC.out] at hidx;simp only [Kk] at hidx;have hk0:=(Aa.refl [] wr).alloc (.cells #[dH dN vn,CZ ⟨vw.toArray⟩,dH dN (vs:Nat)] 218);have hb:=Blk.new wr 218 #[dH dN vn,CZ ⟨vw.toArray⟩,dH dN (vs:Nat)];have d0:=hb.ce 0;have d1:=hb.ce 1;have d2:=hb.ce 2;have hj1:=HJ.out _ _ _ HJs.out hk0;obtain⟨hv1,hv2⟩:=HV.out _ _ hj1;obtain⟨b,hpb⟩:=eX ((fun v=>setsR role &&& v.2.2 != 0) (vn,vw,vs));have HJ1:=lH hj1;have HPB:=lH hpb;have HX:=lH hx;have HB:=lH hb;clear hk0 hb hj1 hpb hx;gi_wp2_with (fail);refine⟨trivial,hn1,?_⟩;refine(callsIn_wide.2 (Vq role vn vw vs b HPB.out (VP _ (Ex HX.out)) _)).mono ?_;rintro e w1 ⟨rfl,hk1⟩;have hj2:=HJ.out _ _ _ HJ1.out hk1;have HB1:=lH (HB.out.keeps hk1 bA);have HJ2:=lH hj2;clear hj2 hk1 d0 d1 d2 hv1 hv2 hidx;cases b with
   | false=>
    have hz:(Bb.take (k+1)).filter (fun v=>setsR role &&& v.2.2 != 0)=(Bb.take k).filter (fun v=>setsR role &&& v.2.2 != 0):=by rw [AB HX.out,DK,List.filter_cons,HPB.out];simp
    have HJ3:Hid (J ((Bb.take (k+1)).filter (fun v=>setsR role &&& v.2.2 != 0)) w1):=lH (by rw [hz];exact HJ2.out);clear hz;gi_wp2;refine⟨(fun f hf=>by cases hf),?_⟩;gi_wp2;go_roundw;case rel=>exact⟨k+1,by go_num,by omega,HJ3⟩
    case measure=>simp [intOf];omega
   | true=>
    have hz:(Bb.take (k+1)).filter (fun v=>setsR role &&& v.2.2 != 0)=(Bb.take k).filter (fun v=>setsR role &&& v.2.2 != 0)++[(vn,vw,vs)]:=by rw [AB HX.out,DK,List.filter_cons,HPB.out];simp
    have hpre:(Bb.take k).filter (fun v=>setsR role &&& v.2.2 != 0)++[(vn,vw,vs)] <+: Bb.filter (fun v=>setsR role &&& v.2.2 != 0):=by rw [← hz];exact(List.take_prefix _ _).filter _
    have hy0:=Cv (HY.out _ _ _ HJ2.out hpre);rw [← hz] at hy0;obtain⟨fn,tmps,assign,body,hy,hR⟩:=hy0;simp only [JW,Kk] at hy;have d0:=HB1.out.ce 0;have d1:=HB1.out.ce 1;have d2:=HB1.out.ce 2;have HPRE:Hid ((Bb.take (k+1)).filter (fun v=>setsR role &&& v.2.2 != 0) <+: Bb.filter (fun v=>setsR role &&& v.2.2 != 0)):=lH (by rw [hz];exact hpre);clear hz hpre;gi_wp2;refine⟨hn1,?_⟩;refine hR.mono ?_;rintro e W3 ⟨g,rfl,hT,hF⟩;clear hR hy d0 d1 d2;cases g with
    | false=>
     have hJx:=lH (hF.out rfl);clear hT hF;gi_wp2;try rw [AH]
     go_end0
     exact⟨⟨_,rfl⟩,.inr ⟨_,HPRE.out,hJx.out⟩⟩
    | true=>
     have HJ3:=lH (hT.out rfl);clear hT hF;gi_wp2;go_roundw;case rel=>exact⟨k+1,by go_num,by omega,HJ3⟩
     case measure=>simp [intOf];omega
  ·obtain rfl:k=10:=by omega
   gi_wp2;try rw [AH]
   go_end0
   exact⟨⟨_,rfl⟩,.inl HJs.out⟩
theorem VF(n tb:Nat)(role:Int):
  NQ Ba n Tryz.prog 170 #[dJ (some ⟨tb,0,none⟩)] JW (Bb.filter (fun v=>setsR role &&& v.2.2 != 0)) (fun A=>D5 A∧A.cell? ⟨tb,0,none⟩=some (.func (.func 137) #[dH dN role] #[])):=fun l J Jx W hJ _ hV hY h0=>
 Tm n l tb role J Jx W hJ hV hY h0
def Ij:List (UInt8×Bool)→Bw→Except Int Bw
 | [],r=>.ok r
 | x::l,r=>(r.step x.1 x.2).bind (Ij l)
theorem L6(a b:List (UInt8×Bool))(r:Bw):Ij (a++b) r=(Ij a r).bind (Ij b):=by
 induction a generalizing r with
 | nil=>rfl
 | cons x l ih=>
  simp only [A6,Ij];cases r.step x.1 x.2 with
  | error e=>rfl
  | ok y=>exact ih y
theorem SZ{l:List (UInt8×Bool)}{x:UInt8×Bool}{r r1:Bw}(h:Ij l r = .ok r1):Ij (l++[x]) r=r1.step x.1 x.2:=by
 rw [L6,h];show(r1.step x.1 x.2).bind _=_;cases r1.step x.1 x.2<;>rfl
theorem Vu{l m:List (UInt8×Bool)}{r:Bw}{k:Int}(h:Ij l r = .error k)(hp:l <+: m):Ij m r = .error k:=by
 obtain⟨t,rfl⟩:=hp;rw [L6,h];rfl
theorem L7:∀(l:List UInt8) (r:Bw),Ij (l.map fun b=>(b,false)) r=Da l r
 | [],_=>rfl
 | b::l,r=>by
  simp only [Cn,Ij,Da];cases r.step b false with
  | error e=>rfl
  | ok y=>exact L7 l y
theorem Te{s:ByteArray}(h1:¬300<s.data.toList.length)(h2:s.data.toList.all Cs=true):BG s.data.toList=(Ij (Na s) .zero).bind fun r=>.ok r.done:=by
 unfold BG Na;rw [if_neg h1,if_neg (by rw [h2];decide),L6,L7];cases Da s.data.toList .zero with
 | error e=>rfl
 | ok r=>
  show(r.step 0 true).bind _=(Ij [((0:UInt8),true)] r).bind _;unfold Ij;cases r.step 0 true<;>rfl
theorem WT{R R':Bw}{b:UInt8}{e:Bool}(h:RF R)(he:R.step b e = .ok R'):RF R':=by
 have hadd:∀ {st:WS} {R':Bw},R.add st b = .ok R'→R.done.length<12→RF R':=fun {st R'} h1 hd=>by
  unfold Bw.add at h1;split at h1
  ·cases h1
  ·cases h1
   exact⟨h.done,by simp;omega,fun _ _=>hd⟩
 have hshut:∀st,st=WS.bet∨st=WS.shut→R.done.length<12→RF (R.shutW st):=fun st hst hd=>⟨by simp [Bw.shutW];omega,by simp [Bw.shutW],fun h1 h2=>by
  rcases hst with rfl | rfl
  ·exact absurd rfl h1
  ·exact absurd rfl h2⟩
 have hbare:∀ {e:Bool} {R':Bw},R.bareS b e = .ok R'→R.done.length<12→RF R':=fun {e R'} h1 hd=>by
  unfold Bw.bareS at h1;split at h1
  ·cases h1;exact hshut _ (.inl rfl) hd
  ·split at h1
   ·cases h1
   ·split at h1
    ·cases h1
    ·exact hadd h1 hd
 unfold Bw.step at he;cases hs:R.st with
 | bet=>
  rw [hs] at he;dsimp only at he;split at he
  ·cases he;exact h
  ·split at he
   ·cases he
   ·rename_i h12
    have hd:R.done.length<12:=by have:=h.done;omega
    split at he
    ·cases he
     exact⟨h.done,h.word,fun _ _=>hd⟩
    ·exact hbare he hd
 | bare=>
  rw [hs] at he;exact hbare he (h.room bV bV)
 | quo=>
  rw [hs] at he;have hd:=h.room bV bV;dsimp only at he;split at he
  ·cases he
  ·split at he
   ·cases he;exact hshut _ (.inr rfl) hd
   ·split at he
    ·cases he
     exact⟨h.done,h.word,fun _ _=>hd⟩
    ·exact hadd he hd
 | shut=>
  rw [hs] at he;dsimp only at he;split at he
  ·cases he
  ·cases he
   exact⟨h.done,h.word,fun e=>absurd rfl e⟩
 | esc=>
  rw [hs] at he;have hd:=h.room bV bV;dsimp only at he;split at he
  ·cases he
  ·exact hadd he hd
theorem WD:RF .zero:=⟨by decide,by decide,fun h=>absurd rfl h⟩
theorem O2:∀(l:List (List UInt8)),(l.map fun s=>CZ (CB s))=(l.map CB).flatMap EZ
 | []=>rfl
 | x::l=>by rw [Cn,Cn,List.flatMap_cons,← O2 l];rfl
def J1(s:ByteArray)(w:World)(x:Ending)(w':World):Prop:=match BG s.data.toList with
 | .error k=>x = dM (.tuple #[dI none 0 0,Fb (some k)])∧Aa [] w w'
 | .ok l=>∃a c,x = dM (.tuple #[dI a l.length c,.nilIface])∧IF w' a c (l.map CB)∧Aa [] w w'
structure Xo(w:World)(r base:Nat)(dv wv:Value)(R:Bw):Prop where
 blk:Blk w r 197 #[dv,wv]
 d:w.ownsRow base 9 1 dv R.done.length (R.done.map fun s=>CZ (CB s))
 wd:w.ownsRow base 5 1 wv R.word.length (R.word.map fun b=>.int .u8 (b.toNat:Int))
 lt:r<base
 ne:∀g,dv.ownBlock=some g→wv.ownBlock≠some g
 hd:R.done.length≤12
 hw:R.word.length≤65
theorem DT.toB{w:World}{r base:Nat}{dv wv:Value}{R:Bw}(h:DT w r base dv wv R):Xo w r base dv wv R:=⟨h.blk,h.d,h.wd,h.lt,h.ne,h.hd,h.hw⟩
theorem Xo.toA{w:World}{r base:Nat}{dv wv:Value}{R:Bw}(h:Xo w r base dv wv R)(hl:base≤w.heap.size):DT w r base dv wv R:=⟨h.blk,h.d,h.wd,h.lt,hl,h.ne,h.hd,h.hw⟩
theorem Xo.keeps{w w':World}{S:List Nat}{r base:Nat}{dv wv:Value}{R:Bw}(h:Xo w r base dv wv R)(hk:Aa S w w')(hr:r∉S)(hS:∀y∈S,y<base):Xo w' r base dv wv R:=
 ⟨h.blk.keeps hk hr,Ak h.d hk (fun g hg hm=>by have:=(h.d.lt g hg).1;have:=hS g hm;omega),Ak h.wd hk (fun g hg hm=>by have:=(h.wd.lt g hg).1;have:=hS g hm;omega),h.lt,h.ne,h.hd,h.hw⟩
theorem DT.S_ge{w:World}{r base:Nat}{dv wv:Value}{R:Bw}(h:DT w r base dv wv R):∀y∈DT.S r dv wv,y=r∨base≤y:=fun y hy=>by
 simp only [DT.S,Ac,AF,Option.mem_toList] at hy;rcases hy with rfl | hy | hy
 ·exact .inl rfl
 ·exact .inr (h.d.lt y hy).1
 ·exact .inr (h.wd.lt y hy).1
theorem Ya.keeps{w w':World}{S:List Nat}{r sb base:Nat}{st:WS}(h:Ya w r sb base st)(hk:Aa S w w')(hS:∀y∈S,y<base):Ya w' r sb base st:=by
 cases st with
 | bet=>trivial
 | bare=>trivial
 | quo=>trivial
 | shut=>exact⟨h.1.keeps hk (fun hm=>by have:=hS _ hm;have:=h.2;omega),h.2⟩
 | esc=>exact⟨h.1.keeps hk (fun hm=>by have:=hS _ hm;have:=h.2;omega),h.2⟩
structure Xq(s:ByteArray)(w:World)(pb:Nat)(pre:List (UInt8×Bool))(A:World):Prop where
 run:∃R dv wv sb,Ij pre .zero = .ok R∧RF R∧Xo A (w.heap.size+1+1) (pb+3) dv wv R∧Ya A (w.heap.size+1+1) sb (pb+3) R.st∧Blk A (w.heap.size+1+1+1) 199 #[WL (w.heap.size+1+1) sb R.st]
 c2:Blk A w.heap.size 41 #[dI none 0 0]
 c3:Blk A (w.heap.size+1) 128 #[.nilIface]
 pb:Blk A pb 9 #[CZ s]
 kw:Aa [] w A
structure XZ(s:ByteArray)(w:World)(A:World):Prop where
 run:∃k,BG s.data.toList = .error k∧Blk A (w.heap.size+1) 128 #[Fb (some k)]
 c2:Blk A w.heap.size 41 #[dI none 0 0]
 kw:Aa [] w A
theorem Xq.keeps{s:ByteArray}{w:World}{pb:Nat}{pre:List (UInt8×Bool)}{A A':World}(h:Xq s w pb pre A)(hp:w.heap.size+4≤pb)(hk:Aa [pb+1,pb+1+1] A A'):Xq s w pb pre A':=by
 obtain⟨R,dv,wv,sb,h1,h2,h3,h4,h5⟩:=h.run;have hS:∀y∈[pb+1,pb+1+1],y<pb+3:=fun y hy=>by simp only [Ac,Ab,or_false] at hy;omega
 have hn:∀y,y<pb+1→y∉[pb+1,pb+1+1]:=fun y hy hm=>by simp only [Ac,Ab,or_false] at hm;omega
 exact⟨⟨R,dv,wv,sb,h1,h2,h3.keeps hk (hn _ bB) hS,h4.keeps hk hS,h5.keeps hk (hn _ bB)⟩,h.c2.keeps hk (hn _ bB),h.c3.keeps hk (hn _ bB),h.pb.keeps hk (hn _ bB),h.kw.own hk (fun g hg=>by simp only [Ac,Ab,or_false] at hg;omega)⟩
theorem XZ.keeps{s:ByteArray}{w:World}{pb:Nat}{A A':World}(h:XZ s w A)(hp:w.heap.size+4≤pb)(hk:Aa [pb+1,pb+1+1] A A'):XZ s w A':=by
 obtain⟨k,h1,h2⟩:=h.run;have hn:∀y,y<pb+1→y∉[pb+1,pb+1+1]:=fun y hy hm=>by simp only [Ac,Ab,or_false] at hm;omega
 exact⟨⟨k,h1,h2.keeps hk (hn _ bB)⟩,h.c2.keeps hk (hn _ bB),h.kw.own hk (fun g hg=>by simp only [Ac,Ab,or_false] at hg;omega)⟩
theorem Td(s:ByteArray)(hs:s.size≤1000000)(w:World):Calls Tryz.prog 48 #[CZ s] w (J1 s w):=by
 refine(callsIn_wide (n:=9)).1 ?_;obtain⟨b1,hb1⟩:=eX (decide ((300:Int)<(s.size:Int)));obtain⟨b2,hb2⟩:=eX (FQ s);have HB1:=lH hb1;have HB2:=lH hb2;clear hb2;obtain⟨RR,hRR⟩:=eX (Cc [(b1,10),(!b2,11)]);have HRR:=lH hRR;clear hRR;refine callsIn_of_wp_marks Tryz.func48 rfl trivial ?_ rfl;simp only [Tryz.ntmps48,Cx,Ao,Eh,Nat.reduceAdd,Nat.reduceSub,Bc,Bd,By,B0,AX,A6];gi_wp2_with (fail);refine⟨trivial,(callsIn_wide.2 (Hb s b2 HB2.out _)).mono ?_⟩;rintro e w1 ⟨rfl,hk⟩;have HK1:=lH hk;clear hk;gi_wp2_with (fail);refine⟨trivial,(callsIn_wide.2 (Ch (some ⟨w1,0,none⟩) 2 [(b1,10),(!b2,11)] 2 rfl bB RR HRR.out _ (L5 w1 b1 (!b2) 10 11))).mono ?_⟩;rintro e w2 ⟨rfl,hk⟩;have hka:=HK1.out.trans (((Aa.refl [] w1).alloc _).trans hk);have c2:=(((Blk.new w 41 #[dI none 0 0]).alloc (.cells #[.nilIface] 128)).alloc (.cells #[dI none 0 0,dI none 0 0] 197)).alloc (.cells #[.func (.func 102) #[dJ (some ⟨w.heap.size+1+1,0,none⟩)] #[]] 199) |>.keeps hka bA
 have c3:=((Aq (w.alloc (.cells #[dI none 0 0] 41)) 128 #[.nilIface] (w.heap.size+1) bA).alloc (.cells #[dI none 0 0,dI none 0 0] 197)).alloc (.cells #[.func (.func 102) #[dJ (some ⟨w.heap.size+1+1,0,none⟩)] #[]] 199) |>.keeps hka bA
 have cr:=(Aq ((w.alloc (.cells #[dI none 0 0] 41)).alloc (.cells #[.nilIface] 128)) 197 #[dI none 0 0,dI none 0 0] (w.heap.size+1+1) bA).alloc (.cells #[.func (.func 102) #[dJ (some ⟨w.heap.size+1+1,0,none⟩)] #[]] 199) |>.keeps hka bA
 have cf:=(Aq (((w.alloc (.cells #[dI none 0 0] 41)).alloc (.cells #[.nilIface] 128)).alloc (.cells #[dI none 0 0,dI none 0 0] 197)) 199 #[.func (.func 102) #[dJ (some ⟨w.heap.size+1+1,0,none⟩)] #[]] (w.heap.size+1+1+1) bA).keeps hka bA;have hkw:Aa [] w w2:=((((Aa.refl [] w).alloc _).alloc _).alloc _).alloc _ |>.trans hka
 clear hk hka;cases RR with
 | some k=>
  have hsp:BG s.data.toList = .error k:=by
   have h1:=HRR.out;have hl:s.data.toList.length=s.size:=by rw [BL];rfl
   unfold BG;unfold Cc at h1;split at h1
   ·rename_i hc
    injection h1 with h1
    rw [if_pos (by rw [hl];have:b1=true:=hc;rw [← HB1.out] at this;have:=of_decide_eq_true this;omega),← h1]
   ·rename_i hc
    rw [if_neg (by rw [hl];have:¬b1=true:=hc;rw [← HB1.out,decide_eq_true_eq] at this;omega)];unfold Cc at h1;split at h1
    ·rename_i hc2
     injection h1 with h1
     rw [if_pos (by have:(!b2)=true:=hc2;rw [← HB2.out] at this;rw [Bool.not_eq_true'] at this;exact this),← h1]
    ·cases h1
  have q0:=c2.cell 0;have q1:=c3.cell 0;have f0:=c2.frozen 0;have f1:=c3.frozen 0;have HC2:=lH c2;have HC3:=lH c3;have HKW:=lH hkw;have HSP:=lH hsp;clear c2 c3 cr cf hkw hsp;simp only [Fb];gi_wp2;have hk2:Aa [w.heap.size,w.heap.size+1] w2 ((w2.setCell ⟨w,0,none⟩ (dI none 0 0)).setCell ⟨w.heap.size+1,0,none⟩ (.iface 208 (dK #[dH dN k]))):=((Aa.refl _ w2).setCell (p:=⟨w,0,none⟩) (.inl bA) _).setCell (p:=⟨w.heap.size+1,0,none⟩) (.inl bA) _;have d2:=((HC2.out.set_ 0 (dI none 0 0)).far (p:=⟨w.heap.size+1,0,none⟩) bA (.iface 208 (dK #[dH dN k]))).cell 0;have d3:=((HC3.out.far (p:=⟨w,0,none⟩) bA (dI none 0 0)).set_ 0 (.iface 208 (dK #[dH dN k]))).cell 0;simp at d2 d3;have hfin:J1 s w (dM (.tuple #[dI none 0 0,.iface 208 (dK #[dH dN k])])) ((w2.setCell ⟨w,0,none⟩ (dI none 0 0)).setCell ⟨w.heap.size+1,0,none⟩ (.iface 208 (dK #[dH dN k]))):=by
   unfold J1;rw [HSP.out];exact⟨rfl,HKW.out.own hk2 (fun g hg=>by simp only [Ac,Ab,or_false] at hg;omega)⟩
  exact⟨.tuple #[dI none 0 0,.iface 208 (dK #[dH dN k])],by simp [results,Tryz.results48,go_sem,d2,d3],hfin⟩
 | none=>
  have hb:b1=false∧b2=true:=by
   have h1:=HRR.out;unfold Cc at h1;split at h1
   ·cases h1
   ·rename_i hc
    unfold Cc at h1;split at h1
    ·cases h1
    ·rename_i hc2
     exact⟨by simpa using hc,by simpa using hc2⟩
  obtain⟨rfl,rfl⟩:=hb;have hl:s.data.toList.length=s.size:=by rw [BL];rfl
  have hrun:BG s.data.toList=(Ij (Na s) .zero).bind fun r=>.ok r.done:=Te (by rw [hl];have:=of_decide_eq_false HB1.out;omega) HB2.out;have HRUN:=lH hrun;have hp4:w.heap.size+4≤w2.heap.size:=by have:=cf.lt;omega
  have hI0:Xq s w w2.heap.size [] (w2.alloc (.cells #[CZ s] 9)):=by
   have ha:=(Aa.refl [] w2).alloc (.cells #[CZ s] 9);refine⟨⟨.zero,dI none 0 0,dI none 0 0,0,rfl,WD,⟨cr.keeps ha bA,Bz _ _ _ _,Bz _ _ _ _,by omega,(fun g hg=>by cases hg),by decide,by decide⟩,trivial,cf.keeps ha bA⟩,c2.keeps ha bA,c3.keeps ha bA,Blk.new w2 _ _,hkw.trans ha⟩
  have HI0:=lH hI0;clear c2 c3 cr cf hkw hl hrun hI0;simp only [Fb];gi_wp2_with (fail);refine⟨trivial,(callsIn_wide.2 (RY s _)).mono ?_⟩;rintro e w3 ⟨rfl,rfl⟩;gi_wp2_with (fail);have hsz3:(w2.alloc (.cells #[CZ s] 9)).heap.size=w2.heap.size+1:=World.size_alloc _ _;refine Bx rfl bB (gf:=162) (lb:=#[dJ (some ⟨w2,0,none⟩)]) rfl trivial (enters_of Tryz.func162 bC rfl) (RZ 8 w2.heap.size s hs) (fun _=>rfl)
   (fun pre A=>Xq s w w2.heap.size pre A) (fun _ A=>XZ s w A) (fun pre A A' h hk=>h.keeps hp4 (by rw [hsz3] at hk;exact hk)) (fun pre A A' h hk=>h.keeps hp4 (by rw [hsz3] at hk;exact hk)) (fun pre A h=>by simpa using h.pb.cell 0) HI0.out
   (fun x W=>({ tmps:=#[CZ s,undef,dJ (some ⟨w,0,none⟩),dJ (some ⟨w.heap.size+1,0,none⟩),dJ (some ⟨w.heap.size+1+1,0,none⟩),dJ (some ⟨w.heap.size+1+1+1,0,none⟩),.nilIface,.int .u8 (x.1.toNat:Int),dL x.2,undef,
     undef,dK #[dI none 0 0,dI none 0 0],dJ (some ⟨w.heap.size+1+1,0,none⟩),dJ (some ⟨w.heap.size+1+1,0,none⟩),.func (.func 102) #[dJ (some ⟨w.heap.size+1+1,0,none⟩)] #[],CZ s,dH dN s.size,dL false,dK #[dL false,dH dN 10],CZ s,dL true,dL false,dK #[dL false,dH dN 11],
     dI (some ⟨w1,0,none⟩) 2 2,.nilIface,.nilIface,dL false,undef,CZ s,.func (.func 162) #[] #[dJ (some ⟨w2,0,none⟩)],.int .u8 (x.1.toNat:Int),dL x.2,undef,undef,undef,undef,undef,undef,undef,undef,undef,undef,undef,undef,undef,undef,undef,undef],defers:=[] },W))
   (fun x W=>Aa.refl [] W) ?assign ?body ?done ?stop
  case assign=>
   intro l x W K hK;unfold OF;gi_wp2;exact hK
  case body=>
   rintro l pre ⟨b,e⟩ W W2 hI hpre hsz hk2;rw [hsz3] at hk2 hsz ⊢;have hI2:=hI.keeps hp4 hk2;obtain⟨R,dv,wv,sb,hr1,hr2,hr3,hr4,hr5⟩:=hI2.run;have hsz2:w2.heap.size+3≤W2.heap.size:=by have:=hk2.size;dsimp only at this;omega
   have hA:=hr3.toA hsz2;have hcall:=XX (w.heap.size+1+1) (w2.heap.size+3) sb dv wv R b e hr2 W2 hA hr4;have hsn:=SZ (x:=(b,e)) hr1;obtain⟨res,hres⟩:=eX (R.step b e);dsimp only at hsn;rw [hres] at hcall hsn;have q5:=hr5.ce 0;have hge:=hA.S_ge;have HCALL:=lH hcall;have HSN:=lH hsn;have HRF:=lH hr2;have HRES:=lH hres;have HII:=lH hI2;have HA:=lH hA;have HR5:=lH hr5;have HPRE:=lH hpre;have HGE:=lH hge;clear hI hpre hk2 hI2 hr1 hr2 hr3 hr4 hr5 hA hcall hsn hres hge;have hfin:∀(x:Ending) (w':World),GC (w.heap.size+1+1) (w2.heap.size+3) (DT.S (w.heap.size+1+1) dv wv) W2 res x w'→
     (∃k v,x = dM (.tuple #[v,.iface 208 (dK #[dH dN k])])∧Hid (w'.cell? ⟨w,0,none⟩=some (dI none 0 0)∧w'.cell? ⟨w.heap.size+1,0,none⟩=some .nilIface∧w'.frozen? ⟨w,0,none⟩=false∧w'.frozen? ⟨w.heap.size+1,0,none⟩=false)∧
      Hid (Hm (w2.heap.size+1) (fun pre A=>Xq s w w2.heap.size pre A) (fun _ A=>XZ s w A) (pre++[(b,e)]) W2 .ret { tmps:=#[],defers:=[] } ((w'.setCell ⟨w,0,none⟩ (dI none 0 0)).setCell ⟨w.heap.size+1,0,none⟩ (.iface 208 (dK #[dH dN k])))))∨
     (∃f bs ls,x = dM (.tuple #[.func f bs ls,.nilIface])∧Hid ((∃u,w'.cell? ⟨w.heap.size+1+1+1,0,none⟩=some u)∧w'.frozen? ⟨w.heap.size+1+1+1,0,none⟩=false)∧
      Hid (Hm (w2.heap.size+1) (fun pre A=>Xq s w w2.heap.size pre A) (fun _ A=>XZ s w A) (pre++[(b,e)]) W2 .normal { tmps:=#[],defers:=[] } (w'.setCell ⟨w.heap.size+1+1+1,0,none⟩ (.func f bs ls)))):=by
    intro x w' hx;have hnS:∀y,y<w2.heap.size+3→y≠w.heap.size+1+1→y∉DT.S (w.heap.size+1+1) dv wv:=fun y h1 h2 hm=>by
     rcases HGE.out y hm with h3 | h3
     ·exact h2 h3
     ·omega
    have hSw:∀y∈DT.S (w.heap.size+1+1) dv wv,w.heap.size≤y:=fun y hm=>by rcases HGE.out y hm with h3 | h3<;>omega
    cases res with
    | error k=>
     left;obtain⟨⟨v,rfl⟩,hk⟩:=hx;have g2:=HII.out.c2.keeps hk (hnS _ bB bB);have g3:=HII.out.c3.keeps hk (hnS _ bB bB);have hk3:Aa [w.heap.size,w.heap.size+1] w' ((w'.setCell ⟨w,0,none⟩ (dI none 0 0)).setCell ⟨w.heap.size+1,0,none⟩ (.iface 208 (dK #[dH dN k]))):=((Aa.refl _ w').setCell (p:=⟨w,0,none⟩) (.inl bA) _).setCell (p:=⟨w.heap.size+1,0,none⟩) (.inl bA) _;refine⟨k,v,rfl,⟨by simpa using g2.cell 0,by simpa using g3.cell 0,g2.frozen 0,g3.frozen 0⟩,?_⟩;refine⟨As hk.size hk3.size,fun y hy=>?_,⟨k,?_,?_⟩,?_,?_⟩
     ·simp only [Ac,Ab,or_false] at hy
      rw [hk3.block y (by have:=hk.size;omega) bI,hk.block y bB (hnS y bB bB)]
     ·rw [HRUN.out,Vu HSN.out HPRE.out];rfl
     ·have:=(g3.far (p:=⟨w,0,none⟩) bA (dI none 0 0)).set_ 0 (.iface 208 (dK #[dH dN k]));exact this
     ·have:=(g2.set_ 0 (dI none 0 0)).far (p:=⟨w.heap.size+1,0,none⟩) bA (.iface 208 (dK #[dH dN k]));exact this
     ·exact(HII.out.kw.own hk hSw).own hk3 (fun g hg=>by simp only [Ac,Ab,or_false] at hg;omega)
    | ok R'=>
     right;obtain⟨dv',wv',sb',rfl,h1,h2,hk⟩:=hx;have g2:=HII.out.c2.keeps hk (hnS _ bB bB);have g3:=HII.out.c3.keeps hk (hnS _ bB bB);have g4:=HR5.out.keeps hk (hnS _ bB bB);have g5:=HII.out.pb.keeps hk (hnS _ bB bB);have hk3:Aa [w.heap.size+1+1+1] w' (w'.setCell ⟨w.heap.size+1+1+1,0,none⟩ (WL (w.heap.size+1+1) sb' R'.st)):=(Aa.refl _ w').setCell (p:=⟨w.heap.size+1+1+1,0,none⟩) (.inl bA) _;have g4s:=g4.set_ 0 (WL (w.heap.size+1+1) sb' R'.st);obtain⟨f,bs,ls,hv⟩:∃f bs ls,WL (w.heap.size+1+1) sb' R'.st = .func f bs ls:=by cases R'.st<;>exact⟨_,_,_,rfl⟩
     refine⟨f,bs,ls,by rw [hv],⟨⟨_,by simpa using g4.cell 0⟩,g4.frozen 0⟩,?_⟩;rw [← hv];refine⟨As hk.size hk3.size,fun y hy=>?_,⟨R',dv',wv',sb',HSN.out,WT HRF.out HRES.out,?_,?_,?_⟩,?_,?_,?_,?_⟩
     ·simp only [Ac,Ab,or_false] at hy
      rw [hk3.block y (by have:=hk.size;omega) bI,hk.block y bB (hnS y bB bB)]
     ·exact h1.toB.keeps hk3 bA bF
     ·exact h2.keeps hk3 bF
     ·exact g4s
     ·exact g2.far bH _
     ·exact g3.far bH _
     ·exact g5.far bH _
     ·exact(HII.out.kw.own hk hSw).own hk3 (fun g hg=>by simp only [Ac,Ab,or_false] at hg;omega)
   have HFIN:=lH hfin;clear hfin;generalize hst:R.st=st at HCALL q5;clear hst;cases st;all_goals
    have hcall:=HCALL.out;simp only [dC,dB] at hcall;simp only [WL] at q5;replace HCALL:=lH hcall;clear hcall;gi_wp2_with (fail);refine⟨trivial,(callsIn_wide.2 HCALL.out).mono ?_⟩;intro x w' hx;rcases HFIN.out x w' hx with⟨k,v,rfl,hq,hF⟩ | ⟨f,bs,ls,rfl,hq,hF⟩
    ·obtain⟨d0,d1,d2,d3⟩:=hq.out
     have HF:=lH hF.out;clear hx hq hF;gi_wp2;exact HF.out
    ·obtain⟨⟨u,d0⟩,d1⟩:=hq.out
     have HF:=lH hF.out;clear hx hq hF;gi_wp2;exact HF.out
  case done=>
   rintro W hI hsz hK;rw [hsz3] at hsz hK ⊢;obtain⟨R,dv,wv,sb,h1,h2,h3,h4,h5⟩:=hI.run;have hsp:BG s.data.toList = .ok R.done:=by rw [HRUN.out,h1];rfl
   have q0:=h3.blk.cell 0;have q2:=hI.c2.cell 0;have q3:=hI.c3.cell 0;have f2:=hI.c2.frozen 0;have f3:=hI.c3.frozen 0;simp at q0 q2 q3;have hrow:=h3.d;rw [show(R.done.map fun s=>CZ (CB s))=(R.done.map CB).flatMap EZ from O2 _] at hrow;obtain⟨da,dc,hdv⟩:∃a c,dv = dI a R.done.length c:=by
    rcases h3.d.2 with⟨rfl,h0⟩ | ⟨g,c,cur,rfl,_⟩
    ·exact⟨none,0,by rw [h0]⟩
    ·exact⟨_,_,rfl⟩
   subst hdv;have HROW:=lH hrow;have HSP:=lH hsp;have HI:=lH hI;clear hI h1 h2 h3 h4 h5 hsp hrow;gi_wp2;obtain⟨WF,hWF⟩:=eX ((W.setCell ⟨w,0,none⟩ (dI da R.done.length dc)).setCell ⟨w.heap.size+1,0,none⟩ .nilIface);have hk3:Aa [w.heap.size,w.heap.size+1] W WF:=by rw [← hWF];exact((Aa.refl _ W).setCell (p:=⟨w,0,none⟩) (.inl bA) _).setCell (p:=⟨w.heap.size+1,0,none⟩) (.inl bA) _
   have d2:Blk WF w.heap.size 41 #[dI da R.done.length dc]:=by rw [← hWF];exact(HI.out.c2.set_ 0 _).far bA _
   have d3:Blk WF (w.heap.size+1) 128 #[.nilIface]:=by rw [← hWF];exact(HI.out.c3.far bA _).set_ 0 _
   rw [hWF];have hn:w2.heap.size+1∉[w.heap.size,w.heap.size+1]:=by simp only [Ac,Ab,or_false];omega
   have hK1:WF.heap[w2.heap.size+1]? = some (.deferred (some [])):=(hk3.block _ bB hn).trans hK;refine⟨by simp,.inl ⟨_,_,rfl,run_takeDeferred hK1,?_⟩⟩;have hk4:=Az (S:=[w2.heap.size+1]) WF (.deferred none) (l:=w2.heap.size+1) bA;have e2:=(d2.keeps hk4 bG).ce 0;have e3:=(d3.keeps hk4 bG).ce 0;refine⟨.tuple #[dI da R.done.length dc,.nilIface],by simp [results,Tryz.results48,go_sem,e2,e3],?_⟩;unfold J1;rw [HSP.out];have hrow2:=Ak (Ak HROW.out hk3 (fun g hg hm=>by have:=(HROW.out.lt g hg).1;simp only [Ac,Ab,or_false] at hm;omega)) hk4 (fun g hg hm=>by have:=(HROW.out.lt g hg).1;simp only [Ac,Ab,or_false] at hm;omega);rw [show R.done.length=(R.done.map CB).length by simp] at hrow2 ⊢;obtain⟨a',c',hv,hsl,_⟩:=AJ.of_row D9 hrow2;injection hv with v1 _ v2
   subst v1;subst v2;exact⟨da,dc,by simp,hsl,(HI.out.kw.own hk3 (fun g hg=>by simp only [Ac,Ab,or_false] at hg;omega)).own hk4 (fun g hg=>by simp only [Ac,Ab,or_false] at hg;omega)⟩
  case stop=>
   rintro pre W hpre hX hsz hK;rw [hsz3] at hsz hK ⊢;obtain⟨k,h1,h2⟩:=hX.run;have HX:=lH hX;clear hX;gi_wp2;refine⟨by simp,.inl ⟨_,_,rfl,run_takeDeferred hK,?_⟩⟩;have hk4:=Az (S:=[w2.heap.size+1]) W (.deferred none) (l:=w2.heap.size+1) bA;have e2:=(HX.out.c2.keeps hk4 bG).cell 0;have e3:=(h2.keeps hk4 bG).cell 0;simp only [Ai,Ah,Fb] at e2 e3;refine⟨.tuple #[dI none 0 0,.iface 208 (dK #[dH dN k])],by simp [results,Tryz.results48,go_sem,e2,e3],?_⟩;unfold J1;rw [h1];exact⟨rfl,HX.out.kw.own hk4 (fun g hg=>by simp only [Ac,Ab,or_false] at hg;omega)⟩
def Ir(s:ByteArray)(w:World)(x:Ending)(w':World):Prop:=match BG s.data.toList with
 | .error k=>x = dM (.tuple #[dI none 0 0,dH dN k])∧Aa [] w w'
 | .ok l=>∃a c,x = dM (.tuple #[dI a l.length c,dH dN 0])∧IF w' a c (l.map CB)∧Aa [] w w'
theorem Ht(s:ByteArray)(hs:s.size≤1000000)(w:World)(hE:Et w):Calls Tryz.prog 18 #[CZ s] w (Ir s w):=by
 have HE:=lH hE;clear hE;go_enter Tryz.func18,Tryz.ntmps18;go_wp2_with (fail);refine(Td s hs w).mono ?_;intro x w1 hx;unfold J1 at hx;cases hsp:BG s.data.toList with
 | error k=>
  rw [hsp] at hx;obtain⟨rfl,hk⟩:=hx;have HK:=lH hk;have HSP:=lH hsp;clear hk hsp;simp only [Fb];go_wp2_with (fail);refine(ErO.told_why k _ (HE.out.keeps HK.out bA)).mono ?_;rintro e w2 ⟨rfl,hk⟩;have HK2:=lH (HK.out.trans hk);clear hk;go_wp2;go_ret2;unfold Ir;rw [HSP.out];exact⟨rfl,HK2.out⟩
 | ok l=>
  rw [hsp] at hx;obtain⟨a,c,rfl,hm,hk⟩:=hx;obtain⟨n,hn⟩:=eX (l.length);rw [hn];have HN:=lH hn;have HM:=lH hm;have HK:=lH hk;have HSP:=lH hsp;clear hk hsp hm hn;go_wp2_with (fail);refine(ErO.told_nil _).mono ?_;rintro e w2 ⟨rfl,hk⟩;have HM2:=lH (HM.out.keeps hk);have HK2:=lH (HK.out.trans hk);clear hk;go_wp2;go_ret2;unfold Ir;rw [HSP.out];exact⟨a,c,by rw [HN.out];rfl,HM2.out,HK2.out⟩
theorem Vf{α:Type}{l:List α}{x:α}(h : []++[x] <+: l):l.head? = some x:=by
 obtain⟨t,rfl⟩:=h;rfl
theorem MO(f:Value)(w:World)(hf:∃a b c,f = .func a b c):Calls Tryz.prog 109 #[f] w fun r w'=>r = dM (.func (.func 170) #[] #[dJ (some ⟨w,0,none⟩)])∧w.alloc (.cells #[f] 219)=w':=by
 obtain⟨a,b,c,rfl⟩:=hf;go_enter Tryz.func109,Tryz.ntmps109;go_wp2;go_ret;exact⟨rfl,rfl⟩
structure Yt(w:World)(s:ByteArray)(tb:Nat)(A:World):Prop where
 ww:Blk A w.heap.size 9 #[CZ s]
 c2:Blk A (w.heap.size+1) 3 #[dH dN 0]
 c3:Blk A (w.heap.size+1+1) 48 #[dH dN 0]
 tb:Blk A tb 219 #[.func (.func 110) #[] #[dJ (some ⟨w,0,none⟩)]]
 kw:Aa [] w A
 vt:D5 A
theorem Yt.keeps{w:World}{s:ByteArray}{tb:Nat}{A A':World}{S:List Nat}(h:Yt w s tb A)(hk:Aa S A A')(hS:∀y∈S,tb<y)(ht:w.heap.size+2<tb)(hg:1<w.heap.size):Yt w s tb A':=
 have hn:∀y,y≤tb→y∉S:=fun y hy hm=>by have:=hS y hm;omega
 ⟨h.ww.keeps hk (hn _ bB),h.c2.keeps hk (hn _ bB),h.c3.keeps hk (hn _ bB),h.tb.keeps hk (hn _ bB),h.kw.own hk bM,h.vt.keeps hk (hn _ bB)⟩
structure Zg(w:World)(s:ByteArray)(A:World):Prop where
 run:∃n:Int,verbR s=(n,0)∧Blk A (w.heap.size+1) 3 #[dH dN n]
 c3:Blk A (w.heap.size+1+1) 48 #[dH dN 0]
 kw:Aa [] w A
theorem Zg.keeps{w:World}{s:ByteArray}{A A':World}{S:List Nat}(h:Zg w s A)(hk:Aa S A A')(hS:∀y∈S,w.heap.size+2<y):Zg w s A':=by
 obtain⟨n,h1,h2⟩:=h.run;have hn:∀y,y≤w.heap.size+2→y∉S:=fun y hy hm=>by have:=hS y hm;omega
 exact⟨⟨n,h1,h2.keeps hk (hn _ bB)⟩,h.c3.keeps hk (hn _ bB),h.kw.own hk bM⟩
theorem TF(s:ByteArray)(w:World)(hv:D5 w):Calls Tryz.prog 52 #[CZ s] w fun x w'=>x = dM (.tuple #[dH dN (verbR s).1,dH dN (verbR s).2])∧Aa [] w w':=by
 refine(callsIn_wide (n:=9)).1 ?_;have hgl:1<w.heap.size:=A4 w _ (hv 0 _ rfl);have HVT:=lH hv;clear hv;refine callsIn_of_wp_marks Tryz.func52 rfl trivial ?_ rfl;simp only [Tryz.ntmps52,Cx,Ao,Eh,Nat.reduceAdd,Nat.reduceSub,Bc,Bd,By,B0,AX,A6];gi_wp2_with (fail);refine⟨trivial,(callsIn_wide.2 (MO _ _ ⟨_,_,_,rfl⟩)).mono ?_⟩;rintro e w1 ⟨rfl,hw1⟩;gi_wp2_with (fail);have hsz:w1.heap.size=w.heap.size+4:=by rw [← hw1];simp
 have hI0:Yt w s (w.heap.size+1+1+1) w1:=by
  have hk:Aa [] w w1:=by rw [← hw1];exact((((Aa.refl [] w).alloc _).alloc _).alloc _).alloc _
  refine⟨?_,?_,?_,?_,hk,HVT.out.keeps hk bA⟩<;>rw [← hw1]
  ·exact(((Blk.new w _ _).alloc _).alloc _).alloc _
  ·exact((Aq _ _ _ _ bA).alloc _).alloc _
  ·exact(Aq _ _ _ _ bA).alloc _
  ·exact Aq _ _ _ _ bA
 have HI0:=lH hI0;clear hI0 hw1;refine Bx rfl bB (gf:=170) (lb:=#[dJ (some ⟨w.heap.size+1+1+1,0,none⟩)]) rfl trivial (enters_of Tryz.func170 bC rfl) (Tn 8 (w.heap.size+1+1+1) w.heap.size s) (fun _=>rfl)
  (fun pre A=>pre = []∧Yt w s (w.heap.size+1+1+1) A) (fun _ A=>Zg w s A)
  (fun pre A A' h hk=>⟨h.1,h.2.keeps hk bF bB hgl⟩)
  (fun pre A A' h hk=>h.keeps hk bF)
  (fun pre A h=>⟨h.2.vt,by simpa using h.2.tb.cell 0,by simpa using h.2.ww.cell 0⟩) ⟨rfl,HI0.out⟩
  (fun x W=>({ tmps:=#[CZ s,dJ (some ⟨w,0,none⟩),dJ (some ⟨w.heap.size+1,0,none⟩),dJ (some ⟨w.heap.size+1+1,0,none⟩),dJ (some ⟨W,0,none⟩),.func (.func 110) #[] #[dJ (some ⟨w,0,none⟩)],
     .func (.func 170) #[] #[dJ (some ⟨w.heap.size+1+1+1,0,none⟩)],dK #[dH dN x.1,CZ ⟨x.2.1.toArray⟩,dH dN (x.2.2:Nat)],undef,undef],defers:=[] },W.alloc (.cells #[dH dN x.1,CZ ⟨x.2.1.toArray⟩,dH dN (x.2.2:Nat)] 218)))
  (fun x W=>(Aa.refl [] W).alloc _) ?assign ?body ?done ?stop
 case assign=>
  rintro l ⟨vn,vw,vs⟩ W K hK;simp only [JW,Kk];gi_wp2;exact hK
 case body=>
  rintro l pre ⟨vn,vw,vs⟩ W W2 ⟨rfl,hI⟩ hpre hsz2 hk2;dsimp only at hk2 ⊢;have hfind:verbR s=(vn,0):=by
   have h1:=Vf hpre;rw [List.head?_filter] at h1;unfold verbR;rw [h1]
  have hI2:=(hI.keeps ((Aa.refl [] W).alloc (.cells #[dH dN vn,CZ ⟨vw.toArray⟩,dH dN (vs:Nat)] 218)) bA bB hgl).keeps hk2 bF bB hgl;have hb:=(Blk.new W 218 #[dH dN vn,CZ ⟨vw.toArray⟩,dH dN (vs:Nat)]).keeps hk2 bI;have d0:=hb.ce 0;have q2:=hI2.c2.ce 0;have q3:=hI2.c3.ce 0;have f2:=hI2.c2.frozen 0;have f3:=hI2.c3.frozen 0;have hszW:W.heap.size≤W2.heap.size:=by have:=hk2.size;rw [World.size_alloc] at this;omega
  have HI2:=lH hI2;have HFD:=lH hfind;clear hI hpre hk2 hI2 hb hfind;gi_wp2;have hk3:Aa [w.heap.size+1,w.heap.size+1+1] W2 ((W2.setCell ⟨w.heap.size+1,0,none⟩ (dH dN vn)).setCell ⟨w.heap.size+1+1,0,none⟩ (dH dN 0)):=((Aa.refl _ W2).setCell (p:=⟨w.heap.size+1,0,none⟩) (.inl bA) _).setCell (p:=⟨w.heap.size+1+1,0,none⟩) (.inl bA) _;refine⟨hk3.size,fun y hy=>hk3.block y Y5 Yc,⟨vn,HFD.out,?_⟩,?_,HI2.out.kw.own hk3 bF⟩
  ·exact(HI2.out.c2.set_ 0 (dH dN vn)).far bA _
  ·exact(HI2.out.c3.far bA _).set_ 0 (dH dN 0)
 case done=>
  rintro W ⟨hpre,hI⟩ hsz2 hK;have hfind:verbR s=(0,121):=by
   unfold verbR;have:Bb.find? (fun v=>v.2.1==s.data.toList)=none:=by
    rw [List.find?_eq_none];intro x hx hp;have:x∈Bb.filter (fun v=>v.2.1==s.data.toList):=List.mem_filter.2 ⟨hx,hp⟩;rw [hpre] at this;cases this
   rw [this]
  have q2:=hI.c2.ce 0;have q3:=hI.c3.ce 0;have f2:=hI.c2.frozen 0;have f3:=hI.c3.frozen 0;have HI:=lH hI;have HFD:=lH hfind;clear hI hfind hpre;gi_wp2;obtain⟨WF,hWF⟩:=eX ((W.setCell ⟨w.heap.size+1,0,none⟩ (dH dN 0)).setCell ⟨w.heap.size+1+1,0,none⟩ (dH dN 121));have hk3:Aa [w.heap.size+1,w.heap.size+1+1] W WF:=by rw [← hWF];exact((Aa.refl _ W).setCell (p:=⟨w.heap.size+1,0,none⟩) (.inl bA) _).setCell (p:=⟨w.heap.size+1+1,0,none⟩) (.inl bA) _
  have d2:Blk WF (w.heap.size+1) 3 #[dH dN 0]:=by rw [← hWF];exact(HI.out.c2.set_ 0 (dH dN 0)).far bA _
  have d3:Blk WF (w.heap.size+1+1) 48 #[dH dN 121]:=by rw [← hWF];exact(HI.out.c3.far bA _).set_ 0 (dH dN 121)
  rw [hWF];have hK1:WF.heap[w1.heap.size]? = some (.deferred (some [])):=(hk3.block _ bB bI).trans hK;refine⟨by simp,.inl ⟨_,_,rfl,run_takeDeferred hK1,?_⟩⟩;have hk4:=Az (S:=[w1.heap.size]) WF (.deferred none) (l:=w1.heap.size) bA;have e2:=(d2.keeps hk4 bG).ce 0;have e3:=(d3.keeps hk4 bG).ce 0;refine⟨.tuple #[dH dN 0,dH dN 121],by simp [results,Tryz.results52,go_sem,e2,e3],?_⟩;rw [HFD.out];exact⟨rfl,(HI.out.kw.own hk3 bF).own hk4 bF⟩
 case stop=>
  rintro pre W hpre hX hsz2 hK;obtain⟨n,h1,h2⟩:=hX.run;have HX:=lH hX;clear hX;gi_wp2;refine⟨by simp,.inl ⟨_,_,rfl,run_takeDeferred hK,?_⟩⟩;have hk4:=Az (S:=[w1.heap.size]) W (.deferred none) (l:=w1.heap.size) bA;have e2:=(h2.keeps hk4 bG).ce 0;have e3:=(HX.out.c3.keeps hk4 bG).ce 0;refine⟨.tuple #[dH dN n,dH dN 0],by simp [results,Tryz.results52,go_sem,e2,e3],?_⟩;rw [h1];exact⟨rfl,HX.out.kw.own hk4 bF⟩
end
end Go.Proofs.YtcjdkbgdahgjbaaGreatDoor
