/- Steps. -/
import Derived.Test.YtncebikgoleolaaGreatDoorKah
import Derived.Deep.DeepCutAuto
import Derived.Deep.RegionHeld3
set_option maxRecDepth 100000
set_option maxHeartbeats 8000000
set_option linter.all false
namespace Go.Proofs.YtncebikgoleolaaGreatDoor
open Tryz
open _root_.And renaming intro→Bl
open Ending renaming returned→pJ
open Instr renaming slice→AV
open _root_.Int renaming toNat_natCast→pW
open IntKind renaming i64→pK
open _root_.List renaming getElem?_eq_getElem→Aq,length_map→Bd,length_take→Ax,map_append→pO,mem_cons→Ac,mem_map→BO,mem_of_getElem?→CD,nil_append→BH,not_mem_nil→Ab,take_of_length_le→Ak
open _root_.Nat renaming add_zero→AT,le_refl→Aw,le_trans→A8,lt_of_lt_of_le→BS,lt_or_ge→pP,zero_le→Ba
open Oper renaming semAt_some→pN
open Value renaming agg→pH,bool→pI,int→pE,ownBlock→EZ,pointer→pG,slice→pF,string→Dz
open World renaming ownsRow_nil→BQ,size_alloc→Eo
section
open Go.RowKit Go.Shelf
attribute [local go_sem] pN Lr Ls Lp Lq
attribute [local go_sem ↓] wp_at_zero wp_at_succ
theorem AR.head_run{α:Type}{enc:α->List Value}{n:Nat}{t e:TypeId}(E:prog.underlying t=some (.slice e))(he:prog.elem t=e)(hz:∀W,(sizeOf e).run prog W = .ok n W){w:World}{a:Option Addr}{c:Nat}{xs:List α}(h:AR enc n w a c xs){N:Nat}(hN:xs.length=N)(k:Nat)(hk:k<=N):
  (∀W,(AV t (pF a N c) none (some (I_ (k:Int))) none).run prog W = .ok (pF a k c) W)/\AR enc n w a c (xs.take k):=by
 have B:prog.underlying t=some (.slice (prog.elem t)):=by rw [he];exact E
 have F:k<=c:=by have:=h.le;omega
 have D:=fun W=>run_slice_h (P:=prog) W t a N c B .i64 k bB bB;simp only [he,hz,Result.andThen_ok,pW] at D;refine⟨fun W=>(D W).trans ?_,h.take k⟩;unfold sliced;cases a with
 | none=>simp
 | some q=>
  by_cases h0:c=0
  ·simp [h0]
  ·simp [h0,Addr.add]
theorem VZ(a:Option Addr)(c:Nat)(L:List EX)(n:Nat)(hn:L.length=n)(hm:n<=9223372036854775807)(w:World)(h:Ku w a c L):
  Calls prog 54 #[pF a n c] w fun e w'=>∃a' n' c',e = pJ (.slice a' n' c')/\Ku w' a' c' (L.take 18)/\(L.take 18).length=n'/\w'.ownsRow w 59 5 (.slice a' n' c') n' ((L.take 18).flatMap B8)/\Aa [] w w':=by
 obtain⟨m,B⟩:∃m:Nat,min n 18=m:=⟨_,rfl⟩;obtain⟨U,X,O⟩:=Iy n 18 18 m B;obtain⟨hr,M⟩:=AR.head_run (t:=109) underlying109 bC (fun W=>by kernel_rfl) h hn m O;have N:L.take m=L.take 18:=by rw [<- B,<- hn,Nat.min_comm,<- List.take_eq_take_min]
 rw [N] at M;have hl:(L.take 18).length=m:=by rw [Ax,hn,Nat.min_comm];exact B
 obtain⟨T,z,D,E,F,G,J⟩:=Ck MP;obtain⟨v',w',h1,h2,h3⟩:=AR.app (ys:=[]) prog underlying109 D E F rfl G bE Cv FA (BQ w w 59 5) (Aw _) M (by rw [hl];simp;omega) J 109;rw [hl] at h1;rw [BH] at h2;obtain⟨a',c',rfl,hs,_⟩:=AR.of_row Cv h2;rw [hl] at h2;rw [hl] at h1;have HR:Hi (Calls prog 54 #[pF a n c] w fun e w1=>e = pJ (.slice a' m c')/\w'=w1):=lH (by
  clear h M N hl hs h2 h3 B;go_enter func54,ntmps54;go_wp2_with (at_builtin;refine Au _ rfl _ _ 109 rfl rfl rfl h1 ?_);go_ret;exact⟨rfl,rfl⟩)
 refine HR.o.mono ?_;rintro e w1 ⟨rfl,rfl⟩;exact⟨a',m,c',rfl,hs,hl,h2,(Aa.refl [] w).grown h3 (fun k hk=>by simp [EZ] at hk)⟩
def Fq(s:Fz):Fz:=⟨s.gens.take 66,s.used.take 66,s.free.take 66⟩
theorem L8{α:Type}{L:List α}{n m:Nat}(hn:L.length=n)(h:min n 66=m):L.take m=L.take 66/\(L.take 66).length=m:=
 ⟨by rw [<- h,<- hn,Nat.min_comm,<- List.take_eq_take_min],by rw [Ax,hn,Nat.min_comm];exact h⟩
theorem VO(v:DF)(s:Fz)(gn un fn:Nat)(hg:s.gens.length=gn)(hu:s.used.length=un)(hf:s.free.length=fn)(w:World)(hG:F1 w v.ga v.gc s.gens)(Y:GX w v.ua v.uc s.used)(hF:F1 w v.fa v.fc s.free):
  Calls prog 53 #[pH (S_ v gn un fn)] w fun e w'=>∃g u f,e = pJ (pH (S_ v g u f))/\Dy w' v (Fq s)/\((Fq s).gens.length=g/\(Fq s).used.length=u/\(Fq s).free.length=f)/\Aa [] w w':=by
 obtain⟨g,D⟩:∃m:Nat,min gn 66=m:=⟨_,rfl⟩;obtain⟨u,E⟩:∃m:Nat,min un 66=m:=⟨_,rfl⟩;obtain⟨f,B⟩:∃m:Nat,min fn 66=m:=⟨_,rfl⟩;obtain⟨ah,ai,N⟩:=Iy gn 66 66 g D;obtain⟨aj,ak,O⟩:=Iy un 66 66 u E;obtain⟨af,ag,M⟩:=Iy fn 66 66 f B;obtain⟨rg,G⟩:=AR.head_run (t:=23) underlying23 bC (fun W=>by kernel_rfl) hG hg g N;obtain⟨ru,J⟩:=AR.head_run (t:=24) underlying24 bC (fun W=>by kernel_rfl) Y hu u O;obtain⟨rf,F⟩:=AR.head_run (t:=23) underlying23 bC (fun W=>by kernel_rfl) hF hf f M;obtain⟨U,lg⟩:=L8 hg D;obtain⟨X,lu⟩:=L8 hu E;obtain⟨T,lf⟩:=L8 hf B;rw [U] at G;rw [X] at J;rw [T] at F;have HM:Hi (Dy w v (Fq s)):=lH ⟨G,J,F,by show(s.gens.take 66).length<=1000;omega,by show(s.used.take 66).length<=1000;omega,by show(s.free.take 66).length<=1000;omega⟩;have HL:Hi ((Fq s).gens.length=g/\(Fq s).used.length=u/\(Fq s).free.length=f):=lH ⟨lg,lu,lf⟩;clear G J F U X T lg lu lf D E B hg hu hf hG Y hF;obtain⟨w0,hw0⟩:=eX ((w.alloc (.cells (S_ v gn un fn) 26)).alloc (.cells IY.k 26));have HK0:Hi (Aa [] w w0):=lH lX;have hb0:Blk w0 w 26 (S_ v gn un fn):=by rw [<- hw0];exact(Blk.new w _ _).alloc _
 have hb1:Blk w0 (w+1) 26 IY.k:=by rw [<- hw0];exact Ar _ _ _ _ bA
 have q0:=hb0.rl;have q1:=hb1.rl;clear hb0 hb1;go_enter func53,ntmps53;go_wp2_with fail;clear hw0;refine wp_region_held_drew (S:=(Aa [w.heap.size+1] w0)) bC kH (fun hHeld=>?_);refine rK 0 ?_;refine rK 1 ?_;refine rK 2 ?_;refine rK 3 ?_;refine rK 4 ?_;refine rK 5 ?_;refine rK 6 ?_;refine rK 7 ?_;refine rK 8 ?_;refine rK 9 ?_;refine rK 10 ?_;refine rK 11 ?_;refine rK 12 ?_;refine rK 13 ?_;refine rK 14 ?_;refine rK 15 ?_;refine rK 16 ?_;refine rK 17 ?_;refine rK 18 ?_;refine rK 19 ?_;refine rK 20 ?_;refine rK 21 ?_;refine rC 22 fun K hK=>?_;go_simp
 (try clear rH);refine rP hK kH fun rH hHeld=>?_;clear hK K
 refine wpAnyH_done bC ?_ _
 (go_wp2_with fail;exact bodyPost_ret (v:=pH (S_ v g u f)) (by simp [results,results53,go_sem,q1]) rfl ⟨g,u,f,rfl,HM.o.keeps (HK0.o.own hHeld bF),HL.o,HK0.o.own hHeld bF⟩)
def Ot(c:El):El:={ c with key:=Rl 65 c.key }
def GN(L:List El):List El:=(L.take 6).map Ot
theorem Wa(a:Option Addr)(c:Nat)(L:List El)(n:Nat)(hn:L.length=n)(hm:n<=9223372036854775807)(hs:∀o∈L,o.key.size<=maxLen)(w:World)(h:Hg w a c L):
  Calls prog 55 #[pF a n c] w fun e w'=>∃a' n' c',e = pJ (.slice a' n' c')/\Hg w' a' c' (GN L)/\(GN L).length=n'/\w'.ownsRow w 194 4 (.slice a' n' c') n' ((GN L).flatMap BT)/\Aa [] w w':=by
 have H:=lH h;have HN:=lH hn;have HS:=lH hs;clear h hn hs;go_enter func55,ntmps55;go_wp2;go_loopw [3,4] (fun v i wr=>∃k:Nat,k<=n/\k<=6/\i = I_ k/\Hi (wr.ownsRow w 194 4 v ((L.take k).map Ot).length (((L.take k).map Ot).flatMap BT))/\Hi (Aa [] w wr)) (fun _ i _=>6 - (intOf i).toNat)
 case atStart=>exact⟨0,Ba _,Ba _,rfl,lH (BQ _ _ _ _),lH (Aa.refl _ _)⟩
 case round=>
  obtain⟨k,hkn,X,rfl,HR,HK⟩:=hrel;by_cases hlt:k<n/\k<6
  ·obtain⟨h1,h2⟩:=hlt
   obtain⟨x,hx⟩:∃x,L[k]? = some x:=⟨_,Aq lZ⟩;obtain⟨g,off,x',rfl,hg,F,hat⟩:=H.o.at_k (k:=k) lZ;obtain rfl:x=x':=by rw [hx] at F;injection F
   have q0:wr.cell? (A_ g (off+k*4))=_:=(HK.o.cell (p:=A_ g _) hg bA).trans (hat 0 _ rfl);have q1:wr.cell? (A_ g (off+k*4+1))=_:=(HK.o.cell (p:=A_ g _) hg bA).trans (hat 1 _ rfl);have q2:wr.cell? (A_ g (off+k*4+2))=_:=(HK.o.cell (p:=A_ g _) hg bA).trans (hat 2 _ rfl);have q3:wr.cell? (A_ g (off+k*4+3))=_:=(HK.o.cell (p:=A_ g _) hg bA).trans (hat 3 _ rfl);have hsz:x.key.size<=maxLen:=HS.o x (CD hx);unfold maxLen at hsz;obtain⟨m,E⟩:∃m:Nat,min x.key.size 65=m:=⟨_,rfl⟩;obtain⟨z1,z2,z3⟩:=Iy x.key.size 65 65 m E;have i1:(0:Int)<=(k:Int):=bB;have i2:(k:Int)<(n:Int):=bB;have i3:(k:Int)<6:=bB;obtain⟨Y,hys⟩:=eX ((L.take k).map Ot);have HTK:Hi ((L.take (k+1)).map Ot=Y++[(⟨x.id,x.key.extract 0 m,x.from_,x.to_⟩:El)]):=lH (by rw [A0 hx,pO,hys,<- E];rfl);rw [hys] at HR;have HYL:Hi (Y.length<=6):=lH vH;have U:=lH (Q5 (enc:=BT) (t:=110) underlying110 bC bE D0 Iq HR.o HK.o.size (⟨x.id,x.key.extract 0 m,x.from_,x.to_⟩:El) vB 110);have T:Hi (∀W,Aa u3.ownBlock.toList wr W->Aa [] w W):=lH fun W hW=>HK.o.own hW (AZ HR.o);have aa:g<wr.heap.size:=BS hg HK.o.size;clear hx F hat hys hsz E hg;go_wp2_with (at_builtin;obtain⟨g4,c4,W4,B,J,hk4⟩:=U.o _ ((Aa.refl [] wr).alloc (.cells #[pE pK x.id,Dz (x.key.extract 0 m),I_ x.from_,I_ x.to_] 194));rw [Eo] at B;refine Au _ rfl _ _ 110 rfl rfl rfl B ?_;have HR4:=lH J;have HK4:=lH (T.o _ hk4);clear J hk4 B);go_roundw;case rel=>exact⟨k+1,by omega,by omega,by go_num,lH vG,HK4⟩
   case measure=>(simp [intOf];omega)
  ·have e1:((n:Nat):Int)<=(k:Int)\/(6:Int)<=(k:Int):=bB;have O:GN L=(L.take k).map Ot:=by
    have h1:=HN.o;unfold GN;rcases pP k 6 with h | h
    ·rw [Ak (show L.length<=6 by omega),Ak (show L.length<=k by omega)]
    ·rw [show k=6 by omega]
   obtain⟨a',c',rfl,M,_⟩:=AR.of_row D0 HR.o;have D:Hi (wr.ownsRow w 194 4 (.slice a' ((L.take k).map Ot).length c') ((L.take k).map Ot).length ((GN L).flatMap BT)):=lH (by rw [O];exact HR.o);have G:Hi (Hg wr a' c' (GN L)):=lH (by rw [O];exact M);obtain⟨N,hN⟩:=eX (((L.take k).map Ot).length);rw [hN] at D ⊢;have HLE:Hi ((GN L).length=N):=lH (by rw [O,hN]);clear M O hlt hN;rcases pP k n with hk | hk
   ·have i2:(k:Int)<(n:Int):=bB;have i3:¬(k:Int)<6:=bB;clear e1;go_wp2_with fail;go_ret;exact⟨_,_,_,rfl,G.o,HLE.o,D.o,HK.o⟩
   ·have i2:¬(k:Int)<(n:Int):=bB;clear e1;go_wp2_with fail;go_ret;exact⟨_,_,_,rfl,G.o,HLE.o,D.o,HK.o⟩
def LZ(t:Ten):Ten:={ t with name:=Rl 41 t.name,rules:=t.rules.take 18,creds:=GN t.creds }
def F9(r:CJ):CJ:={ r with slots:=Fq r.slots,l:=(r.l.take 8).map LZ }
theorem Yg{w:World}{v:DF}{s:Fz}(hG:F1 w v.ga v.gc s.gens)(hU:GX w v.ua v.uc s.used)(hF:F1 w v.fa v.fc s.free):Dy w v (Fq s):=
 ⟨hG.take 66,hU.take 66,hF.take 66,by show(s.gens.take 66).length<=1000;rw [Ax];omega,by show(s.used.take 66).length<=1000;rw [Ax];omega,by show(s.free.take 66).length<=1000;rw [Ax];omega⟩
theorem eU{w wr w3 w4:World}{B m J c3 M c4:Nat}{X Y:Option Addr}{x u:Value}{y:TV}{t:Ten}(hB:B<=wr.heap.size)(O:wr.heap.size+1<=w3.heap.size)(hm:Cj w y t)(N:min y.name.size 41=m)
 (E:(t.rules.take 18).length=J)(D:w3.ownsRow (wr+1) 59 5 (pF X J c3) J ((t.rules.take 18).flatMap B8))(F:(GN t.creds).length=M)(G:w4.ownsRow (w3.setCell (A_ wr 5) x).heap.size 194 4 (pF Y M c4) M ((GN t.creds).flatMap BT))
 (hk4:Aa [] (w3.setCell (A_ wr 5) x) w4):PH (w4.setCell (A_ wr 6) u) B ⟨y.slot,y.gen,y.name.extract 0 m,y.state,y.version,X,J,c3,Y,M,c4,y.deadline⟩ (LZ t):=by
 have h1:Aa [wr.heap.size] w3 (w3.setCell (A_ wr 5) x):=Ae _ _ _ _;have h2:Aa [wr.heap.size] w4 (w4.setCell (A_ wr 6) u):=Ae _ _ _ _;have T:=Ah (Ah (Ah D h1 (fun g hg hm'=>by have:=(D.lt g hg).1;simp only [Ac,Ab,or_false] at hm';omega)) hk4 (fun _ _=>by simp)) h2 (fun g hg hm'=>by have:=(D.lt g hg).1;simp only [Ac,Ab,or_false] at hm';omega);have hz4:wr.heap.size+1<=(w3.setCell (A_ wr 5) x).heap.size:=A8 O h1.size;have U:=Ah G h2 (fun g hg hm'=>by have:=(G.lt g hg).1;simp only [Ac,Ab,or_false] at hm';omega);have e1:y.name.extract 0 m=Rl 41 t.name:=by rw [<- N,hm.name];rfl
 exact⟨⟨hm.slot,hm.gen,e1,hm.state,hm.version,hm.deadline,E,F,AR.row Cv (by rw [<- E] at T;exact T),AR.row D0 (by rw [<- F] at U;exact U)⟩,Bw T bB,Bw U bB⟩
theorem VP(v:B6)(r:CJ)(gn un fn ln:Nat)(hg:r.slots.gens.length=gn)(hu:r.slots.used.length=un)(hf:r.slots.free.length=fn)(hln:v.lv.length=ln)(b0:ln<=9223372036854775807)(seq:Int)(hsq:r.seq=seq)(wA:World)(hA:Lw wA v r)(w:World)(au:Aa [] wA w):
  Calls prog 24 #[pH (R_ v gn un fn ln seq)] w fun e w'=>∃(v':B6) (g u f l:Nat),e = pJ (pH (R_ v' g u f l seq))/\CH w' v' (F9 r)/\
   ((F9 r).slots.gens.length=g/\(F9 r).slots.used.length=u/\(F9 r).slots.free.length=f/\(F9 r).l.length=l)/\CL (fun y=>wA.heap.size<=y/\y<w.heap.size) v' (F9 r)/\Aa [] w w':=by
 have h:=hA.keeps au;subst hsq;obtain⟨seq,az⟩:=eX r.seq;rw [az];have HC9:Hi (∀W,Aa [] w W->Calls prog 53 #[pH (S_ v.s gn un fn)] W fun e w'=>∃g u f,e = pJ (pH (S_ v.s g u f))/\((Fq r.slots).gens.length=g/\(Fq r.slots).used.length=u/\(Fq r.slots).free.length=f)/\Aa [] W w'):=lH fun W hk=>
  (VO v.s r.slots gn un fn hg hu hf W (h.g.keeps hk) (h.u.keeps hk) (h.f.keeps hk)).mono fun _ _ ⟨g,u,f,h1,_,h3,h4⟩=>⟨g,u,f,h1,h3,h4⟩
 have bi:=lH (Yg h.g h.u h.f);have X:Hi (DW (fun y=>wA.heap.size<=y/\y<w.heap.size) v.s.ga (Fq r.slots).gens.length/\DW (fun y=>wA.heap.size<=y/\y<w.heap.size) v.s.ua (Fq r.slots).used.length/\DW (fun y=>wA.heap.size<=y/\y<w.heap.size) v.s.fa (Fq r.slots).free.length):=lH ⟨(hA.g.take 66).no rfl (fun _ hy=>hy.1),(hA.u.take 66).no rfl (fun _ hy=>hy.1),(hA.f.take 66).no rfl (fun _ hy=>hy.1)⟩;have H:=lH h;have HLN:=lH hln;clear hg hu hf h hln hA au;obtain⟨w0,hw0⟩:=eX ((w.alloc (.cells (R_ v gn un fn ln seq) 29)).alloc (.cells LU.k 29));have HK0:Hi (Aa [] w w0):=lH lX;have hb0:Blk w0 w 29 (R_ v gn un fn ln seq):=by rw [<- hw0];exact(Blk.new w _ _).alloc _
 have hb1:Blk w0 (w+1) 29 LU.k:=by rw [<- hw0];exact Ar _ _ _ _ bA
 have HSZ:Hi (w0.heap.size=w.heap.size+2):=lH (by rw [<- hw0];simp);have q0:=hb0.rl;have HB0:=lH hb0;have HB1:=lH hb1;clear hb0 hb1;go_enter func24,ntmps24;go_wp2_with fail;clear hw0;go_cut [3] (fun x wd=>∃N g u f,x = p_ N 0/\Hi (Blk wd N 29 #[pF v.s.ga g v.s.gc,pF v.s.ua u v.s.uc,pF v.s.fa f v.s.fc,pF none 0 0,I_ seq])/\Hi ((Fq r.slots).gens.length=g/\(Fq r.slots).used.length=u/\(Fq r.slots).free.length=f)/\Hi (Aa [] w0 wd)/\Hi (w0.heap.size<=N))
 case first=>
  refine wp_region_held_drew (S:=(Aa [] w0)) bC (by((try dsimp only);(repeat(with_reducible first | exact B | exact Aa.refl _ _ | refine Aa.drew ?_ | refine Aa.alloc ?_ _ | refine Aa.own ?_ hkS (fun y hy=>fC))))) (fun hHeld=>?_)
  repeat' (first | exact rZ | refine rX ?_ | ((first | (refine rA 2 (fun K hK=>?_) ?_;go_simp;(refine(HC9.o _ (HK0.o.trans hHeld)).mono ?_;rintro er w3 ⟨g,u,f,rfl,D,hk3⟩;have bg:=lH D;clear D;have B:=hHeld.trans hk3;have af:=B.size;have cg:=hHeld.size;have bt:=hk3.size;(try simp at bt))) | (refine rA 6 (fun K hK=>?_) ?_;go_simp) | (refine rA 7 (fun K hK=>?_) ?_;(refine DT 29 _ _ bD _ #[pF v.s.ga g v.s.gc,pF v.s.ua u v.s.uc,pF v.s.fa f v.s.fc,pF none 0 0,I_ seq] bD bD 29 LU.k ?_ rfl bC aG ?_;(· (repeat(with_reducible first | exact Blk.new _ _ _ | exact Ar _ _ _ _ bA | refine Blk.alloc ?_ _ | refine Blk.drew ?_ | refine Blk.keeps ?_ hk3 bA)));intro wS HRB hkS)));(try clear rH);refine rP hK ((by((try dsimp only);(repeat(with_reducible first | exact B | exact Aa.refl _ _ | refine Aa.drew ?_ | refine Aa.alloc ?_ _ | refine Aa.own ?_ hkS (fun y hy=>fC)))))) fun rH hHeld=>?_;clear hK K) | (refine rK 0 ?_;refine rK 1 ?_;refine rK 3 ?_;refine rK 4 ?_) | (refine rK 5 ?_) | refine rB [2,6,7] ?_ | (refine wpAnyH_done bC ?_ _;(go_wp2_with fail;go_meet;exact⟨_,g,u,f,rfl,lH HRB,bg,lH hHeld,lH gE⟩)))
 case rest=>
  obtain⟨N,g,u,f,rfl,al,U,HKD,bd⟩:=hcut
  rename World=>wd
  clear q0;have HKW:Hi (Aa [] w wd):=lH (HK0.o.trans HKD.o);have HOL:Hi (w.heap.size+2<=N/\N<wd.heap.size):=lH ⟨by have:=HSZ.o;have:=bd.o;omega,al.o.lt⟩;have be:Hi (iP wd N (pF v.s.ga g v.s.gc) (pF v.s.ua u v.s.uc) (pF v.s.fa f v.s.fc) seq [] none 0 [] wd):=lH ⟨BQ _ _ _ _,al.o,trivial,Aa.refl _ _⟩;go_wp2;go_loopw [4] (fun i wr=>∃(k:Nat) (xa:Option Addr) (xc:Nat) (O:List TV),k<=ln/\k<=8/\i = I_ k/\Hi (iP wd N (pF v.s.ga g v.s.gc) (pF v.s.ua u v.s.uc) (pF v.s.fa f v.s.fc) seq ((r.l.take k).map LZ) xa xc O wr)) (fun i _=>8 - (intOf i).toNat)
  case atStart=>exact⟨0,none,0,[],Ba _,Ba _,rfl,be⟩
  case round=>
   obtain⟨k,xa,xc,O,b9,hk8,rfl,HJ⟩:=hrel;have hb0:Blk wr w 29 (R_ v gn un fn ln seq):=(HB0.o.keeps HKD.o bA).keeps HJ.o.kw kK;have r0:=hb0.rl;have HKR:Hi (Aa [] w wr):=lH (HKW.o.own HJ.o.kw nV);have ba:Hi (wd.heap.size<=wr.heap.size):=lH HJ.o.kw.size;by_cases hlt:k<ln/\k<8
   ·obtain⟨h1,h2⟩:=hlt
    have J:k<v.lv.length:=by rw [HLN.o];exact h1
    obtain⟨gg,off,y,ha,ar,hy,hat⟩:=H.o.l.at_k (k:=k) J;have hkL:k<r.l.length:=by rw [<- H.o.t.len];exact J
    obtain⟨t,ht⟩:∃t,r.l[k]? = some t:=⟨_,Aq hkL⟩;have hm:Cj w y t:=by
     have h:=H.o.t.get k J hkL;rw [Aq J] at hy;rw [Aq hkL] at ht;rw [Option.some.inj hy,Option.some.inj ht] at h;exact h
    obtain⟨hs1,bs,F,M⟩:=H.o.small t (CD ht);have HM:=lH hm;have b6:=lH M;rw [ha] at r0;have hq:∀j u,(BE y)[j]? = some u->wr.cell? (A_ gg (off+k*8+j))=some u:=fun j u hj=>(HKR.o.cell (p:=A_ gg _) ar bA).trans (hat j u hj);have q0:=hq 0 _ rfl;have q1:=hq 1 _ rfl;have q2:=hq 2 _ rfl;have q3:=hq 3 _ rfl;have q4:=hq 4 _ rfl;have q5:=hq 5 _ rfl;have q6:=hq 6 _ rfl;have q7:=hq 7 _ rfl;rw [AT] at q0;have br:y.name.size<=maxLen:=by rw [hm.name];exact hs1
    unfold maxLen at br;obtain⟨m,ad⟩:∃m:Nat,min y.name.size 41=m:=⟨_,rfl⟩;obtain⟨z1,z2,z3⟩:=Iy y.name.size 41 41 m ad;have i1:(0:Int)<=(k:Int):=bB;have i2:(k:Int)<(ln:Int):=bB;have i3:(k:Int)<8:=bB;have ay:=hm.rl;have aq:=hm.cl;have bb:Hi (∀W,Aa [] w W->Calls prog 54 #[pF y.ra y.rl y.rc] W fun e w'=>∃a' n' c',e = pJ (.slice a' n' c')/\Ku w' a' c' (t.rules.take 18)/\(t.rules.take 18).length=n'/\w'.ownsRow W 59 5 (.slice a' n' c') n' ((t.rules.take 18).flatMap B8)/\Aa [] W w'):=lH fun W hW=>VZ y.ra y.rc t.rules y.rl ay bB W (hm.rs.keeps hW);have aj:Hi (∀W,Aa [] w W->Calls prog 55 #[pF y.ca y.cl y.cc] W fun e w'=>∃a' n' c',e = pJ (.slice a' n' c')/\Hg w' a' c' (GN t.creds)/\(GN t.creds).length=n'/\w'.ownsRow W 194 4 (.slice a' n' c') n' ((GN t.creds).flatMap BT)/\Aa [] W w'):=lH fun W hW=>Wa y.ca y.cc t.creds y.cl aq bB M W (hm.cs.keeps hW);have HTK:Hi ((r.l.take (k+1)).map LZ=(r.l.take k).map LZ++[LZ t]):=lH (by rw [A0 ht,pO];rfl);have bh:=lH ad;clear ha J hkL hy hat ht hm hs1 bs F M hq ad ay aq ar hb0;go_wp2_with fail;have ab:Aa [] wr (wr.alloc (.cells #[pE pK y.slot,I_ y.gen,Dz (y.name.extract 0 m),I_ y.state,I_ y.version,pF y.ra y.rl y.rc,pF y.ca y.cl y.cc,I_ y.deadline] 112)):=(Aa.refl [] wr).alloc _;refine(bb.o _ (HKR.o.trans ab)).mono ?_;rintro e w3 ⟨a3,n3,c3,rfl,F,D,E,hk3⟩;have Y:=(Blk.new wr 112 #[pE pK y.slot,I_ y.gen,Dz (y.name.extract 0 m),I_ y.state,I_ y.version,pF y.ra y.rl y.rc,pF y.ca y.cl y.cc,I_ y.deadline]).keeps hk3 bA;have B:Aa [] wr w3:=ab.trans hk3;have t3:=Y.rl;have bj:=lH Y;have HR3:=lH (Bl F (Bl D E));have ak:=lH B;have af:wr.heap.size+1<=w3.heap.size:=by have:=hk3.size;rw [Eo] at this;exact this
    have bl:=lH af;clear F D E hk3 B ab Y af r0 q0 q1 q2 q3 q4 q5 q6 q7;go_wp2_with fail;have ac:Aa [wr.heap.size] w3 (w3.setCell (A_ wr 5) (pF a3 n3 c3)):=Ae _ _ _ _;refine(aj.o _ (HKR.o.trans (ak.o.own ac bF))).mono ?_;rintro e w4 ⟨a4,n4,c4,rfl,M,aw,ax,hk4⟩;obtain⟨F,D,E⟩:=HR3.o;rw [Eo] at E;have G:Aa [] wr w4:=(ak.o.own ac bF).trans hk4;have av:Aa [wr.heap.size] w4 (w4.setCell (A_ wr 6) (pF a4 n4 c4)):=Ae _ _ _ _;have aa:Blk w4 wr 112 #[pE pK y.slot,I_ y.gen,Dz (y.name.extract 0 m),I_ y.state,I_ y.version,pF a3 n3 c3,pF y.ca y.cl y.cc,I_ y.deadline]:=(bj.o.set_ 5 (pF a3 n3 c3)).keeps hk4 bA;have bp:Blk (w4.setCell (A_ wr 6) (pF a4 n4 c4)) wr 112 #[pE pK y.slot,I_ y.gen,Dz (y.name.extract 0 m),I_ y.state,I_ y.version,pF a3 n3 c3,pF a4 n4 c4,I_ y.deadline]:=aa.set_ 6 (pF a4 n4 c4);have a0:=eU (u:=pF a4 n4 c4) ba.o bl.o HM.o bh.o D E aw ax hk4;obtain⟨g5,c5,W5,T,ap,ao⟩:=iP.push HOL.o.2 HJ.o (by rw [Bd,Ax];omega) (G.own av bF) a0;have b1:=(HJ.o.bx.keeps G bA).rl;have hne:N≠wr.heap.size:=by have:=HJ.o.bx.lt;omega
    have t4:=aa.rl;have b5:=ap.rl;have bf:=lH ao;clear F D E M aw ax hk4 av ac G aa bp a0 ap ao t3;simp only [BE,World.size_setCell] at T;go_wp2_with (at_builtin;refine Au _ rfl _ _ 27 rfl rfl rfl T ?_);go_roundw;case rel=>exact⟨k+1,some (A_ g5 0),c5,O++[_],by omega,by omega,by go_num,lH (by rw [HTK.o];exact bf.o)⟩
    case measure=>(simp [intOf];omega)
   ·have e1:((ln:Nat):Int)<=(k:Int)\/(8:Int)<=(k:Int):=bB;have hL:r.l.length=ln:=by rw [<- H.o.t.len];exact HLN.o
    have eL:(F9 r).l=(r.l.take k).map LZ:=by
     show(r.l.take 8).map LZ=_;rcases pP k 8 with h | h
     ·rw [Ak (by omega:r.l.length<=8),Ak (by omega:r.l.length<=k)]
     ·rw [show k=8 by omega]
    have HF:Hi (∀W',Aa [w.heap.size+1] wr W'->∃(v':B6) (g' u' f' l:Nat),pJ (pH #[pF v.s.ga g v.s.gc,pF v.s.ua u v.s.uc,pF v.s.fa f v.s.fc,pF xa O.length xc,I_ seq]) = pJ (pH (R_ v' g' u' f' l seq))/\CH W' v' (F9 r)/\
      ((F9 r).slots.gens.length=g'/\(F9 r).slots.used.length=u'/\(F9 r).slots.free.length=f'/\(F9 r).l.length=l)/\CL (fun y=>wA.heap.size<=y/\y<w.heap.size) v' (F9 r)/\Aa [] w W'):=lH fun W' hk=>by
     have hkw:Aa [] w W':=HKR.o.own hk bF;have cf:w.heap.size+1<wd.heap.size:=by have:=HOL.o;omega
     have hT:=HJ.o.t.keeps hk (fun y hy=>.inl gB);have hrow:=Ah HJ.o.row hk (fun g' bq hm'=>by have:=(HJ.o.row.lt g' bq).1;simp only [Ac,Ab,or_false] at hm';omega);have hl:(F9 r).l.length=O.length:=by rw [eL];exact HJ.o.t.len.symm
     refine⟨⟨v.s,xa,xc,O⟩,g,u,f,O.length,rfl,⟨bi.o.keeps hkw,AR.row CF hrow,by rw [eL];exact hT.m,by rw [hl,HJ.o.t.len,Bd,Ax];omega,fun t ht=>?_⟩,⟨U.o.1,U.o.2.1,U.o.2.2,hl⟩,⟨X.o.1,X.o.2.1,X.o.2.2,(DQ hrow).no (fun _ hy=>by omega),fun x hx=>⟨((EK.ge hT) x hx).1.no (fun _ hy=>by omega),((EK.ge hT) x hx).2.no (fun _ hy=>by omega)⟩⟩,hkw⟩;obtain⟨t',cd,rfl⟩:=BO.1 ht;exact⟨by show(t'.rules.take 18).length<=1000;rw [Ax];omega,by show((t'.creds.take 6).map Ot).length<=1000;rw [Bd,Ax];omega⟩
    have cq:=HJ.o.bx.rl;have hb1:Blk wr (w+1) 29 LU.k:=(HB1.o.keeps HKD.o bA).keeps HJ.o.kw kK;have bu:=lH hb1;have r1:=hb1.rl;clear hlt hL eL hb0 hb1;rcases pP k ln with hk | hk
    ·have i2:(k:Int)<(ln:Int):=bB;have i3:¬(k:Int)<8:=bB;clear e1;go_wp2_with fail;exact bodyPost_ret (v:=pH #[pF v.s.ga g v.s.gc,pF v.s.ua u v.s.uc,pF v.s.fa f v.s.fc,pF xa O.length xc,I_ seq]) (by simp [results,results24,go_sem,r1]) rfl (HF.o _ (FN _ _ 0 _ _ _ _ _))
    ·have i2:¬(k:Int)<(ln:Int):=bB;clear e1;go_wp2_with fail;exact bodyPost_ret (v:=pH #[pF v.s.ga g v.s.gc,pF v.s.ua u v.s.uc,pF v.s.fa f v.s.fc,pF xa O.length xc,I_ seq]) (by simp [results,results24,go_sem,r1]) rfl (HF.o _ (FN _ _ 0 _ _ _ _ _))
def MS(c:FW):FW:={ c with name:=Rl 41 c.name,key:=Rl 65 c.key }
theorem Ts(c:FW)(w:World):Calls prog 26 #[pH (comA c)] w fun e w'=>e = pJ (pH (comA (MS c)))/\Aa [] w w':=by
 obtain⟨B,E⟩:∃m:Nat,min c.name.size 41=m:=⟨_,rfl⟩;obtain⟨D,F⟩:∃m:Nat,min c.key.size 65=m:=⟨_,rfl⟩;obtain⟨O,T,U⟩:=Iy c.name.size 41 41 B E;obtain⟨J,M,N⟩:=Iy c.key.size 65 65 D F;have hC:comA (MS c)=#[pE pK c.verb,Dz (c.name.extract 0 B),I_ c.want,I_ c.at_,pI c.rule.allow,I_ c.rule.addr,I_ c.rule.bits,I_ c.rule.from_,I_ c.rule.to_,Dz (c.key.extract 0 D),I_ c.n,I_ c.m]:=by rw [<- E,<- F];rfl
 rw [hC];clear hC E F;unfold comA;obtain⟨w0,hw0⟩:=eX ((w.alloc (.cells #[pE pK c.verb,Dz (c.name.extract 0 B),I_ c.want,I_ c.at_,pI c.rule.allow,I_ c.rule.addr,I_ c.rule.bits,I_ c.rule.from_,I_ c.rule.to_,Dz (c.key.extract 0 D),I_ c.n,I_ c.m] 61)).alloc (.cells #[pE pK 0,Dz ⟨#[]⟩,I_ 0,I_ 0,pI false,I_ 0,I_ 0,I_ 0,I_ 0,Dz ⟨#[]⟩,I_ 0,I_ 0] 61));have HK0:Hi (Aa [] w w0):=lH lX;have hb0:Blk w0 w 61 #[pE pK c.verb,Dz (c.name.extract 0 B),I_ c.want,I_ c.at_,pI c.rule.allow,I_ c.rule.addr,I_ c.rule.bits,I_ c.rule.from_,I_ c.rule.to_,Dz (c.key.extract 0 D),I_ c.n,I_ c.m]:=by rw [<- hw0];exact(Blk.new w _ _).alloc _
 have hb1:Blk w0 (w+1) 61 #[pE pK 0,Dz ⟨#[]⟩,I_ 0,I_ 0,pI false,I_ 0,I_ 0,I_ 0,I_ 0,Dz ⟨#[]⟩,I_ 0,I_ 0]:=by rw [<- hw0];exact Ar _ _ _ _ bA
 have G:=lH (Blk.rng hb0 0 #[pE pK c.verb,Dz (c.name.extract 0 B),I_ c.want,I_ c.at_,pI c.rule.allow,I_ c.rule.addr,I_ c.rule.bits,I_ c.rule.from_,I_ c.rule.to_,Dz (c.key.extract 0 D),I_ c.n,I_ c.m] (fun j v h=>by simpa using h));have HB1:=lH hb1;clear hb0 hb1;go_enter func26,ntmps26;go_upto_region 3 with fail
 clear hw0;go_wp2_with (first | (refine Ay bD 61 _ bD w 0 bD #[pE pK c.verb,Dz (c.name.extract 0 B),I_ c.want,I_ c.at_,pI c.rule.allow,I_ c.rule.addr,I_ c.rule.bits,I_ c.rule.from_,I_ c.rule.to_,Dz (c.key.extract 0 D),I_ c.n,I_ c.m] _ G.o underlying61 rfl bC ?_) | (refine wpList_store_row bD 61 _ _ bD (w+1) #[pE pK c.verb,Dz (c.name.extract 0 B),I_ c.want,I_ c.at_,pI c.rule.allow,I_ c.rule.addr,I_ c.rule.bits,I_ c.rule.from_,I_ c.rule.to_,Dz (c.key.extract 0 D),I_ c.n,I_ c.m] bD bD 61 #[pE pK 0,Dz ⟨#[]⟩,I_ 0,I_ 0,pI false,I_ 0,I_ 0,I_ 0,I_ 0,Dz ⟨#[]⟩,I_ 0,I_ 0] HB1.o bC rfl aG ?_));refine bodyPost_ret (v:=pH #[pE pK c.verb,Dz (c.name.extract 0 B),I_ c.want,I_ c.at_,pI c.rule.allow,I_ c.rule.addr,I_ c.rule.bits,I_ c.rule.from_,I_ c.rule.to_,Dz (c.key.extract 0 D),I_ c.n,I_ c.m]) ?_ rfl ⟨rfl,HK0.o.own (Br w0 (w+1) _) bF⟩;exact results_cell_row rfl _ _ (w+1) 61 #[pE pK c.verb,Dz (c.name.extract 0 B),I_ c.want,I_ c.at_,pI c.rule.allow,I_ c.rule.addr,I_ c.rule.bits,I_ c.rule.from_,I_ c.rule.to_,Dz (c.key.extract 0 D),I_ c.n,I_ c.m] (0,0) _ rfl (HB1.o.row _) underlying61 rfl bC
end
end Go.Proofs.YtncebikgoleolaaGreatDoor
