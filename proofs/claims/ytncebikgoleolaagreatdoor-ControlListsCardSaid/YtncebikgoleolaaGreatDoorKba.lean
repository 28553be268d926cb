/- Steps. -/
import Derived.Test.YtncebikgoleolaaGreatDoorKat
import Derived.Test.YtncebikgoleolaaGreatDoorKav
import Derived.Test.YtncebikgoleolaaGreatDoorKay
import Derived.Deep.DeepCutAuto
import Derived.Deep.Slices
import Derived.Deep.Fields
import Derived.Lib.SmallJoins
set_option maxRecDepth 100000
set_option maxHeartbeats 8000000
set_option linter.all false
namespace Go.Proofs.YtncebikgoleolaaGreatDoor
open Go.Proofs.Tryz
open _root_.Go renaming undef→UD
open _root_.And renaming intro→Bl
open Builtin renaming append_→BI
open DataW renaming trod→AJ
open Ending renaming returned→pJ
open IntKind renaming i64→pK
open _root_.List renaming drop_eq_nil_of_le→AI,drop_zero→BC,getElem?_take→Dh,getElem_mem→pS,length_map→Bd,length_take→Ax,map_append→pO,mem_cons→Ac,mem_map→BO,mem_singleton→Ag,not_mem_nil→Ab,take_of_length_le→Ak
open _root_.Nat renaming add_zero→AT,le_refl→Aw,le_trans→A8,lt_of_lt_of_le→BS,lt_or_ge→pP,mul_one→pR,zero_add→AW,zero_le→Ba
open Oper renaming semAt_some→pN
open Value renaming agg→pH,bool→pI,int→pE,pointer→pG,slice→pF,string→Dz
open World renaming ownsRow_nil→BQ,setRow_alloc_new→pQ
section
open Go.RowKit Go.Shelf
attribute [local go_sem] pN Lr Ls Lp Lq
attribute [local go_sem ↓] wp_at_zero wp_at_succ
def Ka(j:Bq):Bq:={ j with line:=F0 j.line,reply:=F0 j.reply,req:={ j.req with who:=F0 j.req.who,com:=MS j.req.com } }
def Oq(a:IA):IA:=⟨F0 a.who,a.id,F0 a.text⟩
def IH(c:BN):BN:=⟨Jg c.ops,F9 c.reg,⟨Rk c.pool.l,c.pool.next⟩,[],[]⟩
def MU(c:BN):BN:={ IH c with jobs:=(c.jobs.take 6).map Ka,done:=(c.done.take 10).map Oq }
theorem VR{J w0 M w3 N w5 w7 B wS:World}{v:CV}{c:BN}{oa pa:Option Addr}{on oc gn un fn ln pn pc D:Nat}{F:B6}{pv:List SV}(ac:J.heap.size<=w0.heap.size)(hq:c.reg.seq=v.seq)(hx:c.pool.next=v.nx)
 (ho:IE w3 oa oc (Jg c.ops))(E:(Jg c.ops).length=on)(U:∀g o,oa=some (A_ g o)->M.heap.size<=g)(k3:Aa [] w3 B)(s3:w0.heap.size<=M.heap.size)
 (hr:CH w5 F (F9 c.reg))(hl:(F9 c.reg).slots.gens.length=gn/\(F9 c.reg).slots.used.length=un/\(F9 c.reg).slots.free.length=fn/\(F9 c.reg).l.length=ln)(hno:CL (fun y=>J.heap.size<=y/\y<N.heap.size) F (F9 c.reg))(k5:Aa [] w5 B)(s5:w0.heap.size<=N.heap.size)
 (hp:BP w7 pa pc pv ⟨Rk c.pool.l,v.nx⟩)(G:pv.length=pn)(k7:Aa [] w7 B)
 (T:Blk B D 36 Hh.k)(hkS:Aa [D] B wS)(X:w0.heap.size<=D)(ab:D<M.heap.size\/w3.heap.size<=D)(O:D<N.heap.size\/w5.heap.size<=D):
  Cg wS (⟨oa,on,oc,F,gn,un,fn,ln,v.seq,pa,pn,pc,pv,v.nx,none,0,0,none,0,0⟩:CV) (IH c)/\DU (fun y=>(J.heap.size<=y/\y<w0.heap.size)\/y=D) (⟨oa,on,oc,F,gn,un,fn,ln,v.seq,pa,pn,pc,pv,v.nx,none,0,0,none,0,0⟩:CV) (IH c):=by
 have hn:DU (fun y=>(J.heap.size<=y/\y<w0.heap.size)\/y=D) (⟨oa,on,oc,F,gn,un,fn,ln,v.seq,pa,pn,pc,pv,v.nx,none,0,0,none,0,0⟩:CV) (IH c):=by
  refine⟨fun h0 g o e hQ=>?_,?_,fun h0=>absurd h0 bA⟩
  ·have h1:=U g o e
   have h2:g<w3.heap.size:=by
    obtain⟨g',o',Y,h2,_⟩:=ho.at_ (by rw [E];exact h0);have e2:=(show oa=some (A_ g o) from e).symm.trans Y;cases e2;exact h2
   rcases hQ with hQ | hQ<;>omega
  ·refine CL.and2 (R:=fun y=>(J.heap.size<=y/\y<w0.heap.size)\/y=D) hno (hr.later (Q:=fun y=>w5.heap.size<=y) (fun _ hy=>hy)) ?_
   rintro y (hy | hy)
   ·exact .inl ⟨hy.1,by omega⟩
   ·subst hy;rcases O with h | h
    ·exact .inl ⟨by omega,h⟩
    ·exact .inr h
 have hm:Cg B (⟨oa,on,oc,F,gn,un,fn,ln,v.seq,pa,pn,pc,pv,v.nx,none,0,0,none,0,0⟩:CV) (IH c):=
  { o:=ho.keeps k3,on:=E,ol:=by rw [<- E];show((c.ops.take 12).map Rm).length<=1000;rw [Bd,Ax];omega,os:=fun o h=>by obtain⟨o',_,rfl⟩:=BO.1 h;exact A8 (VS 66 _) bZ,r:=hr.keeps k5,g:=hl.1,u:=hl.2.1,f:=hl.2.2.1,l:=hl.2.2.2,q:=hq,p:=by show BP B pa pc pv ⟨Rk c.pool.l,c.pool.next⟩;rw [hx];exact hp.keeps k7,pn:=G,pl:=by rw [<- G,hp.mt.len];show((c.pool.l.take 5).map OP).length<=1000;rw [Bd,Ax];omega,nx:=hx,j:=⟨Aw _,fun _=>rfl,fun h=>by cases h⟩,jn:=rfl,jl:=Ba _,js:=fun _ h=>(by cases h),d:=⟨Aw _,fun _=>rfl,fun h=>by cases h⟩,dn:=rfl,dl:=Ba _ }
 exact⟨hm.stay hn (fun h0=>absurd h0 bA) hkS (fun y hy=>.inr (Ag.1 hy)) (H9.blk T bE bE),hn⟩
attribute [local go_sem] gW gX cS
theorem cC(c:FW):(comA c).all (·.oneCell')=true:=by simp [comA,Value.oneCell']
theorem cV(j:Bq):∀i v,(comA j.req.com).toList[i]? = some v->(jobA j)[5+i]? = some v:=by
 intro i v h;have e:(comA j.req.com).toList=((jobA j).toList.drop 5).take 12:=rfl;rw [e,Dh] at h;split at h
 ·rw [List.getElem?_drop] at h
  rw [<- Array.getElem?_toList];exact h
 ·cases h
theorem Zq{α:Type}{enc:α->List Value}{n k:Nat}{wr:World}{B:Nat}{v:Value}{ys:List α}{t e:TypeId}(J:prog.underlying t=some (.slice e))(hi:D1 (prog.info? e) n=true)(h0:0<n)(hn:∀x,(enc x).length=n)(D:∀x,∀u∈enc x,u.oneCell'=true)(hk:ys.length=k)
 (hv:wr.ownsRow B e n v k (ys.flatMap enc))(G:B<=wr.heap.size)(x:α)(hm:k+1<=1000000)(F:TypeId){cs:Array Value}(he:(enc x).toArray=cs)(W:World)(E:Aa [] wr W):
  ∃g c W4,(BI #[t,t] F #[v,pF (some (A_ W 0)) 1 1]).run prog (W.alloc (.cells cs e)) = .ok (pF (some (A_ g 0)) (k+1) c) W4/\
   W4.ownsRow B e n (pF (some (A_ g 0)) (k+1) c) (k+1) ((ys++[x]).flatMap enc)/\Aa v.ownBlock.toList wr W4:=by
 subst hk he;exact Q5 J hi h0 hn D hv G x hm F W E
theorem Lo{P:Program}{ops:Array Oper}{rest:List Oper}{o:Oper}{a:Act}{w:World}{Q:Exit->Act->World->Prop}(hgd:o.guard=none)(ty:TypeId)(x y:Operand)(ho:o.op = .store ty x y)
 (b k:Nat)(cells:Array Value)(hx:a.eval x = p_ b k)(hy:a.eval y = .agg cells)(t:TypeId)(old new:Array Value)(hb:Blk w b t old)(hs:k+cells.size<=old.size)(hn:Ht old k cells.toList=new)
 (hi:(P.info? ty).map (·.size)=some cells.size)(h1:cells.all (·.oneCell')=true)(h:∀W',Blk W' b t new->Aa [b] w W'->wpList P ops Q rest (a.put o.dst UD) W'):wpList P ops Q (o::rest) a w:=
 wpList_store_mid hgd ty x y ho b k cells hx hy (Blk.there hb k cells.size hs) hi h1 (h _ (hn▸hb.puts _ _) (Bb b k _ w))
theorem VQ{D w w0 wd W:World}{B:CV}{c:BN}{M:Nat}{S:List Nat}{ja da:Option Addr}{jn jc dn dc:Nat}{js:List Bq}{ds:List IA}(h:Cg wd B (IH c))(hn:DU (fun y=>(D.heap.size<=y/\y<w0.heap.size)\/y=M) B (IH c))(hz:w.heap.size<=w0.heap.size)(hk:Aa S wd W)
 (hS:∀y∈S,(D.heap.size<=y/\y<w0.heap.size)\/y=M)(ho:H9 wd S)(N:w0.heap.size<=wd.heap.size)(hj:W.ownsRow wd 67 24 (pF ja jn jc) jn (js.flatMap encJob))(hjn:js.length=jn)(G:jn<=900)(hjs:∀j∈js,O9 j)
 (J:W.ownsRow wd 97 3 (pF da dn dc) dn (ds.flatMap Cu))(F:ds.length=dn)(E:dn<=900):
  Cg W { B with ja:=ja,jn:=jn,jc:=jc,da:=da,dn:=dn,dc:=dc } { IH c with jobs:=js,done:=ds }/\
   (DU (fun y=>D.heap.size<=y/\y<w.heap.size) { B with ja:=ja,jn:=jn,jc:=jc,da:=da,dn:=dn,dc:=dc } { IH c with jobs:=js,done:=ds }/\DW (fun y=>D.heap.size<=y/\y<w.heap.size) ja jn):=by
 subst hjn F;refine⟨{ on:=h.on,ol:=h.ol,os:=h.os,g:=h.g,u:=h.u,f:=h.f,l:=h.l,q:=h.q,pn:=h.pn,pl:=h.pl,nx:=h.nx,jn:=rfl,dn:=rfl,dl:=E,jl:=G,js:=hjs,o:=h.o.keepsN hk (fun h0 g o e hm=>hn.o (by rw [<- h.on];exact h0) g o e (hS g hm)),r:=h.r.stay hn.r hk hS,p:=h.p.off hk ho,d:=AR.row DL J,j:=AR.row Dc hj },⟨hn.o.mono (fun y hy=>.inl ⟨hy.1,by omega⟩),hn.r.mono (fun y hy=>.inl ⟨hy.1,by omega⟩),(DQ J).no gD⟩,(DQ hj).no gD⟩
theorem Hm(v:CV)(c:BN)(wA:World)(hA:GY wA v c)(w:World)(O:Aa [] wA w):
  Calls prog 7 #[pH (ctlA v)] w fun e w'=>∃v',e = pJ (pH (ctlA v'))/\Cg w' v' (MU c)/\(DU (fun y=>wA.heap.size<=y/\y<w.heap.size) v' (MU c)/\DW (fun y=>wA.heap.size<=y/\y<w.heap.size) v'.ja v'.jn)/\Aa [] w w':=by
 have ba:ctlA v=(C_ v):=rfl;rw [ba];have a0:Hi (∀W,Aa [] w W->Calls prog 18 #[pF v.oa v.on v.oc] W fun e w'=>∃a' n' c',e = pJ (.slice a' n' c')/\IE w' a' c' (Jg c.ops)/\(Jg c.ops).length=n'/\(∀g o,a'=some (A_ g o)->W.heap.size<=g)/\Aa [] W w'):=lH fun W hk=>Wb v.oa v.oc c.ops v.on hA.on hA.ol hA.os W (hA.o.keeps (O.trans hk));have ax:Hi (∀W,Aa [] w W->Calls prog 24 #[pH (R_ v.r v.gn v.un v.fn v.ln v.seq)] W fun e w'=>∃(v':B6) (g u f l:Nat),e = pJ (pH (R_ v' g u f l v.seq))/\CH w' v' (F9 c.reg)/\
   ((F9 c.reg).slots.gens.length=g/\(F9 c.reg).slots.used.length=u/\(F9 c.reg).slots.free.length=f/\(F9 c.reg).l.length=l)/\CL (fun y=>wA.heap.size<=y/\y<W.heap.size) v' (F9 c.reg)/\Aa [] W w'):=lH fun W hk=>VP v.r c.reg v.gn v.un v.fn v.ln hA.g hA.u hA.f hA.l hA.ll v.seq hA.q wA hA.r W (O.trans hk)
 have a4:Hi (∀W,Aa [] w W->Calls prog 25 #[pH #[pF v.pa v.pn v.pc,I_ v.nx]] W fun r w'=>∃a' n' c' V',r = pJ (pH #[.slice a' n' c',I_ v.nx])/\V'.length=n'/\BP w' a' c' V' ⟨Rk c.pool.l,v.nx⟩/\Aa [] W w'):=lH fun W hk=>YR v.pa v.pc v.pv c.pool.l v.pn hA.pn v.nx W (hA.p.keeps (O.trans hk));have H:=lH (hA.keeps O);have HQ:=lH hA.q;have HX:=lH hA.nx;have av:Hi (wA.heap.size<=w.heap.size):=lH O.size;clear hA O ba;obtain⟨w0,hw0⟩:=eX ((w.alloc (.cells (C_ v) 36)).alloc (.cells Hh.k 36));have HK0:Hi (Aa [] w w0):=lH lX;have hb0:Blk w0 w 36 (C_ v):=by rw [<- hw0];exact(Blk.new w _ _).alloc _
 have hb1:Blk w0 (w+1) 36 Hh.k:=by rw [<- hw0];exact Ar _ _ _ _ bA
 have HSZ:Hi (w0.heap.size=w.heap.size+2):=lH (by rw [<- hw0];simp);have b2:Hi (wA.heap.size<=w0.heap.size):=lH (by have:=av.o;have:=HSZ.o;omega);have q0:=hb0.rl;have HB0:=lH hb0;have HB1:=lH hb1;clear hb0 hb1;go_enter func7,ntmps7;go_wp2_with fail;clear hw0;go_cut [3] (fun x wd=>∃(B:Nat) (oa:Option Addr) (on oc:Nat) (rv:B6) (gn un fn ln:Nat) (pa:Option Addr) (pn pc:Nat) (pv:List SV),x = p_ B 0/\Hi (Blk wd B 36 (ctlA (⟨oa,on,oc,rv,gn,un,fn,ln,v.seq,pa,pn,pc,pv,v.nx,none,0,0,none,0,0⟩:CV)))/\Hi (Cg wd (⟨oa,on,oc,rv,gn,un,fn,ln,v.seq,pa,pn,pc,pv,v.nx,none,0,0,none,0,0⟩:CV) (IH c)/\DU (fun y=>(wA.heap.size<=y/\y<w0.heap.size)\/y=B) (⟨oa,on,oc,rv,gn,un,fn,ln,v.seq,pa,pn,pc,pv,v.nx,none,0,0,none,0,0⟩:CV) (IH c))/\Hi (Aa [] w0 wd)/\Hi (w0.heap.size<=B))
 case first=>
  refine wp_region_held_drew (S:=(Aa [] w0)) bC (by((try dsimp only);(repeat(with_reducible first | exact al | exact hk5' | exact ak | exact Aa.refl _ _ | refine Aa.drew ?_ | refine Aa.alloc ?_ _ | refine Aa.own ?_ hkS (fun y hy=>fC))))) (fun hHeld=>?_)
  repeat' (first | exact rZ | refine rX ?_ | ((first | (refine rA 2 (fun K hK=>?_) ?_;go_simp;(refine(a0.o _ (HK0.o.trans hHeld)).mono ?_;rintro e w3 ⟨oa,on,oc,rfl,bf,be,bd,hk3⟩;have ao:=lH (Bl bf (Bl be bd));clear bf be bd;have ak:=hHeld.trans hk3;have b7:=hHeld.size;have b9:=hk3.size;(try simp at b9))) | (refine rA 5 (fun K hK=>?_) ?_;go_simp;(refine(ax.o _ (HK0.o.trans hHeld)).mono ?_;rintro e w5 ⟨rv,gn,un,fn,ln,rfl,bj,bi,bl,hk5⟩;have aq:=lH (Bl bj (Bl bi bl));clear bj bi bl;have hk5':=hHeld.trans hk5;have b8:=hHeld.size;have ca:=hk5.size;(try simp at ca))) | (refine rA 8 (fun K hK=>?_) ?_;go_simp;(refine(a4.o _ (HK0.o.trans hHeld)).mono ?_;rintro e w7 ⟨pa,pn,pc,pv,rfl,bg,bh,hk7⟩;have a5:=lH (Bl bg bh);clear bg bh;have al:=hHeld.trans hk7;have hz7:=hk7.size;(try simp at hz7))) | (refine rA 10 (fun K hK=>?_) ?_;go_simp) | (refine rA 11 (fun K hK=>?_) ?_;(refine DT 36 _ _ bD _ (ctlA (⟨oa,on,oc,rv,gn,un,fn,ln,v.seq,pa,pn,pc,pv,v.nx,none,0,0,none,0,0⟩:CV)) bD bD 36 Hh.k ?_ rfl (AD _) (Bc _) ?_;(· (repeat(with_reducible first | exact Blk.new _ _ _ | exact Ar _ _ _ _ bA | refine Blk.alloc ?_ _ | refine Blk.drew ?_ | refine Blk.keeps ?_ hk7 bA | refine Blk.keeps ?_ hk5 bA | refine Blk.keeps ?_ hk3 bA)));intro wS HRB hkS)));(try clear rH);refine rP hK ((by((try dsimp only);(repeat(with_reducible first | exact al | exact hk5' | exact ak | exact Aa.refl _ _ | refine Aa.drew ?_ | refine Aa.alloc ?_ _ | refine Aa.own ?_ hkS (fun y hy=>fC)))))) fun rH hHeld=>?_;clear hK K) | (refine rK 0 ?_;refine rK 1 ?_;refine rK 3 ?_;refine rK 4 ?_;refine rK 6 ?_;refine rK 7 ?_) | (refine rK 9 ?_) | refine rB [2,5,8,10,11] ?_ | (refine wpAnyH_done bC ?_ _;(go_wp2_with fail;go_meet;exact⟨_,oa,on,oc,rv,gn,un,fn,ln,pa,pn,pc,pv,rfl,lH HRB,lH (VR b2.o HQ.o HX.o ao.o.1 ao.o.2.1 ao.o.2.2 nS b7 aq.o.1 aq.o.2.1 aq.o.2.2 nS b8 a5.o.2 a5.o.1 nS (by(repeat(with_reducible first | exact Blk.new _ _ _ | exact Ar _ _ _ _ bA | refine Blk.alloc ?_ _ | refine Blk.drew ?_ | refine Blk.keeps ?_ hk7 bA | refine Blk.keeps ?_ hk5 bA | refine Blk.keeps ?_ hk3 bA))) hkS gE (by first | (left;simp;done) | (left;simp;omega) | (right;simp;done) | (right;simp;omega) | (left;omega) | (right;omega)) (by first | (left;simp;done) | (left;simp;omega) | (right;simp;done) | (right;simp;omega) | (left;omega) | (right;omega))),lH hHeld,lH gE⟩)))
 case rest=>
  obtain⟨B,oa,on,oc,rv,gn,un,fn,ln,pa,pn,pc,pv,rfl,ap,an,HKD,bs⟩:=hcut
  rename World=>wd
  clear q0;obtain⟨U,ah⟩:=eX ((⟨oa,on,oc,rv,gn,un,fn,ln,v.seq,pa,pn,pc,pv,v.nx,none,0,0,none,0,0⟩:CV));have cn:Hi (U.ja=none/\U.jn=0/\U.jc=0/\U.da=none/\U.dn=0/\U.dc=0):=lH (by rw [<- ah];exact⟨rfl,rfl,rfl,rfl,rfl,rfl⟩);have aj:Hi (Blk wd B 36 (ctlA { U with ja:=none,jn:=0,jc:=0,da:=none,dn:=0,dc:=0 })):=lH (by rw [<- ah];exact ap.o);rw [ah] at an;have HKW:Hi (Aa [] w wd):=lH (HK0.o.trans HKD.o);have HOL:Hi (w.heap.size+2<=B/\B<wd.heap.size):=lH ⟨by have:=HSZ.o;have:=bs.o;omega,ap.o.lt⟩;have bt:Hi (wd.ownsRow wd 67 24 (pF none 0 0) 0 ([]:List Value)):=lH (BQ _ _ _ _);clear ah ap;go_wp2;go_loopw [4] (fun i wr=>∃(k:Nat) (ja:Option Addr) (jc:Nat),k<=v.jn/\k<=6/\i = I_ k/\Hi (Blk wr B 36 (ctlA { U with ja:=ja,jn:=k,jc:=jc,da:=none,dn:=0,dc:=0 }))/\Hi (wr.ownsRow wd 67 24 (pF ja k jc) k (((c.jobs.take k).map Ka).flatMap encJob))/\Hi (Aa [B] wd wr)) (fun i _=>6 - (intOf i).toNat)
  case atStart=>exact⟨0,none,0,Ba _,Ba _,rfl,aj,bt,lH (Aa.refl _ _)⟩
  case round=>
   obtain⟨k,ja,jc,b5,hk6,rfl,ae,HJR,HKR⟩:=hrel;have bv:Hi (Aa [] w wr):=lH (HKW.o.own HKR.o nV);have hb0:Blk wr w 36 (C_ v):=(HB0.o.keeps HKD.o bA).keeps HKR.o kK;have r0:=hb0.rl;by_cases hlt:k<v.jn/\k<6
   ·obtain⟨h1,h2⟩:=hlt
    have ab:k<c.jobs.length:=by rw [H.o.jn];exact h1
    obtain⟨X,off,x,ha,N,hx,hat⟩:=H.o.j.at_k (k:=k) ab;rw [ha] at r0;have ar:Hi (wr.rangeAt X (off+k*24) (jobA x).toList):=lH (JC (fun j u hj=>(bv.o.cell (p:=A_ X _) N bA).trans (hat j u hj)));have HTK:Hi ((c.jobs.take (k+1)).map Ka=(c.jobs.take k).map Ka++[Ka x]):=lH (by rw [A0 hx,pO];rfl);have i1:(0:Int)<=(k:Int):=bB;have i2:(k:Int)<(v.jn:Int):=bB;have i3:(k:Int)<6:=bB;have cm:Hi (B<wr.heap.size):=lH ae.o.lt;have bo:Hi (wd.heap.size<=wr.heap.size):=lH HKR.o.size;have HH:Hi (h1=h1):=lH rfl;clear ha N hx hat ab hb0 HH;go_upto_region 6 with(first | (refine Ay bD 67 _ bD X (off+k*24) bD (jobA x) _ ar.o underlying67 rfl (D2 x) ?_) | (refine wpList_store_row bD 67 _ _ bD wr (jobA x) bD bD 67 (jobA job0) (Blk.new wr _ _) (D2 _) rfl (Gp _) ?_;rw [pQ]))
    have hb1:=(Blk.new wr 67 (jobA x)).rl;go_wp2_with fail;refine(EU x.line _).mono ?_;rintro e w' ⟨rfl,rfl⟩;go_wp2_with fail;refine(EU x.reply _).mono ?_;rintro e w' ⟨rfl,rfl⟩;go_wp2_with fail;refine(EU x.req.who _).mono ?_;rintro e w' ⟨rfl,rfl⟩;go_upto_region 9 with fail
    obtain⟨x2,hx2⟩:∃x2:Bq,{ x with line:=F0 x.line,reply:=F0 x.reply,req:={ x.req with who:=F0 x.req.who } } = x2:=⟨_,rfl⟩;have e2:(((jobA x).setIfInBounds 2 (Dz (F0 x.line))).setIfInBounds 21 (Dz (F0 x.reply))).setIfInBounds 3 (Dz (F0 x.req.who))=jobA x2:=by rw [<- hx2];rfl
    rw [e2];obtain⟨w2,ai⟩:=eX (wr.alloc (.cells (jobA x2) 67));have hb2:Blk w2 wr 67 (jobA x2):=by rw [<- ai];exact Blk.new wr _ _
    have hk2:Aa [] wr w2:=by rw [<- ai];exact(Aa.refl [] wr).alloc _
    have hput:Ht (jobA x2) 5 (comA (MS x2.req.com)).toList=jobA (Ka x):=by rw [<- hx2];kernel_rfl
    rw [ai];have bq:=lH (Blk.rng hb2 5 _ (cV x2));have b0:=lH hput;have HB2:=lH hb2;have HK2:=lH hk2;clear r0 hb1 hb2 hk2 hput ai hx2 e2;go_wp2_with (refine Ay bD 61 _ bD wr 5 bD (comA x2.req.com) _ bq.o underlying61 rfl (Tn _) ?_);refine(Ts x2.req.com _).mono ?_;rintro e w3 ⟨rfl,hk3⟩;have bm:=lH (HB2.o.keeps hk3 bA);have bu:=lH (HK2.o.trans hk3);clear hk3;go_upto_region 10 with(refine Lo bD 61 _ _ bD wr 5 (comA (MS x2.req.com)) bD bD 67 (jobA x2) (jobA (Ka x)) bm.o (by show 5+12<=24;omega) b0.o (Tn _) (cC _) ?_;intro w4 hb4 hk4)
    obtain⟨z,hz⟩:=eX (Ka x);rw [hz] at hb4 HTK;have hkw:Aa [] wr w4:=bu.o.own hk4 QW;have o8:w4.cell? (A_ B 8)=some (pF ja k jc):=(ae.o.keeps hkw bA).cell 8;have br:=lH (Blk.rng hb4 0 (jobA z) (fun j v h=>by rw [AW];simpa using h));obtain⟨M,J,F,ac,T,hk5⟩:=Zq (enc:=encJob) (t:=33) underlying33 OK bE Dc Ir (by rw [Bd,Ax];have:=H.o.jn;omega) HJR.o bo.o z bB 33 (cs:=#[pE pK z.conn,I_ z.phase,Dz z.line,Dz z.req.who,I_ z.req.id,I_ z.req.com.verb,Dz z.req.com.name,I_ z.req.com.want,I_ z.req.com.at_,pI z.req.com.rule.allow,I_ z.req.com.rule.addr,I_ z.req.com.rule.bits,I_ z.req.com.rule.from_,I_ z.req.com.rule.to_,Dz z.req.com.key,I_ z.req.com.n,I_ z.req.com.m,I_ z.req.count,I_ z.req.cursor,I_ z.req.from_,I_ z.role,Dz z.reply,I_ z.slot,I_ z.gen]) rfl w4 hkw;have E:=AZ HJR.o;have D:=ae.o.keeps hk5 (fun hm=>by have:=E _ hm;have:=HOL.o;omega);have p8:F.cell? (A_ B 8)=some (pF ja k jc):=D.cell 8;have f8:=D.frozen 8;have HF:Hi (Blk (F.setCell (A_ B 8) (pF (some (A_ M 0)) (k+1) J)) B 36 (ctlA { U with ja:=some (A_ M 0),jn:=k+1,jc:=J,da:=none,dn:=0,dc:=0 })/\(F.setCell (A_ B 8) (pF (some (A_ M 0)) (k+1) J)).ownsRow wd 67 24 (pF (some (A_ M 0)) (k+1) J) (k+1) (((c.jobs.take (k+1)).map Ka).flatMap encJob)/\Aa [B] wd (F.setCell (A_ B 8) (pF (some (A_ M 0)) (k+1) J))):=lH (by
     have hk6:Aa [B] F (F.setCell (A_ B 8) (pF (some (A_ M 0)) (k+1) J)):=Ae _ _ _ _;refine⟨D.set_ 8 _,by rw [HTK.o];exact Ah T hk6 (fun g hg hm=>by have:=(T.lt g hg).1;have:=HOL.o;simp only [Ac,Ab,or_false] at hm;omega),(HKR.o.trans' hk5 (fun y hy=>.inr (E y hy))).trans hk6⟩)
    clear hb4 hk4 hkw T hk5 E D hz
    iterate 7 go_step
    refine Ay bD 67 _ bD wr 0 bD (jobA z) _ br.o underlying67 rfl (D2 _) ?_;rw [show jobA z=#[pE pK z.conn,I_ z.phase,Dz z.line,Dz z.req.who,I_ z.req.id,I_ z.req.com.verb,Dz z.req.com.name,I_ z.req.com.want,I_ z.req.com.at_,pI z.req.com.rule.allow,I_ z.req.com.rule.addr,I_ z.req.com.rule.bits,I_ z.req.com.rule.from_,I_ z.req.com.rule.to_,Dz z.req.com.key,I_ z.req.com.n,I_ z.req.com.m,I_ z.req.count,I_ z.req.cursor,I_ z.req.from_,I_ z.role,Dz z.reply,I_ z.slot,I_ z.gen] from rfl];go_wp2_with (at_builtin;refine Au _ rfl _ _ 33 rfl rfl rfl ac ?_);go_roundw;case rel=>exact⟨k+1,some (A_ M 0),J,by omega,by omega,by go_num,lH HF.o.1,lH HF.o.2.1,lH HF.o.2.2⟩
    case measure=>(simp [intOf];omega)
   ·have bx:Hi ((c.jobs.take 6).map Ka=(c.jobs.take k).map Ka):=lH (by
     have h1:=H.o.jn;rcases pP k 6 with h | h
     ·rw [Ak (by omega:c.jobs.length<=6),Ak (by omega:c.jobs.length<=k)]
     ·rw [show k=6 by omega])
    have hcase:((k:Int)<(v.jn:Int)/\¬(k:Int)<6)\/¬(k:Int)<(v.jn:Int):=bB;have a3:Hi (k<=v.jn/\k<=6):=lH ⟨b5,hk6⟩;have HD0:Hi (wr.ownsRow wd 97 3 (pF none 0 0) 0 ([]:List Value)):=lH (BQ _ _ _ _);clear hlt hb0;rcases hcase with⟨i2,i3⟩ | i2
    all_goals
     go_wp2_with fail;clear r0;go_loopw [6] (fun i w2=>∃(m:Nat) (da:Option Addr) (dc:Nat),m<=v.dn/\m<=10/\i = I_ m/\Hi (Blk w2 B 36 (ctlA { U with ja:=ja,jn:=k,jc:=jc,da:=da,dn:=m,dc:=dc }))/\Hi (w2.ownsRow wd 67 24 (pF ja k jc) k (((c.jobs.take k).map Ka).flatMap encJob))/\Hi (w2.ownsRow wd 97 3 (pF da m dc) m (((c.done.take m).map Oq).flatMap Cu))/\Hi (Aa [B] wd w2)) (fun i _=>10 - (intOf i).toNat)
     case atStart=>exact⟨0,none,0,Ba _,Ba _,rfl,ae,HJR,HD0,HKR⟩
     case round=>
      obtain⟨m,da,dc,cv,cj,rfl,aa,HJ2,Y,HK2⟩:=hrel;have G:Hi (Aa [] w wr):=lH (HKW.o.own HK2.o nV);have hb0:Blk wr w 36 (C_ v):=(HB0.o.keeps HKD.o bA).keeps HK2.o kK;have r9:wr.cell? (A_ w 9)=some (pF v.da v.dn v.dc):=hb0.cell 9;have cu:w.heap.size<wr.heap.size:=hb0.lt;by_cases hlt:m<v.dn/\m<10
      ·obtain⟨h1,h2⟩:=hlt
       have ab:m<c.done.length:=by rw [H.o.dn];exact h1
       obtain⟨X,off,x,ha,N,hx,hat⟩:=H.o.d.at_k (k:=m) ab;rw [ha] at r9;have q0:wr.cell? (A_ X (off+m*3))=_:=(G.o.cell (p:=A_ X _) N bA).trans (hat 0 _ rfl);have q1:wr.cell? (A_ X (off+m*3+1))=_:=(G.o.cell (p:=A_ X _) N bA).trans (hat 1 _ rfl);have q2:wr.cell? (A_ X (off+m*3+2))=_:=(G.o.cell (p:=A_ X _) N bA).trans (hat 2 _ rfl);have g9:=aa.o.frozen 9;have o9:wr.cell? (A_ B 9)=some (pF da m dc):=aa.o.cell 9;have HTK:Hi ((c.done.take (m+1)).map Oq=(c.done.take m).map Oq++[(⟨F0 x.who,x.id,F0 x.text⟩:IA)]):=lH (by rw [A0 hx,pO];rfl);have i4:(0:Int)<=(m:Int):=bB;have i5:(m:Int)<(v.dn:Int):=bB;have i6:(m:Int)<10:=bB;have E:=AZ Y.o;have ct:X<wr.heap.size:=BS N G.o.size;have n1:X∉(pF da m dc).ownBlock.toList:=fun hm=>by have:=E _ hm;have:=HOL.o;omega
       have n2:B∉(pF da m dc).ownBlock.toList:=fun hm=>by have:=E _ hm;have:=HOL.o;omega
       have n3:w.heap.size∉(pF da m dc).ownBlock.toList:=fun hm=>by have:=E _ hm;have:=HOL.o;omega
       have n4:B<wr.heap.size:=aa.o.lt;have b1:=lH (Zq (enc:=Cu) (t:=34) underlying34 Gx bE DL Kc (by rw [Bd,Ax];have:=H.o.dn;omega) Y.o (by have:=HK2.o.size;exact this) (⟨F0 x.who,x.id,F0 x.text⟩:IA) bB 34 (cs:=#[Dz (F0 x.who),I_ x.id,Dz (F0 x.text)]) rfl);have HF:Hi (∀M J F,F.ownsRow wd 97 3 (pF (some (A_ M 0)) (m+1) J) (m+1) (((c.done.take m).map Oq++[(⟨F0 x.who,x.id,F0 x.text⟩:IA)]).flatMap Cu)->Aa (pF da m dc).ownBlock.toList wr F->(F.cell? (A_ B 9)=some (pF da m dc)/\F.frozen? (A_ B 9)=false)/\Hi (Blk (F.setCell (A_ B 9) (pF (some (A_ M 0)) (m+1) J)) B 36 (ctlA { U with ja:=ja,jn:=k,jc:=jc,da:=some (A_ M 0),dn:=m+1,dc:=J })/\
         (F.setCell (A_ B 9) (pF (some (A_ M 0)) (m+1) J)).ownsRow wd 67 24 (pF ja k jc) k (((c.jobs.take k).map Ka).flatMap encJob)/\(F.setCell (A_ B 9) (pF (some (A_ M 0)) (m+1) J)).ownsRow wd 97 3 (pF (some (A_ M 0)) (m+1) J) (m+1) (((c.done.take (m+1)).map Oq).flatMap Cu)/\Aa [B] wd (F.setCell (A_ B 9) (pF (some (A_ M 0)) (m+1) J)))):=lH (fun M J F T hk5=>by
        have hk6:Aa [B] F (F.setCell (A_ B 9) (pF (some (A_ M 0)) (m+1) J)):=Ae _ _ _ _;have D:=aa.o.keeps hk5 n2;have hne:∀g,wd.heap.size<=g->g∉[B]:=fun g hg hm=>by have:=HOL.o;simp only [Ac,Ab,or_false] at hm;omega
        have bb:=Ah HJ2.o hk5 (fun g hg hm=>by
         obtain⟨cs,hb⟩:=DP Y.o (x:=g) bT;exact CX HJ2.o hb bE g hg rfl)
        exact⟨⟨D.cell 9,D.frozen 9⟩,lH ⟨D.set_ 9 _,Ah bb hk6 (fun g hg=>hne g (bb.lt g hg).1),by rw [HTK.o];exact Ah T hk6 (fun g hg=>hne g (T.lt g hg).1),(HK2.o.trans' hk5 (fun y hy=>.inr (E y hy))).trans hk6⟩⟩)
       clear ha N hx hat ab E hb0 i2;try clear i3
       go_wp2_with fail;refine C8 (b:=26) (S:=(Aa (pF da m dc).ownBlock.toList wr)) bC kJ (fun hHeld=>?_);refine tK 0 ?_;refine tK 1 ?_;refine tK 2 ?_;refine tK 3 ?_;refine tK 4 ?_;refine tK 5 ?_;refine tK 6 ?_;refine tK 7 ?_;refine tK 9 ?_;refine tK 10 ?_;refine tK 11 ?_;refine tK 12 ?_;refine tK 13 ?_;refine tK 14 ?_;refine tK 15 ?_;refine tK 16 ?_;refine tK 17 ?_;refine tK 18 ?_;refine tK 19 ?_;refine tK 20 ?_;refine tC 8 fun K hK=>?_;go_simp
       (refine(EU x.who _).mono ?_;rintro e w' ⟨rfl,rfl⟩)
       (try clear rH);refine tP hK kJ fun rH hHeld=>?_;clear hK K
       refine tC 21 fun K hK=>?_;go_simp
       (refine(EU x.text _).mono ?_;rintro e w' ⟨rfl,rfl⟩)
       (try clear rH);refine tP hK kJ fun rH hHeld=>?_;clear hK K
       refine tK 22 ?_;refine tC 23 fun K hK=>?_;go_simp
       (try clear rH);refine tP hK kJ fun rH hHeld=>?_;clear hK K
       refine tC 24 fun K hK=>?_
       (obtain⟨g4,c4,W4,ac,b6,hk4⟩:=b1.o _ ((Aa.refl [] wr).drew);refine BG _ _ 34 bD bD bD bD ac ?_;obtain⟨⟨p9,f9⟩,hF⟩:=HF.o g4 c4 W4 b6 hk4;have bz:=lH p9;have bp:=lH f9;clear p9 f9)
       (try clear rH);refine tP hK kJ fun rH hHeld=>?_;clear hK K
       refine tK 25 ?_;refine tS fun K hK=>?_
       ((have p9:=bz.o;have f9:=bp.o;go_simp))
       (try clear rH);(try clear hHeld);refine tT hK fun hHeld=>?_;clear hK K
       refine wpAnyH_done bC ?_ _
       (go_wp2_with fail;go_roundw;(case rel=>exact⟨m+1,some (A_ g4 0),c4,by omega,by omega,by go_num,lH hF.out.1,lH hF.out.2.1,lH hF.out.2.2.1,lH hF.out.2.2.2⟩);(case measure=>(simp [intOf];omega)))
      ·have bw:Hi ((c.done.take 10).map Oq=(c.done.take m).map Oq):=lH (by
        have h1:=H.o.dn;rcases pP m 10 with h | h
        ·rw [Ak (by omega:c.done.length<=10),Ak (by omega:c.done.length<=m)]
        ·rw [show m=10 by omega])
       have af:((m:Int)<(v.dn:Int)/\¬(m:Int)<10)\/¬(m:Int)<(v.dn:Int):=bB;obtain⟨v9,au⟩:∃v9:CV,{ U with ja:=ja,jn:=k,jc:=jc,da:=da,dn:=m,dc:=dc } = v9:=⟨_,rfl⟩;have a9:Blk wr B 36 (ctlA v9):=by rw [<- au];exact aa.o
       have hb1:Blk wr (w+1) 36 Hh.k:=(HB1.o.keeps HKD.o bA).keeps HK2.o kK;have ar:=lH (a9.rng 0 (ctlA v9) (fun j x hx=>by rw [AW];simpa using hx));have aw:=lH hb1;have ay:Hi (Cg (wr.setRow (w+1) (ctlA v9)) v9 (MU c)/\(DU (fun y=>wA.heap.size<=y/\y<w.heap.size) v9 (MU c)/\DW (fun y=>wA.heap.size<=y/\y<w.heap.size) v9.ja v9.jn)/\Aa [] w (wr.setRow (w+1) (ctlA v9))):=lH (by
        subst au;have ag:=Br wr (w+1) (ctlA { U with ja:=ja,jn:=k,jc:=jc,da:=da,dn:=m,dc:=dc });have hne:∀g,wd.heap.size<=g->g∉[w.heap.size+1]:=fun g hg hm=>by have:=HOL.o;simp only [Ac,Ab,or_false] at hm;omega
        have a7:=(HK2.o.mono (S':=[B,w.heap.size+1]) bA).trans (ag.mono (S':=[B,w.heap.size+1]) bA);have hoff:H9 wd [B,w.heap.size+1]:=fun y hy=>by
         rcases Ac.1 hy with rfl | hy
         ·exact H9.blk aj.o bE bE _ bA
         ·obtain rfl:=Ag.1 hy
          exact H9.blk (HB1.o.keeps HKD.o bA) bE bE _ bA
        have hE:=VQ (w:=w) (js:=(c.jobs.take k).map Ka) (ds:=(c.done.take m).map Oq) an.o.1 an.o.2 HK0.o.size a7 (fun y hy=>by
          rcases Ac.1 hy with rfl | hy
          ·exact .inr rfl
          ·obtain rfl:=Ag.1 hy
           exact .inl ⟨by have:=av.o;omega,by have:=HSZ.o;omega⟩) hoff HKD.o.size (Ah HJ2.o ag (fun g hg=>hne g (HJ2.o.lt g hg).1)) (by rw [Bd,Ax];have:=H.o.jn;have:=a3.o;omega) (by have:=a3.o;omega) (fun j hj=>by
          obtain⟨j',b4,rfl⟩:=BO.1 hj;obtain⟨a1,a2⟩:=H.o.js j' (List.mem_of_mem_take b4);exact⟨A8 (OQ _) bB,a1,a2⟩) (Ah Y.o ag (fun g hg=>hne g (Y.o.lt g hg).1)) (by rw [Bd,Ax];have:=H.o.dn;omega) bB
        have hK:MU c = { IH c with jobs:=(c.jobs.take k).map Ka,done:=(c.done.take m).map Oq }:=by unfold MU;rw [bx.o,bw.o]
        rw [hK];exact⟨hE.1,hE.2,G.o.own ag bF⟩)
       clear hlt hb0 hb1 a9 au i2;try clear i3
       rcases af with⟨i7,i8⟩ | i7
       all_goals
        go_wp2_with (first | (refine Ay bD 36 _ bD B 0 bD (ctlA v9) _ ar.o underlying36 rfl (AD v9) ?_) | (refine wpList_store_row bD 36 _ _ bD (w+1) (ctlA v9) bD bD 36 Hh.k aw.o (AD v9) rfl (Bc v9) ?_));refine bodyPost_ret (v:=pH (ctlA v9)) ?_ rfl ⟨v9,rfl,ay.o⟩;exact results_cell_row rfl _ _ (w+1) 36 (ctlA v9) (0,0) _ rfl (aw.o.row _) underlying36 rfl (AD v9)
end
section
open Go.RowKit Go.Shelf Go.WideShapes Go.ChangeShapes Go.ChangeAt Go.Deep
section
variable {H:Type} {enc:TypeId×Value->H} {W:World} {base:Nat} {spare:Nat->Bool} {held:Bool}
theorem kb:prog.cellsOf 4=1:=bC
theorem kR{fuel:Nat}{cs:List Value}{x:DataW H×List MemPlace}(h:AJ enc prog W base spare held fuel 4 cs=some x):∃b,cs=JM b/\True:=by
 obtain⟨s,e,_⟩:=DataW.trod_bool underlying4 h;exact⟨s,e,trivial⟩
theorem RY:prog.cellsOf 55=2:=bC
theorem WL{fuel:Nat}{cs:List Value}{x:DataW H×List MemPlace}(h:AJ enc prog W base spare held fuel 55 cs=some x):∃y:Int×Int,cs = [pE pK y.1,I_ y.2]/\True:=by
 have hl:=EH underlying55 RY h;obtain⟨_,_,h0⟩:=Az underlying55 0 rfl bE (ft:=3) (o:=0) (c:=1) rfl rfl ki h;obtain⟨F,D,J⟩:=Fg h0;have B:=Cb cs 0 1 1 rfl;rw [D] at B;obtain⟨_,_,h1⟩:=Az underlying55 1 rfl bE (ft:=3) (o:=1) (c:=1) rfl rfl ki h;obtain⟨G,e1,M⟩:=Fg h1;have g1:=Cb cs 1 1 2 rfl;rw [e1] at g1;have E:cs.drop 2 = []:=AI bB;rw [BC] at B;refine⟨(F,G),?_,trivial⟩;rw [B,g1,E];rfl
theorem UR:prog.cellsOf 57=2:=bC
theorem Zv{fuel:Nat}{cs:List Value}{x:DataW H×List MemPlace}(h:AJ enc prog W base spare held fuel 57 cs=some x):∃y:Int×Int,cs = [pE pK y.1,I_ y.2]/\True:=by
 have hl:=EH underlying57 UR h;obtain⟨_,_,h0⟩:=Az underlying57 0 rfl bE (ft:=3) (o:=0) (c:=1) rfl rfl ki h;obtain⟨F,D,J⟩:=Fg h0;have B:=Cb cs 0 1 1 rfl;rw [D] at B;obtain⟨_,_,h1⟩:=Az underlying57 1 rfl bE (ft:=3) (o:=1) (c:=1) rfl rfl ki h;obtain⟨G,e1,M⟩:=Fg h1;have g1:=Cb cs 1 1 2 rfl;rw [e1] at g1;have E:cs.drop 2 = []:=AI bB;rw [BC] at B;refine⟨(F,G),?_,trivial⟩;rw [B,g1,E];rfl
theorem Nq:prog.cellsOf 65=2:=bC
theorem Py{fuel:Nat}{cs:List Value}{x:DataW H×List MemPlace}(h:AJ enc prog W base spare held fuel 65 cs=some x):∃y:Int×Int,cs = [pE pK y.1,I_ y.2]/\True:=by
 have hl:=EH underlying65 Nq h;obtain⟨_,_,h0⟩:=Az underlying65 0 rfl bE (ft:=3) (o:=0) (c:=1) rfl rfl ki h;obtain⟨F,D,J⟩:=Fg h0;have B:=Cb cs 0 1 1 rfl;rw [D] at B;obtain⟨_,_,h1⟩:=Az underlying65 1 rfl bE (ft:=3) (o:=1) (c:=1) rfl rfl ki h;obtain⟨G,e1,M⟩:=Fg h1;have g1:=Cb cs 1 1 2 rfl;rw [e1] at g1;have E:cs.drop 2 = []:=AI bB;rw [BC] at B;refine⟨(F,G),?_,trivial⟩;rw [B,g1,E];rfl
theorem TJ:prog.cellsOf 59=5:=bC
theorem Vb{fuel:Nat}{cs:List Value}{x:DataW H×List MemPlace}(h:AJ enc prog W base spare held fuel 59 cs=some x):∃y:EX,cs=B8 y/\True:=by
 have hl:=EH underlying59 TJ h;obtain⟨_,_,h0⟩:=Az underlying59 0 rfl bE (ft:=4) (o:=0) (c:=1) rfl rfl kb h;obtain⟨N,G,O⟩:=kR h0;have B:=Cb cs 0 1 1 rfl;rw [G] at B;obtain⟨_,_,h1⟩:=Az underlying59 1 rfl bE (ft:=55) (o:=1) (c:=2) rfl rfl RY h;obtain⟨E,e1,T⟩:=WL h1;have g1:=Cb cs 1 2 3 rfl;rw [e1] at g1;obtain⟨_,_,h2⟩:=Az underlying59 2 rfl bE (ft:=57) (o:=3) (c:=2) rfl rfl UR h;obtain⟨F,J,U⟩:=Zv h2;have D:=Cb cs 3 2 5 rfl;rw [J] at D;have M:cs.drop 5 = []:=AI bB;rw [BC] at B;refine⟨⟨N,E.1,E.2,F.1,F.2⟩,?_,trivial⟩;rw [B,g1,D,M];rfl
theorem YG:prog.cellsOf 194=4:=bC
theorem dP{fuel:Nat}{cs:List Value}{x:DataW H×List MemPlace}(h:AJ enc prog W base spare held fuel 194 cs=some x):∃y:El,cs=BT y/\y.key.size<=maxLen:=by
 have hl:=EH underlying194 YG h;obtain⟨_,_,h0⟩:=Az underlying194 0 rfl bE (ft:=3) (o:=0) (c:=1) rfl rfl ki h;obtain⟨O,F,Y⟩:=Fg h0;have B:=Cb cs 0 1 1 rfl;rw [F] at B;obtain⟨_,_,h1⟩:=Az underlying194 1 rfl bE (ft:=9) (o:=1) (c:=1) rfl rfl ks h;obtain⟨T,e1,N⟩:=NG h1;have g1:=Cb cs 1 1 2 rfl;rw [e1] at g1;obtain⟨_,_,h2⟩:=Az underlying194 2 rfl bE (ft:=3) (o:=2) (c:=1) rfl rfl ki h;obtain⟨U,G,q2⟩:=Fg h2;have D:=Cb cs 2 1 3 rfl;rw [G] at D;obtain⟨_,_,h3⟩:=Az underlying194 3 rfl bE (ft:=3) (o:=3) (c:=1) rfl rfl ki h;obtain⟨X,J,q3⟩:=Fg h3;have E:=Cb cs 3 1 4 rfl;rw [J] at E;have M:cs.drop 4 = []:=AI bB;rw [BC] at B;refine⟨⟨O,T,U,X⟩,?_,N⟩;rw [B,g1,D,E,M];rfl
theorem YE:prog.cellsOf 97=3:=bC
theorem dN{fuel:Nat}{cs:List Value}{x:DataW H×List MemPlace}(h:AJ enc prog W base spare held fuel 97 cs=some x):∃y:IA,cs=Cu y/\True:=by
 have hl:=EH underlying97 YE h;obtain⟨_,_,h0⟩:=Az underlying97 0 rfl bE (ft:=9) (o:=0) (c:=1) rfl rfl ks h;obtain⟨J,E,O⟩:=NG h0;have B:=Cb cs 0 1 1 rfl;rw [E] at B;obtain⟨_,_,h1⟩:=Az underlying97 1 rfl bE (ft:=3) (o:=1) (c:=1) rfl rfl ki h;obtain⟨M,e1,T⟩:=Fg h1;have g1:=Cb cs 1 1 2 rfl;rw [e1] at g1;obtain⟨_,_,h2⟩:=Az underlying97 2 rfl bE (ft:=9) (o:=2) (c:=1) rfl rfl ks h;obtain⟨N,F,U⟩:=NG h2;have D:=Cb cs 2 1 3 rfl;rw [F] at D;have G:cs.drop 3 = []:=AI bB;rw [BC] at B;refine⟨⟨J,M,N⟩,?_,trivial⟩;rw [B,g1,D,G];rfl
theorem YF:prog.cellsOf 61=12:=bC
theorem dO{fuel:Nat}{cs:List Value}{x:DataW H×List MemPlace}(h:AJ enc prog W base spare held fuel 61 cs=some x):∃y:FW,cs=PY y/\-9223372036854775808<=y.at_/\y.at_<=9223372036854775807:=by
 have hl:=EH underlying61 YF h;obtain⟨_,_,h0⟩:=Az underlying61 0 rfl bE (ft:=3) (o:=0) (c:=1) rfl rfl ki h;obtain⟨y0,N,q0⟩:=Fg h0;have B:=Cb cs 0 1 1 rfl;rw [N] at B;obtain⟨_,_,h1⟩:=Az underlying61 1 rfl bE (ft:=9) (o:=1) (c:=1) rfl rfl ks h;obtain⟨y1,e1,q1⟩:=NG h1;have g1:=Cb cs 1 1 2 rfl;rw [e1] at g1;obtain⟨_,_,h2⟩:=Az underlying61 2 rfl bE (ft:=3) (o:=2) (c:=1) rfl rfl ki h;obtain⟨y2,O,q2⟩:=Fg h2;have D:=Cb cs 2 1 3 rfl;rw [O] at D;obtain⟨_,_,h3⟩:=Az underlying61 3 rfl bE (ft:=3) (o:=3) (c:=1) rfl rfl ki h;obtain⟨y3,T,q3⟩:=Fg h3;have E:=Cb cs 3 1 4 rfl;rw [T] at E;obtain⟨_,_,h4⟩:=Az underlying61 4 rfl bE (ft:=59) (o:=4) (c:=5) rfl rfl TJ h;obtain⟨y4,U,q4⟩:=Vb h4;have F:=Cb cs 4 5 9 rfl;rw [U] at F;obtain⟨_,_,h5⟩:=Az underlying61 5 rfl bE (ft:=9) (o:=9) (c:=1) rfl rfl ks h;obtain⟨y5,X,q5⟩:=NG h5;have G:=Cb cs 9 1 10 rfl;rw [X] at G;obtain⟨_,_,h6⟩:=Az underlying61 6 rfl bE (ft:=3) (o:=10) (c:=1) rfl rfl ki h;obtain⟨y6,Y,q6⟩:=Fg h6;have J:=Cb cs 10 1 11 rfl;rw [Y] at J;obtain⟨_,_,h7⟩:=Az underlying61 7 rfl bE (ft:=3) (o:=11) (c:=1) rfl rfl ki h;obtain⟨y7,e7,q7⟩:=Fg h7;have M:=Cb cs 11 1 12 rfl;rw [e7] at M;have gz:cs.drop 12 = []:=AI bB;rw [BC] at B;refine⟨⟨y0,y1,y2,y3,y4,y5,y6,y7⟩,?_,q3⟩;rw [B,g1,D,E,F,G,J,M,gz];rfl
theorem YK:prog.cellsOf 63=17:=bC
theorem dT{fuel:Nat}{cs:List Value}{x:DataW H×List MemPlace}(h:AJ enc prog W base spare held fuel 63 cs=some x):∃y:QK,cs=PZ y/\-9223372036854775808<=y.com.at_/\y.com.at_<=9223372036854775807:=by
 have hl:=EH underlying63 YK h;obtain⟨_,_,h0⟩:=Az underlying63 0 rfl bE (ft:=9) (o:=0) (c:=1) rfl rfl ks h;obtain⟨y0,J,q0⟩:=NG h0;have B:=Cb cs 0 1 1 rfl;rw [J] at B;obtain⟨_,_,h1⟩:=Az underlying63 1 rfl bE (ft:=3) (o:=1) (c:=1) rfl rfl ki h;obtain⟨y1,e1,q1⟩:=Fg h1;have g1:=Cb cs 1 1 2 rfl;rw [e1] at g1;obtain⟨_,_,h2⟩:=Az underlying63 2 rfl bE (ft:=61) (o:=2) (c:=12) rfl rfl YF h;obtain⟨y2,M,Y⟩:=dO h2;have D:=Cb cs 2 12 14 rfl;rw [M] at D;obtain⟨_,_,h3⟩:=Az underlying63 3 rfl bE (ft:=3) (o:=14) (c:=1) rfl rfl ki h;obtain⟨y3,N,q3⟩:=Fg h3;have E:=Cb cs 14 1 15 rfl;rw [N] at E;obtain⟨_,_,h4⟩:=Az underlying63 4 rfl bE (ft:=3) (o:=15) (c:=1) rfl rfl ki h;obtain⟨y4,O,q4⟩:=Fg h4;have F:=Cb cs 15 1 16 rfl;rw [O] at F;obtain⟨_,_,X⟩:=Az underlying63 5 rfl bE (ft:=3) (o:=16) (c:=1) rfl rfl ki h;obtain⟨y5,T,q5⟩:=Fg X;have G:=Cb cs 16 1 17 rfl;rw [T] at G;have U:cs.drop 17 = []:=AI bB;rw [BC] at B;refine⟨⟨y0,y1,y2,y3,y4,y5⟩,?_,Y⟩;rw [B,g1,D,E,F,G,U];rfl
theorem fG:prog.cellsOf 67=24:=bC
theorem iF{fuel:Nat}{cs:List Value}{x:DataW H×List MemPlace}(h:AJ enc prog W base spare held fuel 67 cs=some x):∃y:Bq,cs=encJob y/\-9223372036854775808<=y.req.com.at_/\y.req.com.at_<=9223372036854775807:=by
 have hl:=EH underlying67 fG h;obtain⟨_,_,h0⟩:=Az underlying67 0 rfl bE (ft:=3) (o:=0) (c:=1) rfl rfl ki h;obtain⟨y0,N,q0⟩:=Fg h0;have B:=Cb cs 0 1 1 rfl;rw [N] at B;obtain⟨_,_,h1⟩:=Az underlying67 1 rfl bE (ft:=3) (o:=1) (c:=1) rfl rfl ki h;obtain⟨y1,e1,q1⟩:=Fg h1;have g1:=Cb cs 1 1 2 rfl;rw [e1] at g1;obtain⟨_,_,h2⟩:=Az underlying67 2 rfl bE (ft:=9) (o:=2) (c:=1) rfl rfl ks h;obtain⟨y2,O,q2⟩:=NG h2;have D:=Cb cs 2 1 3 rfl;rw [O] at D;obtain⟨_,_,h3⟩:=Az underlying67 3 rfl bE (ft:=63) (o:=3) (c:=17) rfl rfl YK h;obtain⟨y3,T,q3⟩:=dT h3;have E:=Cb cs 3 17 20 rfl;rw [T] at E;obtain⟨_,_,h4⟩:=Az underlying67 4 rfl bE (ft:=3) (o:=20) (c:=1) rfl rfl ki h;obtain⟨y4,U,q4⟩:=Fg h4;have F:=Cb cs 20 1 21 rfl;rw [U] at F;obtain⟨_,_,h5⟩:=Az underlying67 5 rfl bE (ft:=9) (o:=21) (c:=1) rfl rfl ks h;obtain⟨y5,X,q5⟩:=NG h5;have G:=Cb cs 21 1 22 rfl;rw [X] at G;obtain⟨_,_,h6⟩:=Az underlying67 6 rfl bE (ft:=65) (o:=22) (c:=2) rfl rfl Nq h;obtain⟨M,Y,q6⟩:=Py h6;have J:=Cb cs 22 2 24 rfl;rw [Y] at J;have gz:cs.drop 24 = []:=AI bB;rw [BC] at B;refine⟨⟨y0,y1,y2,y3,y4,y5,M.1,M.2⟩,?_,q3⟩;rw [B,g1,D,E,F,G,J,gz];rfl
theorem YN:prog.cellsOf 23=1:=bC
theorem Vc{fuel:Nat}{cs:List Value}{x:DataW H×List MemPlace}(h:AJ enc prog W base spare held fuel 23 cs=some x):
  ∃y:Option Addr×List Int×Nat,cs = [pF y.1 y.2.1.length y.2.2]/\AR Fb 1 W y.1 y.2.2 y.2.1/\y.2.1.length<=9223372036854775807/\∀z∈y.2.1,(-9223372036854775808<=z/\z<=9223372036854775807):=by
 obtain⟨a,B,c,e,hs,hl,hz⟩:=ES (α:=Int) (en:=Fb) (ok:=fun z=>(-9223372036854775808<=z/\z<=9223372036854775807)) underlying23 ki bE Eu (fun fuel cs x h=>Fg h) h;exact⟨(a,B,c),e,hs,hl,hz⟩
theorem cZ:prog.cellsOf 24=1:=bC
theorem Zy{fuel:Nat}{cs:List Value}{x:DataW H×List MemPlace}(h:AJ enc prog W base spare held fuel 24 cs=some x):
  ∃y:Option Addr×List Bool×Nat,cs = [pF y.1 y.2.1.length y.2.2]/\AR JM 1 W y.1 y.2.2 y.2.1/\y.2.1.length<=9223372036854775807/\∀z∈y.2.1,True:=by
 obtain⟨a,B,c,e,hs,hl,hz⟩:=ES (α:=Bool) (en:=JM) (ok:=fun z=>True) underlying24 kb bE KG (fun fuel cs x h=>kR h) h;exact⟨(a,B,c),e,hs,hl,hz⟩
theorem gZ:prog.cellsOf 41=1:=bC
theorem dX{fuel:Nat}{cs:List Value}{x:DataW H×List MemPlace}(h:AJ enc prog W base spare held fuel 41 cs=some x):
  ∃y:Option Addr×List ByteArray×Nat,cs = [pF y.1 y.2.1.length y.2.2]/\AR Fd 1 W y.1 y.2.2 y.2.1/\y.2.1.length<=9223372036854775807/\∀z∈y.2.1,z.size<=maxLen:=by
 obtain⟨a,B,c,e,hs,hl,hz⟩:=ES (α:=ByteArray) (en:=Fd) (ok:=fun z=>z.size<=maxLen) underlying41 ks bE DY (fun fuel cs x h=>NG h) h;exact⟨(a,B,c),e,hs,hl,hz⟩
theorem dC:prog.cellsOf 109=1:=bC
theorem Z1{fuel:Nat}{cs:List Value}{x:DataW H×List MemPlace}(h:AJ enc prog W base spare held fuel 109 cs=some x):
  ∃y:Option Addr×List EX×Nat,cs = [pF y.1 y.2.1.length y.2.2]/\AR B8 5 W y.1 y.2.2 y.2.1/\y.2.1.length<=9223372036854775807/\∀z∈y.2.1,True:=by
 obtain⟨a,B,c,e,hs,hl,hz⟩:=ES (α:=EX) (en:=B8) (ok:=fun z=>True) underlying109 TJ bE Cv (fun fuel cs x h=>Vb h) h;exact⟨(a,B,c),e,hs,hl,hz⟩
theorem dA:prog.cellsOf 110=1:=bC
theorem Zz{fuel:Nat}{cs:List Value}{x:DataW H×List MemPlace}(h:AJ enc prog W base spare held fuel 110 cs=some x):
  ∃y:Option Addr×List El×Nat,cs = [pF y.1 y.2.1.length y.2.2]/\AR BT 4 W y.1 y.2.2 y.2.1/\y.2.1.length<=9223372036854775807/\∀z∈y.2.1,z.key.size<=maxLen:=by
 obtain⟨a,B,c,e,hs,hl,hz⟩:=ES (α:=El) (en:=BT) (ok:=fun z=>z.key.size<=maxLen) underlying110 YG bE D0 (fun fuel cs x h=>dP h) h;exact⟨(a,B,c),e,hs,hl,hz⟩
theorem dB:prog.cellsOf 22=1:=bC
theorem cY:prog.cellsOf 34=1:=bC
theorem Zx{fuel:Nat}{cs:List Value}{x:DataW H×List MemPlace}(h:AJ enc prog W base spare held fuel 34 cs=some x):
  ∃y:Option Addr×List IA×Nat,cs = [pF y.1 y.2.1.length y.2.2]/\AR Cu 3 W y.1 y.2.2 y.2.1/\y.2.1.length<=9223372036854775807/\∀z∈y.2.1,True:=by
 obtain⟨a,B,c,e,hs,hl,hz⟩:=ES (α:=IA) (en:=Cu) (ok:=fun z=>True) underlying34 YE bE DL (fun fuel cs x h=>dN h) h;exact⟨(a,B,c),e,hs,hl,hz⟩
theorem gY:prog.cellsOf 33=1:=bC
theorem dW{fuel:Nat}{cs:List Value}{x:DataW H×List MemPlace}(h:AJ enc prog W base spare held fuel 33 cs=some x):
  ∃y:Option Addr×List Bq×Nat,cs = [pF y.1 y.2.1.length y.2.2]/\AR encJob 24 W y.1 y.2.2 y.2.1/\y.2.1.length<=9223372036854775807/\∀z∈y.2.1,(-9223372036854775808<=z.req.com.at_/\z.req.com.at_<=9223372036854775807):=by
 obtain⟨a,B,c,e,hs,hl,hz⟩:=ES (α:=Bq) (en:=encJob) (ok:=fun z=>(-9223372036854775808<=z.req.com.at_/\z.req.com.at_<=9223372036854775807)) underlying33 fG bE Dc (fun fuel cs x h=>iF h) h;exact⟨(a,B,c),e,hs,hl,hz⟩
theorem YM:prog.cellsOf 112=8:=bC
theorem dV{fuel:Nat}{cs:List Value}{x:DataW H×List MemPlace}(h:AJ enc prog W base spare held fuel 112 cs=some x):∃y:TV×Ten,cs=BE y.1/\(Cj W y.1 y.2/\y.2.name.size<=maxLen/\y.2.rules.length<=9223372036854775807/\y.2.creds.length<=9223372036854775807/\∀c∈y.2.creds,c.key.size<=maxLen):=by
 have hl:=EH underlying112 YM h;obtain⟨_,_,h0⟩:=Az underlying112 0 rfl bE (ft:=65) (o:=0) (c:=2) rfl rfl Nq h;obtain⟨B,e0,q0⟩:=Py h0;have F:=Cb cs 0 2 2 rfl;rw [e0] at F;obtain⟨_,_,h1⟩:=Az underlying112 1 rfl bE (ft:=9) (o:=2) (c:=1) rfl rfl ks h;obtain⟨X,e1,q1⟩:=NG h1;have g1:=Cb cs 2 1 3 rfl;rw [e1] at g1;obtain⟨_,_,h2⟩:=Az underlying112 2 rfl bE (ft:=3) (o:=3) (c:=1) rfl rfl ki h;obtain⟨Y,e2,q2⟩:=Fg h2;have J:=Cb cs 3 1 4 rfl;rw [e2] at J;obtain⟨_,_,h3⟩:=Az underlying112 3 rfl bE (ft:=3) (o:=4) (c:=1) rfl rfl ki h;obtain⟨y3,e3,q3⟩:=Fg h3;have M:=Cb cs 4 1 5 rfl;rw [e3] at M;obtain⟨_,_,h4⟩:=Az underlying112 4 rfl bE (ft:=109) (o:=5) (c:=1) rfl rfl dC h;obtain⟨D,e4,U⟩:=Z1 h4;have N:=Cb cs 5 1 6 rfl;rw [e4] at N;obtain⟨_,_,h5⟩:=Az underlying112 5 rfl bE (ft:=110) (o:=6) (c:=1) rfl rfl dA h;obtain⟨E,e5,G⟩:=Zz h5;have O:=Cb cs 6 1 7 rfl;rw [e5] at O;obtain⟨_,_,h6⟩:=Az underlying112 6 rfl bE (ft:=3) (o:=7) (c:=1) rfl rfl ki h;obtain⟨y6,e6,q6⟩:=Fg h6;have T:=Cb cs 7 1 8 rfl;rw [e6] at T;have gz:cs.drop 8 = []:=AI bB;rw [BC] at F;refine⟨(⟨B.1,B.2,X,Y,y3,D.1,D.2.1.length,D.2.2,E.1,E.2.1.length,E.2.2,y6⟩,⟨B.1,B.2,X,Y,y3,D.2.1,E.2.1,y6⟩),?_,⟨⟨rfl,rfl,rfl,rfl,rfl,rfl,rfl,rfl,U.1,G.1⟩,q1,U.2.1,G.2.1,G.2.2⟩⟩;rw [F,g1,J,M,N,O,T,gz];rfl
theorem hH:prog.cellsOf 27=1:=bC
theorem dY{fuel:Nat}{cs:List Value}{x:DataW H×List MemPlace}(h:AJ enc prog W base spare held fuel 27 cs=some x):
  ∃y:Option Addr×List (TV×Ten)×Nat,cs = [pF y.1 y.2.1.length y.2.2]/\AR (fun y:TV×Ten=>BE y.1) 8 W y.1 y.2.2 y.2.1/\y.2.1.length<=9223372036854775807/\∀z∈y.2.1,(Cj W z.1 z.2/\z.2.name.size<=maxLen/\z.2.rules.length<=9223372036854775807/\z.2.creds.length<=9223372036854775807/\∀c∈z.2.creds,c.key.size<=maxLen):=by
 obtain⟨a,B,c,e,hs,hl,hz⟩:=ES (α:=(TV×Ten)) (en:=(fun y:TV×Ten=>BE y.1)) (ok:=fun z=>(Cj W z.1 z.2/\z.2.name.size<=maxLen/\z.2.rules.length<=9223372036854775807/\z.2.creds.length<=9223372036854775807/\∀c∈z.2.creds,c.key.size<=maxLen)) underlying27 YM bE (fun y=>CF y.1) (fun fuel cs x h=>dV h) h;exact⟨(a,B,c),e,hs,hl,hz⟩
theorem eR{a:Option Addr}{c:Nat}{xs:List ByteArray}(h:AR Fd 1 W a c xs)(hl:xs.length<=9223372036854775807)(hz:∀z∈xs,z.size<=maxLen):J5 W a xs:=
 ⟨hz,hl,fun h0=>by
  obtain⟨g,off,ha,hg,hat⟩:=h.at_ h0;exact⟨g,off,ha,hg,fun i hi=>by
   have:=hat i hi 0 _ rfl
   rwa [pR,AT] at this⟩⟩
theorem YL:prog.cellsOf 43=3:=bC
theorem dU{fuel:Nat}{cs:List Value}{x:DataW H×List MemPlace}(h:AJ enc prog W base spare held fuel 43 cs=some x):∃y:SV×Sn,cs=y.1.cells/\X5 W y.1 y.2:=by
 have hl:=EH underlying43 YL h;obtain⟨_,_,h0⟩:=Az underlying43 0 rfl bE (ft:=3) (o:=0) (c:=1) rfl rfl ki h;obtain⟨G,M,T⟩:=Fg h0;have D:=Cb cs 0 1 1 rfl;rw [M] at D;obtain⟨_,_,h1⟩:=Az underlying43 1 rfl bE (ft:=41) (o:=1) (c:=1) rfl rfl gZ h;obtain⟨B,e1,E⟩:=dX h1;have g1:=Cb cs 1 1 2 rfl;rw [e1] at g1;obtain⟨_,_,h2⟩:=Az underlying43 2 rfl bE (ft:=3) (o:=2) (c:=1) rfl rfl ki h;obtain⟨J,N,U⟩:=Fg h2;have F:=Cb cs 2 1 3 rfl;rw [N] at F;have O:cs.drop 3 = []:=AI bB;rw [BC] at D;refine⟨(⟨G,B.1,B.2.1.length,B.2.2,J⟩,⟨G,B.2.1,J⟩),?_,⟨rfl,rfl,rfl,eR E.1 E.2.1 E.2.2⟩⟩;rw [D,g1,F,O];rfl
theorem dD:prog.cellsOf 30=1:=bC
theorem Z2{fuel:Nat}{cs:List Value}{x:DataW H×List MemPlace}(h:AJ enc prog W base spare held fuel 30 cs=some x):
  ∃y:Option Addr×List (SV×Sn)×Nat,cs = [pF y.1 y.2.1.length y.2.2]/\AR (fun y:SV×Sn=>y.1.cells) 3 W y.1 y.2.2 y.2.1/\y.2.1.length<=9223372036854775807/\∀z∈y.2.1,X5 W z.1 z.2:=by
 obtain⟨a,B,c,e,hs,hl,hz⟩:=ES (α:=(SV×Sn)) (en:=(fun y:SV×Sn=>y.1.cells)) (ok:=fun z=>X5 W z.1 z.2) underlying30 YL bE (fun _=>rfl) (fun fuel cs x h=>dU h) h;exact⟨(a,B,c),e,hs,hl,hz⟩
theorem dM{a:Option Addr}{c:Nat}{xs:List (SV×Sn)}(h:AR (fun y:SV×Sn=>y.1.cells) 3 W a c xs)(hl:xs.length<=9223372036854775807)(hz:∀z∈xs,X5 W z.1 z.2):Ib W a (xs.map (·.1)) (xs.map (·.2)):=
 ⟨by simpa using hl,fun hn=>by
  have h0:0<xs.length:=by cases xs with
   | nil=>exact absurd rfl hn
   | cons _ _=>simp
  obtain⟨g,off,D,hg,hat⟩:=h.at_ h0;refine⟨g,off,D,hg,fun i hi=>?_⟩;have B:i<xs.length:=by simpa using hi
  simp only [List.getElem_map];exact⟨hat i B 0 _ rfl,hat i B 1 _ rfl,hat i B 2 _ rfl⟩,by simp,fun i h1 h2=>by
  have B:i<xs.length:=bR;simp only [List.getElem_map];exact hz _ (pS B)⟩
theorem fH:∀ {xs:List (TV×Ten)},(∀z∈xs,Cj W z.1 z.2)->AX W (xs.map (·.1)) (xs.map (·.2))
 | [],_=>trivial
 | x::l,h=>⟨h x bA,fH fun z hz=>h z (by simp [hz])⟩
theorem US:prog.cellsOf 26=3:=bC
theorem Zw{fuel:Nat}{cs:List Value}{x:DataW H×List MemPlace}(h:AJ enc prog W base spare held fuel 26 cs=some x):∃y:DF×Fz,cs = [pF y.1.ga y.2.gens.length y.1.gc,pF y.1.ua y.2.used.length y.1.uc,pF y.1.fa y.2.free.length y.1.fc]/\(F1 W y.1.ga y.1.gc y.2.gens/\GX W y.1.ua y.1.uc y.2.used/\F1 W y.1.fa y.1.fc y.2.free):=by
 have hl:=EH underlying26 US h;obtain⟨_,_,h0⟩:=Az underlying26 0 rfl bE (ft:=23) (o:=0) (c:=1) rfl rfl YN h;obtain⟨D,J,O⟩:=Vc h0;have B:=Cb cs 0 1 1 rfl;rw [J] at B;obtain⟨_,_,h1⟩:=Az underlying26 1 rfl bE (ft:=24) (o:=1) (c:=1) rfl rfl cZ h;obtain⟨E,e1,T⟩:=Zy h1;have g1:=Cb cs 1 1 2 rfl;rw [e1] at g1;obtain⟨_,_,h2⟩:=Az underlying26 2 rfl bE (ft:=23) (o:=2) (c:=1) rfl rfl YN h;obtain⟨F,M,U⟩:=Vc h2;have G:=Cb cs 2 1 3 rfl;rw [M] at G;have N:cs.drop 3 = []:=AI bB;rw [BC] at B;refine⟨(⟨D.1,D.2.2,E.1,E.2.2,F.1,F.2.2⟩,⟨D.2.1,E.2.1,F.2.1⟩),?_,⟨O.1,T.1,U.1⟩⟩;rw [B,g1,G,N];rfl
theorem YJ:prog.cellsOf 29=5:=bC
theorem dS{fuel:Nat}{cs:List Value}{x:DataW H×List MemPlace}(h:AJ enc prog W base spare held fuel 29 cs=some x):∃y:B6×CJ,cs = [pF y.1.s.ga y.2.slots.gens.length y.1.s.gc,pF y.1.s.ua y.2.slots.used.length y.1.s.uc,pF y.1.s.fa y.2.slots.free.length y.1.s.fc,pF y.1.la y.1.lv.length y.1.lc,I_ y.2.seq]/\(Lw W y.1 y.2/\y.1.lv.length<=9223372036854775807):=by
 have hl:=EH underlying29 YJ h;obtain⟨_,_,h0⟩:=Az underlying29 0 rfl bE (ft:=26) (o:=0) (c:=3) rfl rfl US h;obtain⟨J,M,F⟩:=Zw h0;have E:=Cb cs 0 3 3 rfl;rw [M] at E;obtain⟨_,_,h1⟩:=Az underlying29 1 rfl bE (ft:=27) (o:=3) (c:=1) rfl rfl hH h;obtain⟨D,e1,B⟩:=dY h1;have g1:=Cb cs 3 1 4 rfl;rw [e1] at g1;obtain⟨_,_,h2⟩:=Az underlying29 2 rfl bE (ft:=3) (o:=4) (c:=1) rfl rfl ki h;obtain⟨U,N,X⟩:=Fg h2;have G:=Cb cs 4 1 5 rfl;rw [N] at G;have O:cs.drop 5 = []:=AI bB;rw [BC] at E;refine⟨(⟨J.1,D.1,D.2.2,D.2.1.map (·.1)⟩,⟨J.2,D.2.1.map (·.2),U⟩),?_,⟨⟨F.1,F.2.1,F.2.2,AR.map (α:=TV×Ten) (enc:=BE) (fun z=>z.1) B.1,fH fun z hz=>(B.2.2 z hz).1,fun t T=>by
  obtain⟨z,hz,rfl⟩:=BO.1 T;exact(B.2.2 z hz).2⟩,by simpa using B.2.1⟩⟩
 rw [E,g1,G,O];simp [Fb]
theorem YI:prog.cellsOf 32=2:=bC
theorem dR{fuel:Nat}{cs:List Value}{x:DataW H×List MemPlace}(h:AJ enc prog W base spare held fuel 32 cs=some x):∃y:(Option Addr×List (SV×Sn)×Nat)×Int,cs = [pF y.1.1 y.1.2.1.length y.1.2.2,I_ y.2]/\(Ib W y.1.1 (y.1.2.1.map (·.1)) (y.1.2.1.map (·.2))):=by
 have hl:=EH underlying32 YI h;obtain⟨_,_,h0⟩:=Az underlying32 0 rfl bE (ft:=30) (o:=0) (c:=1) rfl rfl dD h;obtain⟨G,E,D⟩:=Z2 h0;have B:=Cb cs 0 1 1 rfl;rw [E] at B;obtain⟨_,_,h1⟩:=Az underlying32 1 rfl bE (ft:=3) (o:=1) (c:=1) rfl rfl ki h;obtain⟨J,e1,M⟩:=Fg h1;have g1:=Cb cs 1 1 2 rfl;rw [e1] at g1;have F:cs.drop 2 = []:=AI bB;rw [BC] at B;refine⟨(G,J),?_,dM D.1 D.2.1 D.2.2⟩;rw [B,g1,F];rfl
theorem kQ:prog.cellsOf 36=10:=bC
theorem Jp{v:Value}{d:DataW H}{p:List MemPlace}(hv:Value.okWide prog W .any 0 36 v)(h:DataW.Trod enc prog W base spare held 36 v d p):∃(u:CV) (c:BN),v = pH (ctlA u)/\GY W u c:=by
 obtain⟨B,rfl,_⟩:=okWide_struct underlying36 hv;obtain⟨fuel,h⟩:=h;obtain⟨cs,D⟩:=eX ((pH B).cells.toList);rw [D] at h;have hl:=EH underlying36 kQ h;obtain⟨_,_,h0⟩:=Az underlying36 0 rfl bE (ft:=22) (o:=0) (c:=1) rfl rfl dB h;obtain⟨G,e0,O⟩:=Z0 h0;have N:=Cb cs 0 1 1 rfl;rw [e0] at N;obtain⟨_,_,h1⟩:=Az underlying36 1 rfl bE (ft:=29) (o:=1) (c:=5) rfl rfl YJ h;obtain⟨E,e1,q1⟩:=dS h1;have g1:=Cb cs 1 5 6 rfl;rw [e1] at g1;obtain⟨_,_,h2⟩:=Az underlying36 2 rfl bE (ft:=32) (o:=6) (c:=2) rfl rfl YI h;obtain⟨F,e2,q2⟩:=dR h2;have U:=Cb cs 6 2 8 rfl;rw [e2] at U;obtain⟨_,_,h3⟩:=Az underlying36 3 rfl bE (ft:=33) (o:=8) (c:=1) rfl rfl gY h;obtain⟨J,e3,T⟩:=dW h3;have X:=Cb cs 8 1 9 rfl;rw [e3] at X;obtain⟨_,_,h4⟩:=Az underlying36 4 rfl bE (ft:=34) (o:=9) (c:=1) rfl rfl cY h;obtain⟨M,e4,q4⟩:=Zx h4;have Y:=Cb cs 9 1 10 rfl;rw [e4] at Y;have gz:cs.drop 10 = []:=AI bB;rw [BC] at N;refine⟨⟨G.1,G.2.1.length,G.2.2,E.1,E.2.slots.gens.length,E.2.slots.used.length,E.2.slots.free.length,E.1.lv.length,E.2.seq,F.1.1,F.1.2.1.length,F.1.2.2,F.1.2.1.map (·.1),F.2,J.1,J.2.1.length,J.2.2,M.1,M.2.1.length,M.2.2⟩,⟨G.2.1,E.2,⟨F.1.2.1.map (·.2),F.2⟩,J.2.1,M.2.1⟩,?_,?_⟩
 ·rw [N,g1,U,X,Y,gz] at D
  refine congrArg pH ?_;show B=_;obtain⟨l⟩:=B;rw [show l=_ from D];rfl
 ·exact { o:=O.1,on:=rfl,ol:=O.2.1,os:=O.2.2,r:=q1.1,g:=rfl,u:=rfl,f:=rfl,l:=rfl,ll:=q1.2,q:=rfl,p:=q2,pn:=by simp,nx:=rfl,j:=T.1,jn:=rfl,jl:=T.2.1,js:=T.2.2,d:=q4.1,dn:=rfl,dl:=q4.2.1 }
end
end
end Go.Proofs.YtncebikgoleolaaGreatDoor
