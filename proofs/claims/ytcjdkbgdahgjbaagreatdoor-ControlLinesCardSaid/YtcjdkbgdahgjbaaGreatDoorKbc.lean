/- Steps of the proof: CtlP, CtlM, CtlQ, CtlW, CtlA, CtlT, CtlB, CtU. -/
import Derived.Test.YtcjdkbgdahgjbaaGreatDoorK0
import Derived.Test.YtcjdkbgdahgjbaaGreatDoorKak
import Derived.Test.YtcjdkbgdahgjbaaGreatDoorKaz
import Derived.Test.YtcjdkbgdahgjbaaGreatDoorKbb
import Derived.Lib.AtoiAll
import Derived.Lib.ItoaNum
set_option maxRecDepth 100000
set_option maxHeartbeats 8000000
set_option linter.all false
namespace Go.Proofs.YtcjdkbgdahgjbaaGreatDoor
open _root_.Array renaming length_toList→BL
open _root_.Bool renaming and_eq_true→Af
open _root_.Classical renaming not_not→B3
open IntKind renaming i64→dN
open _root_.List renaming all_eq_true→BB,cons_append→A6,getD_eq_getElem?_getD→AE,getElem?_eq_getElem→Au,getElem?_eq_some_iff→Ad,length_map→BX,mem_append→AF,mem_cons_of_mem→Ci,mem_cons_self→Bf,mem_cons→Ac,mem_map→Ee,mem_of_getElem?→Ex,nil_append→AX,not_mem_nil→Ab
open Value renaming bool→dL,int→dH,slice→dI,string→CZ
section
open Go
def str(l:List UInt8):ByteArray:=⟨l.toArray⟩
def Nv:Nat→Nat→List UInt8
 | 0,_=>[]
 | k+1,u=>if u<10 then [UInt8.ofNat (48+u)] else Nv k (u / 10)++[UInt8.ofNat (48+u % 10)]
theorem Nw:∀(k u:Nat),u<10 ^ k→0<k→Nv k u=Lib.decDigits u
 | 0,_,_,h=>absurd h bE
 | 1,u,h,_=>by
  rw [Lib.decDigits,dif_pos bK];unfold Nv;rw [if_pos bK]
 | k+2,u,h,_=>by
  rw [Lib.decDigits];unfold Nv;split
  ·rfl
  ·rw [Nw (k+1) (u / 10) (Nat.div_lt_of_lt_mul (by rw [Nat.pow_succ] at h;omega)) bB]
def itoaL(n:Int):List UInt8:=if n<0 then 45::Nv 20 n.natAbs else Nv 20 n.toNat
theorem UE{n:Int}(h1 : -9223372036854775808≤n)(h2:n≤9223372036854775807):itoaL n=Lib.itoa n:=by
 unfold itoaL Lib.itoa;split
 ·rw [Nw 20 _ bB bE]
 ·rw [Nw 20 _ bB bE]
def C7(c:UInt8):List UInt8→List UInt8×List UInt8×Bool
 | []=>([],[],false)
 | b::l=>if b=c then([],l,true) else(b::(C7 c l).1,(C7 c l).2.1,(C7 c l).2.2)
def LZ(most:Int):List UInt8→Int→Option Int
 | [],n=>some n
 | b::l,n=>if b.toNat<48∨57<b.toNat∨most<n then none else LZ most l (n*10+((b.toNat:Int) - 48))
def BS(s:List UInt8)(most:Int):Int×Bool:=match LZ most s 0 with
 | none=>(0,false)
 | some n=>(n,decide (n≤most)&&itoaL n==s)
def DA:Nat→List UInt8→List Int→Option (List Int)
 | 0,_,p=>some p
 | k+1,s,p=>if(BS (C7 46 s).1 255).2&&(C7 46 s).2.2==decide (0<k) then DA k (C7 46 s).2.1 (p++[(BS (C7 46 s).1 255).1]) else none
def Fs(s:List UInt8):Int×Int:=match DA 4 s [] with
 | none=>(0,60)
 | some p=>(p.foldl (fun a b=>a*256+b) 0,0)
def E0(s:List UInt8):(Int×Int)×Int:=
 if(BS (C7 47 s).2.1 32).2&&(Fs (C7 47 s).1).2==0&&EL (Fs (C7 47 s).1).1 (BS (C7 47 s).2.1 32).1 then(((Fs (C7 47 s).1).1,(BS (C7 47 s).2.1 32).1),0) else((0,0),61)
def EN(a:Int):List UInt8:=itoaL (a / 16777216 % 256)++46::(itoaL (a / 65536 % 256)++46::(itoaL (a / 256 % 256)++46::itoaL (a % 256)))
def prefixText(a b:Int):List UInt8:=EN a++47::itoaL b
def FB:List UInt8→Int→Int
 | [],n=>n
 | b::l,n=>if n*10+((b.toNat:Int) - 48)<0∨65535<n*10+((b.toNat:Int) - 48) then -1 else FB l (n*10+((b.toNat:Int) - 48))
def Cu(f t:Int):List UInt8×Int:=
 if FR f t then if f=0∧t=65535 then([42],0) else if f=t then(itoaL f,0) else(itoaL f++45::itoaL t,0) else([],70)
def Hh(s:List UInt8)(p:Int×Int):Bool:=(Cu p.1 p.2).2==0&&(Cu p.1 p.2).1==s
def Ib(s:List UInt8):List (Int×Int):=[(0,65535),(FB s 0,FB s 0),(FB (C7 45 s).1 0,FB (C7 45 s).2.1 0)]
def Ef(s:List UInt8):(Int×Int)×Int:=match(Ib s).find? (Hh s) with
 | some p=>(p,0)
 | none=>((0,0),70)
def Nh:List UInt8:=[97,108,108,111,119]
def Xf:List UInt8:=[100,101,110,121]
def F6(r:EW):List UInt8×Int:=
 if Jj r then((if r.allow then Nh else Xf)++32::(prefixText r.addr r.bits++32::(Cu r.from_ r.to_).1),0) else([],80)
def L4(s:List UInt8):EW×Int:=match BG s with
 | .ok [a,b,c]=>
  let r:EW:=⟨a==Nh,(E0 b).1.1,(E0 b).1.2,(Ef c).1.1,(Ef c).1.2⟩
  if(E0 b).2=0∧(Ef c).2=0∧(F6 r).2=0∧(F6 r).1=s then(r,0) else(Hn,80)
 | _=>(Hn,80)
structure PC where
 who:ByteArray
 id:Int
 com:FF
 count:Int
 cursor:Int
 from_:Int
 deriving DecidableEq
def req0:PC:=⟨⟨#[]⟩,0,Uf,0,0,0⟩
structure Pr where
 q:PC
 l:List ByteArray
 bad:Bool
def Pr.next(p:Pr):ByteArray×Pr:=match p.l with
 | []=>(⟨#[]⟩,{ p with bad:=true })
 | s::l=>(s,{ p with l:=l })
def Mg(s:ByteArray)(least most:Int):Option Int:=match Lib.atoiAll s.data.toList with
 | .ok n=>if str (itoaL n)=s∧least≤n∧n≤most then some n else none
 | _=>none
def Pr.number(p:Pr)(least most:Int):Int×Pr:=match Mg p.next.1 least most with
 | some n=>(n,p.next.2)
 | none=>(0,{ p.next.2 with bad:=true })
def Pr.any(p:Pr):Int×Pr:=p.number 0 1000000000000
def Pr.com(p:Pr)(c:FF):Pr:={ p with q:={ p.q with com:=c } }
def Pr.name(p:Pr):Pr:=p.next.2.com { p.next.2.q.com with name:=p.next.1 }
def Pr.want(p:Pr):Pr:=p.any.2.com { p.any.2.q.com with want:=p.any.1 }
def Pr.key(p:Pr):Pr:=p.next.2.com { p.next.2.q.com with key:=p.next.1 }
def Pr.n(p:Pr):Pr:=p.any.2.com { p.any.2.q.com with n:=p.any.1 }
def Pr.m(p:Pr):Pr:=p.any.2.com { p.any.2.q.com with m:=p.any.1 }
def Kt:ByteArray:=str [105,110,115,101,114,116]
def Kv:ByteArray:=str [114,101,109,111,118,101]
def Pr.at_(p:Pr):Pr:=p.next.2.any.2.com { p.next.2.any.2.q.com with at_:=p.next.2.any.1 }
def Pr.rules(p:Pr):Pr:=
 if p.next.1=Kt then
  let s:=p.at_.next
  let r:=L4 s.1.data.toList
  let p2:Pr:=if r.2=0 then s.2 else { s.2 with bad:=true }
  p2.com { p2.q.com with rule:=r.1 }
 else if p.next.1=Kv then p.at_.com { p.at_.q.com with at_:=-p.at_.q.com.at_ - 1 }
 else { p.at_ with bad:=true }
def Pr.page(p:Pr):Pr:=
 let a:=p.number 1 3
 let p1:Pr:={ a.2 with q:={ a.2.q with count:=a.1 } }
 if p1.l.length=0 then p1 else
  let b:=p1.number 1 1000000000000
  let c:=b.2.any
  { c.2 with q:={ c.2.q with cursor:=b.1,from_:=c.1 } }
def partsR(verb:Int):List (Pr→Pr):=
 if verb=1 then [Pr.name,Pr.key,Pr.n] else if verb=4 then [Pr.name,Pr.want,Pr.n] else if verb=6 then [Pr.name,Pr.want,Pr.key,Pr.n,Pr.m]
 else if verb=7 then [Pr.name,Pr.want,Pr.rules] else if verb=9 then [Pr.page] else [Pr.name,Pr.want]
def K8(l:List ByteArray):PC×Int:=
 let p0:Pr:=⟨req0,l,false⟩
 let a:=p0.next
 let p1:Pr:={ a.2 with q:={ a.2.q with who:=a.1 } }
 let b:=p1.number 1 1000000
 let p2:Pr:={ b.2 with q:={ b.2.q with id:=b.1 } }
 let c:=p2.next
 let v:=verbR c.1
 let p3:Pr:=c.2.com { c.2.q.com with verb:=v.1 }
 if v.2≠0 then(req0,193) else
  let p4:=(partsR v.1).foldl (fun p f=>f p) p3
  if p4.bad=true∨0<p4.l.length then(req0,193) else(p4.q,0)
def Bk(s:ByteArray):PC×Int:=match BG s.data.toList with
 | .error e=>(req0,e)
 | .ok l=>K8 (l.map str)
structure BC where
 conn:Int
 phase:Int
 line:ByteArray
 req:PC
 role:Int
 reply:ByteArray
 slot:Int
 gen:Int
 deriving DecidableEq
def job0:BC:=⟨0,0,⟨#[]⟩,req0,0,⟨#[]⟩,0,0⟩
structure Mn where
 who:ByteArray
 id:Int
 text:ByteArray
 deriving DecidableEq
structure D2 where
 ops:List Kp
 reg:CE
 pool:Po
 jobs:List BC
 done:List Mn
def FX:D2:=⟨[],ST,QH,[],[]⟩
def Mf(j:BC):Bool:=decide (0≤j.conn)&&decide (j.conn<4)&&decide (1≤j.phase)&&decide (j.phase≤5)&&decide (0≤j.req.id)&&decide (j.req.id≤1000000)
def DQ:List Int→List BC→Bool
 | _,[]=>true
 | met,j::l=>Mf j&&!met.contains j.conn&&DQ (met++[j.conn]) l
def Nr(c:D2):Bool:=DQ [] c.jobs&&decide (c.done.length≤8)&&He c.ops&&G1 c.reg&&DC c.pool
def SC(ops:List Kp)(n:Int):D2×Int:=
 if He ops then if(N2 n).2=0 then(⟨ops,(N2 n).1,⟨[],1⟩,[],[]⟩,0) else(FX,(N2 n).2) else(FX,190)
def DU(l:List BC)(conn:Int):Option Nat:=l.findIdx? (fun j=>j.conn==conn)
def KF(c:D2)(conn:Int)(line:ByteArray):D2×Int:=
 if Nr c then if conn<0∨4≤conn then(FX,2) else if(DU c.jobs conn).isSome then(FX,191) else({ c with jobs:=c.jobs++[{ job0 with conn:=conn,phase:=1,line:=line }] },0) else(FX,190)
def Gf(l:List ByteArray):ByteArray:=match DB (l.map fun s=>s.data.toList) with
 | .ok t=>str t
 | .error _=>⟨#[]⟩
def AU(n:Int):ByteArray:=str (itoaL n)
def okT:ByteArray:=str [111,107]
def J8:ByteArray:=str [101,114,114,111,114]
def Uu:ByteArray:=str [101,110,100]
def BC.answers(j:BC)(t:ByteArray):BC:={ j with reply:=t,phase:=5 }
def BC.refuses(j:BC)(id e:Int):BC:=j.answers (Gf [J8,AU id,AU e])
def Cg(l:List Mn)(who:ByteArray)(id:Int):Option ByteArray:=(l.find? fun a=>a.who==who&&a.id==id).map (·.text)
def F4(j:BC)(p:Po)(names:List ByteArray)(seq now:Int):BC×Po:=
 let pc:=if j.req.cursor=0 then I7 p names now else(p,j.req.cursor,0)
 if pc.2.2≠0 then(j.refuses j.req.id pc.2.2,p) else
  let g:=GH pc.1 pc.2.1 j.req.from_ j.req.count now
  if g.2.2.2≠0 then(j.refuses j.req.id g.2.2.2,p) else
   (j.answers (Gf ([okT,AU j.req.id,AU seq,AU pc.2.1,if 0≤g.2.2.1 then AU g.2.2.1 else Uu]++g.2.1)),g.1)
def Jo(verb:Int):Bool:=decide (verb=2)||decide (verb=5)||decide (verb=8)
def EH(l:List Mn):List Mn:=l.drop (l.length - 8)
def Df(j:BC)(c:D2)(now:Int):BC×D2:=match Cg c.done j.req.who j.req.id with
 | some t=>(j.answers t,c)
 | none=>
  let d:=Bu c.reg j.role j.req.com now
  let a:=d.2
  let reg:=if a.err≠150 then d.1 else c.reg
  let jp:BC×Po:=
   if a.err≠0 then(j.refuses j.req.id a.err,c.pool)
   else if j.req.com.verb=9 then F4 j c.pool (BN reg) a.seq now
   else
    let k:=j.answers (Gf [okT,AU j.req.id,AU a.seq,AU a.slot,AU a.gen,AU a.version,AU a.state])
    (if Jo j.req.com.verb then { k with phase:=4,slot:=a.slot,gen:=a.gen } else k,c.pool)
  (jp.1,{ c with reg:=reg,pool:=jp.2,done:=EH (c.done++[⟨j.req.who,j.req.id,jp.1.reply⟩]) })
structure Gm where
 kind:Int
 slot:Int
 gen:Int
 text:ByteArray
 deriving DecidableEq
def Dh:Gm:=⟨0,0,0,⟨#[]⟩⟩
def E2(j:BC)(c:D2)(now left:Int):BC×D2×Gm:=
 if j.phase=1 then
  let q:=Bk j.line
  let k:BC:={ j with req:=q.1 }
  (if q.2≠0 then k.refuses 0 193 else { k with phase:=2 },c,Dh)
 else if j.phase=2 then
  let r:=Fh c.ops j.req.who
  let k:BC:={ j with role:=r.1 }
  (if r.2≠0 then k.refuses k.req.id r.2 else { k with phase:=3 },c,Dh)
 else if j.phase=3 then((Df j c now).1,(Df j c now).2,Dh)
 else if j.phase=4 then(if left=0 then { j with phase:=5 } else j,c,if left=0 then Dh else⟨1,j.slot,j.gen,⟨#[]⟩⟩)
 else(j,c,⟨2,0,0,j.reply⟩)
def Jn(c:D2)(conn now left:Int):D2×Gm×Int:=
 if Nr c then if now<0∨1000000000000<now∨left<0 then(FX,Dh,2) else
  match DU c.jobs conn with
  | none=>(FX,Dh,192)
  | some i=>
   let s:=E2 (c.jobs.getD i job0) c now left
   ({ s.2.1 with jobs:=if s.2.2.kind=2 then(c.jobs.set i s.1).eraseIdx i else c.jobs.set i s.1 },s.2.2,0)
 else(FX,Dh,190)
def Hv:Nat→D2→Int→Int→D2×ByteArray
 | 0,c,_,_=>(c,⟨#[]⟩)
 | k+1,c,conn,now=>
  if(Jn c conn now 0).2.2≠0 then(c,⟨#[]⟩) else
   if(Jn c conn now 0).2.1.kind=2 then((Jn c conn now 0).1,(Jn c conn now 0).2.1.text) else Hv k (Jn c conn now 0).1 conn now
def FA(c:D2)(conn:Int)(line:ByteArray)(now:Int):D2×ByteArray:=
 if(KF c conn line).2=0 then Hv 6 (KF c conn line).1 conn now else((KF c conn line).1,⟨#[]⟩)
theorem OV{s t:ByteArray}{l:List (List UInt8)}(h1:BG s.data.toList = .ok l)(h2:DB l = .ok t.data.toList):Bk t=Bk s:=by
 unfold Bk;rw [Pz h2,h1]
def nm(l:List Nat):ByteArray:=str (l.map UInt8.ofNat)
inductive cS|mk (A:PC)
abbrev Q_:=cS.mk
instance(A:PC):CoeDep cS (Q_ A) (Array Value):=⟨#[CZ A.who,dH dN A.id,dH dN A.com.verb,CZ A.com.name,dH dN A.com.want,dH dN A.com.at_,dL A.com.rule.allow,dH dN A.com.rule.addr,dH dN A.com.rule.bits,dH dN A.com.rule.from_,dH dN A.com.rule.to_,CZ A.com.key,dH dN A.com.n,dH dN A.com.m,dH dN A.count,dH dN A.cursor,dH dN A.from_]⟩
end
section
open Go.RowKit
def EY(n:Int):List Value:=[dH dN n]
def KN(b:Bool):List Value:=[dL b]
def EZ(s:ByteArray):List Value:=[CZ s]
def Fw(o:Kp):List Value:=[CZ o.name,dH dN o.role]
def B7(r:EW):List Value:=[dL r.allow,dH dN r.addr,dH dN r.bits,dH dN r.from_,dH dN r.to_]
def CH(c:Ey):List Value:=[dH dN c.id,CZ c.key,dH dN c.from_,dH dN c.to_]
def D7(a:Mn):List Value:=[CZ a.who,dH dN a.id,CZ a.text]
def Qc(c:FF):List Value:=[dH dN c.verb,CZ c.name,dH dN c.want,dH dN c.at_]++B7 c.rule++[CZ c.key,dH dN c.n,dH dN c.m]
def Qe(q:PC):List Value:=[CZ q.who,dH dN q.id]++Qc q.com++[dH dN q.count,dH dN q.cursor,dH dN q.from_]
def encJob(j:BC):List Value:=[dH dN j.conn,dH dN j.phase,CZ j.line]++Qe j.req++[dH dN j.role,CZ j.reply,dH dN j.slot,dH dN j.gen]
def Ov(h:Int×Int):List Value:=[dH dN h.1,dH dN h.2]
structure TV where
 slot:Int
 gen:Int
 name:ByteArray
 state:Int
 version:Int
 ra:Option Addr
 rl:Nat
 rc:Nat
 ca:Option Addr
 cl:Nat
 cc:Nat
 deadline:Int
def BM(t:TV):List Value:=[dH dN t.slot,dH dN t.gen,CZ t.name,dH dN t.state,dH dN t.version,dI t.ra t.rl t.rc,dI t.ca t.cl t.cc,dH dN t.deadline]
theorem DZ(x:Int):(EY x).length=1:=rfl
theorem KO(x:Bool):(KN x).length=1:=rfl
theorem D9(x:ByteArray):(EZ x).length=1:=rfl
theorem Gw(x:Kp):(Fw x).length=2:=rfl
theorem Di(x:EW):(B7 x).length=5:=rfl
theorem EF(x:Ey):(CH x).length=4:=rfl
theorem EE(x:Mn):(D7 x).length=3:=rfl
theorem D8(x:BC):(encJob x).length=24:=rfl
theorem Ow(x:Int×Int):(Ov x).length=2:=rfl
theorem CU(x:TV):(BM x).length=8:=rfl
theorem IU:∀(x:Int),∀u∈EY x,u.oneCell'=true:=by intro x u hu;simp only [EY,Ac,Ab,or_false] at hu;subst hu;rfl
theorem Us:∀(x:Bool),∀u∈KN x,u.oneCell'=true:=by intro x u hu;simp only [KN,Ac,Ab,or_false] at hu;subst hu;rfl
theorem FZ:∀(x:ByteArray),∀u∈EZ x,u.oneCell'=true:=by intro x u hu;simp only [EZ,Ac,Ab,or_false] at hu;subst hu;rfl
theorem Qd:∀(x:Kp),∀u∈Fw x,u.oneCell'=true:=by intro x u hu;simp only [Fw,Ac,Ab,or_false] at hu;rcases hu with rfl | rfl<;>rfl
theorem Fx:∀(x:EW),∀u∈B7 x,u.oneCell'=true:=by intro x u hu;simp only [B7,Ac,Ab,or_false] at hu;rcases hu with rfl | rfl | rfl | rfl | rfl<;>rfl
theorem I1:∀(x:Ey),∀u∈CH x,u.oneCell'=true:=by intro x u hu;simp only [CH,Ac,Ab,or_false] at hu;rcases hu with rfl | rfl | rfl | rfl<;>rfl
theorem KM:∀(x:Mn),∀u∈D7 x,u.oneCell'=true:=by intro x u hu;simp only [D7,Ac,Ab,or_false] at hu;rcases hu with rfl | rfl | rfl<;>rfl
theorem I2:∀(x:BC),∀u∈encJob x,u.oneCell'=true:=by
 intro x u hu;simp only [encJob,Qe,Qc,B7,A6,AX,Ac,Ab,or_false] at hu;rcases hu with rfl | rfl | rfl | rfl | rfl | rfl | rfl | rfl | rfl | rfl | rfl | rfl | rfl | rfl | rfl | rfl | rfl | rfl | rfl | rfl | rfl | rfl | rfl | rfl<;>rfl
theorem Ut:∀(x:Int×Int),∀u∈Ov x,u.oneCell'=true:=by intro x u hu;simp only [Ov,Ac,Ab,or_false] at hu;rcases hu with rfl | rfl<;>rfl
theorem Fp:∀(x:TV),∀u∈BM x,u.oneCell'=true:=by intro x u hu;simp only [BM,Ac,Ab,or_false] at hu;rcases hu with rfl | rfl | rfl | rfl | rfl | rfl | rfl | rfl<;>rfl
abbrev Ik:=AJ EY 1
abbrev Jv:=AJ KN 1
abbrev IF:=AJ EZ 1
abbrev Mo:=AJ Fw 2
abbrev Mq:=AJ B7 5
abbrev ID:=AJ CH 4
abbrev NM:=AJ D7 3
abbrev NP:=AJ encJob 24
structure BU(w:World)(v:TV)(t:Ten):Prop where
 slot:v.slot=t.slot
 gen:v.gen=t.gen
 name:v.name=t.name
 state:v.state=t.state
 version:v.version=t.version
 deadline:v.deadline=t.deadline
 rl:t.rules.length=v.rl
 cl:t.creds.length=v.cl
 rs:Mq w v.ra v.rc t.rules
 cs:ID w v.ca v.cc t.creds
theorem BU.keeps{w w':World}{v:TV}{t:Ten}(h:BU w v t)(hk:Aa [] w w'):BU w' v t:={ h with rs:=h.rs.keeps hk,cs:=h.cs.keeps hk }
def AC(w:World):List TV→List Ten→Prop
 | [],[]=>True
 | v::V,t::L=>BU w v t∧AC w V L
 | _,_=>False
theorem AC.keeps{w w':World}: ∀ {V:List TV} {L:List Ten},AC w V L→Aa [] w w'→AC w' V L
 | [],[],_,_=>trivial
 | _::_,_::_,h,hk=>⟨h.1.keeps hk,AC.keeps h.2 hk⟩
 | [],_::_,h,_=>h.elim
 | _::_,[],h,_=>h.elim
theorem AC.len{w:World}: ∀ {V:List TV} {L:List Ten},AC w V L→V.length=L.length
 | [],[],_=>rfl
 | _::_,_::_,h=>by simp [AC.len h.2]
 | [],_::_,h=>h.elim
 | _::_,[],h=>h.elim
theorem AC.get{w:World}: ∀ {V:List TV} {L:List Ten},AC w V L→∀(k:Nat) (h1:k<V.length) (h2:k<L.length),BU w V[k] L[k]
 | _::_,_::_,h,0,_,_=>h.1
 | _::_,_::_,h,k+1,h1,h2=>AC.get h.2 k bR YI
 | [],[],_,_,h1,_=>by simp at h1
 | [],_::_,h,_,_,_=>h.elim
 | _::_,[],h,_,_,_=>h.elim
theorem AC.app{w:World}: ∀ {V V':List TV} {L L':List Ten},AC w V L→AC w V' L'→AC w (V++V') (L++L')
 | [],_,[],_,_,h'=>h'
 | _::_,_,_::_,_,h,h'=>⟨h.1,AC.app h.2 h'⟩
 | [],_,_::_,_,h,_=>h.elim
 | _::_,_,[],_,h,_=>h.elim
theorem AC.take{w:World}: ∀ {V:List TV} {L:List Ten} (k:Nat),AC w V L→AC w (V.take k) (L.take k)
 | _,_,0,_=>trivial
 | [],[],_+1,_=>trivial
 | _::_,_::_,k+1,h=>⟨h.1,AC.take k h.2⟩
 | [],_::_,_+1,h=>h.elim
 | _::_,[],_+1,h=>h.elim
theorem AC.drop{w:World}: ∀ {V:List TV} {L:List Ten} (k:Nat),AC w V L→AC w (V.drop k) (L.drop k)
 | _,_,0,h=>h
 | [],[],_+1,_=>trivial
 | _::_,_::_,k+1,h=>AC.drop k h.2
 | [],_::_,_+1,h=>h.elim
 | _::_,[],_+1,h=>h.elim
structure D3 where
 ga:Option Addr
 gc:Nat
 ua:Option Addr
 uc:Nat
 fa:Option Addr
 fc:Nat
structure Dp(w:World)(v:D3)(s:Ff):Prop where
 g:Ik w v.ga v.gc s.gens
 u:Jv w v.ua v.uc s.used
 f:Ik w v.fa v.fc s.free
 sg:s.gens.length≤1000
 su:s.used.length≤1000
 sf:s.free.length≤1000
theorem Dp.keeps{w w':World}{v:D3}{s:Ff}(h:Dp w v s)(hk:Aa [] w w'):Dp w' v s:={ h with g:=h.g.keeps hk,u:=h.u.keeps hk,f:=h.f.keeps hk }
structure Bm where
 s:D3
 la:Option Addr
 lc:Nat
 lv:List TV
structure Co(w:World)(v:Bm)(r:CE):Prop where
 s:Dp w v.s r.slots
 l:AJ BM 8 w v.la v.lc v.lv
 t:AC w v.lv r.l
 sl:r.l.length≤1000
 small:∀t∈r.l,t.rules.length≤1000∧t.creds.length≤1000
theorem Co.keeps{w w':World}{v:Bm}{r:CE}(h:Co w v r)(hk:Aa [] w w'):Co w' v r:={ h with s:=h.s.keeps hk,l:=h.l.keeps hk,t:=h.t.keeps hk }
inductive cW|mk (A:TV)
abbrev T_:=cW.mk
instance(A:TV):CoeDep cW (T_ A) (Array Value):=⟨#[dH dN A.slot,dH dN A.gen,CZ A.name,dH dN A.state,dH dN A.version,.slice A.ra A.rl A.rc,.slice A.ca A.cl A.cc,dH dN A.deadline]⟩
inductive cX|mk (A:TV)(B:Int)
abbrev U_:=cX.mk
instance(A:TV)(B:Int):CoeDep cX (U_ A B) (Array Value):=⟨#[dH dN A.slot,dH dN A.gen,CZ A.name,dH dN A.state,dH dN A.version,.slice A.ra A.rl A.rc,.slice A.ca A.cl A.cc,dH dN A.deadline,dH dN B]⟩
inductive cN|mk (A:TV)(B:Int)(P:FF)(D:Int)
abbrev G_:=cN.mk
instance(A:TV)(B:Int)(P:FF)(D:Int):CoeDep cN (G_ A B P D) (Array Value):=⟨#[dH dN A.slot,dH dN A.gen,CZ A.name,dH dN A.state,dH dN (A.version+1),.slice A.ra A.rl A.rc,.slice A.ca A.cl A.cc,dH dN A.deadline,dH dN B,dH dN P.verb,CZ P.name,dH dN P.want,dH dN P.at_,dL P.rule.allow,dH dN P.rule.addr,dH dN P.rule.bits,dH dN P.rule.from_,dH dN P.rule.to_,CZ P.key,dH dN P.n,dH dN P.m,dH dN D]⟩
inductive cV|mk (A:D3)(B C D:Nat)
abbrev S_:=cV.mk
instance(A:D3)(B C D:Nat):CoeDep cV (S_ A B C D) (Array Value):=⟨#[.slice A.ga B A.gc,.slice A.ua C A.uc,.slice A.fa D A.fc]⟩
inductive cU|mk (A:Bm)(B C D E:Nat)(F:Int)
abbrev R_:=cU.mk
instance(A:Bm)(B C D E:Nat)(F:Int):CoeDep cU (R_ A B C D E F) (Array Value):=⟨#[.slice A.s.ga B A.s.gc,.slice A.s.ua C A.s.uc,.slice A.s.fa D A.s.fc,.slice A.la E A.lc,dH dN F]⟩
end
section
open Go
structure LR(p q:Pr):Prop where
 bad:q.bad=false→p.bad=false
 num:q.q.id=p.q.id
 verb:q.q.com.verb=p.q.com.verb
theorem LR.refl(p:Pr):LR p p:=⟨id,rfl,rfl⟩
theorem LR.trans{a b c:Pr}(h:LR a b)(k:LR b c):LR a c:=⟨fun e=>h.bad (k.bad e),k.num.trans h.num,k.verb.trans h.verb⟩
theorem Pr.next_k(p:Pr):LR p p.next.2:=by
 unfold Pr.next;cases p.l with
 | nil=>exact⟨(fun h=>by cases h),rfl,rfl⟩
 | cons s l=>exact⟨id,rfl,rfl⟩
theorem Pr.number_k(p:Pr)(a b:Int):LR p (p.number a b).2:=by
 unfold Pr.number;cases Mg p.next.1 a b with
 | none=>exact⟨(fun h=>by cases h),p.next_k.num,p.next_k.verb⟩
 | some n=>exact p.next_k
theorem Pr.number_in{p:Pr}{a b:Int}(h:(p.number a b).2.bad=false):a≤(p.number a b).1∧(p.number a b).1≤b:=by
 unfold Pr.number at h ⊢;cases hn:Mg p.next.1 a b with
 | none=>rw [hn] at h;cases h
 | some n=>
  unfold Mg at hn;split at hn
  ·split at hn
   ·rename_i hh
    cases hn;exact hh.2
   ·cases hn
  ·cases hn
theorem Pr.com_k(p:Pr)(c:FF)(h:c.verb=p.q.com.verb):LR p (p.com c):=⟨id,rfl,h⟩
theorem Pr.name_k(p:Pr):LR p p.name:=p.next_k.trans (Pr.com_k _ _ rfl)
theorem Pr.key_k(p:Pr):LR p p.key:=p.next_k.trans (Pr.com_k _ _ rfl)
theorem Pr.any_k(p:Pr):LR p p.any.2:=p.number_k _ _
theorem Pr.want_k(p:Pr):LR p p.want:=p.any_k.trans (Pr.com_k _ _ rfl)
theorem Pr.n_k(p:Pr):LR p p.n:=p.any_k.trans (Pr.com_k _ _ rfl)
theorem Pr.m_k(p:Pr):LR p p.m:=p.any_k.trans (Pr.com_k _ _ rfl)
theorem Pr.at_k(p:Pr):LR p p.at_:=(p.next_k.trans (p.next.2.any_k)).trans (Pr.com_k _ _ rfl)
theorem Pr.rules_k(p:Pr):LR p p.rules:=by
 unfold Pr.rules;split
 ·refine(p.at_k.trans p.at_.next_k).trans ?_
  dsimp only;split
  ·exact Pr.com_k _ _ rfl
  ·exact⟨(fun h=>by cases h),rfl,rfl⟩
 ·split
  ·exact p.at_k.trans (Pr.com_k _ _ rfl)
  ·exact⟨(fun h=>by cases h),p.at_k.num,p.at_k.verb⟩
theorem Pr.page_k(p:Pr):LR p p.page:=by
 unfold Pr.page;have h1:=p.number_k 1 3;dsimp only;split
 ·exact⟨h1.bad,h1.num,h1.verb⟩
 ·have h2:=Pr.number_k { (p.number 1 3).2 with q:={ (p.number 1 3).2.q with count:=(p.number 1 3).1 } } 1 1000000000000
  have h3:=Pr.any_k (Pr.number { (p.number 1 3).2 with q:={ (p.number 1 3).2.q with count:=(p.number 1 3).1 } } 1 1000000000000).2;exact⟨fun h=>h1.bad (h2.bad (h3.bad h)),h3.num.trans (h2.num.trans h1.num),h3.verb.trans (h2.verb.trans h1.verb)⟩
theorem W8(v:Int):∀f∈partsR v,∀p,LR p (f p):=by
 unfold partsR;intro f hf p
 repeat' split at hf
 all_goals simp only [Ac,Ab,or_false] at hf
 all_goals rcases hf with rfl | rfl | rfl | rfl | rfl<;>first | exact p.name_k | exact p.key_k | exact p.n_k | exact p.want_k | exact p.m_k | exact p.rules_k | exact p.page_k
theorem U5:∀(l:List (Pr→Pr)),(∀f∈l,∀p,LR p (f p))→∀p,LR p (l.foldl (fun p f=>f p) p)
 | [],_,p=>LR.refl p
 | f::l,h,p=>(h f Bf p).trans (U5 l (fun g hg=>h g (Ci _ hg)) (f p))
theorem VM{s:ByteArray}(h:(verbR s).2=0):1≤(verbR s).1∧(verbR s).1≤10:=by
 unfold verbR at h ⊢;cases hf:Bb.find? (fun v=>v.2.1==s.data.toList) with
 | none=>rw [hf] at h;simp at h
 | some v=>
  have hm:=List.mem_of_find?_eq_some hf;have hall:∀v∈Bb,1≤v.1∧v.1≤10:=by decide
  exact hall v hm
theorem Wf{l:List ByteArray}(h:(K8 l).2=0):1≤(K8 l).1.id∧(K8 l).1.id≤1000000∧1≤(K8 l).1.com.verb∧(K8 l).1.com.verb≤10:=by
 unfold K8 at h ⊢;dsimp only at h ⊢;split at h
 ·simp at h
 ·rename_i hv
  split at h
  ·simp at h
  ·rename_i hb
   rw [if_neg hv,if_neg hb];have hv0:=VM (B3.1 hv);generalize hp1:({ (Pr.next ⟨req0,l,false⟩).2 with q:={ (Pr.next ⟨req0,l,false⟩).2.q with who:=(Pr.next ⟨req0,l,false⟩).1 } } : Pr)=p1 at hv hb hv0 ⊢;generalize hp2:({ (p1.number 1 1000000).2 with q:={ (p1.number 1 1000000).2.q with id:=(p1.number 1 1000000).1 } } : Pr)=p2 at hv hb hv0 ⊢;generalize hp3:p2.next.2.com { p2.next.2.q.com with verb:=(verbR p2.next.1).1 } = p3 at hb ⊢;have hk:=U5 _ (W8 (verbR p2.next.1).1) p3;generalize (partsR (verbR p2.next.1).1).foldl (fun p f=>f p) p3=p4 at hb hk ⊢;have hb4:p4.bad=false:=by
    cases hb':p4.bad with
    | false=>rfl
    | true=>exact absurd (.inl hb') hb
   have hb3:=hk.bad hb4;have hb2:p2.bad=false:=by rw [← hp3] at hb3;exact p2.next_k.bad hb3
   have hbn:(p1.number 1 1000000).2.bad=false:=by rw [← hp2] at hb2;exact hb2
   have hin:=Pr.number_in hbn;have hid:p4.q.id=(p1.number 1 1000000).1:=by
    rw [hk.num,← hp3];show p2.next.2.q.id=_;rw [p2.next_k.num,← hp2]
   have hvb:p4.q.com.verb=(verbR p2.next.1).1:=by rw [hk.verb,← hp3];rfl
   rw [hid,hvb];exact⟨hin.1,hin.2,hv0.1,hv0.2⟩
theorem Rh{r:Bw}{st:WS}{b:UInt8}{k:Int}(h:r.add st b = .error k):k≠0:=by
 unfold Bw.add at h;split at h
 ·cases h;decide
 ·cases h
theorem TU{r:Bw}{b:UInt8}{e:Bool}{k:Int}(h:r.bareS b e = .error k):k≠0:=by
 unfold Bw.bareS at h
 repeat' split at h
 all_goals first | exact Rh h | (cases h;done) | (cases h;decide)
theorem P0{r:Bw}{b:UInt8}{e:Bool}{k:Int}(h:r.step b e = .error k):k≠0:=by
 unfold Bw.step at h
 repeat' split at h
 all_goals first | exact Rh h | exact TU h | (cases h;done) | (cases h;decide)
theorem Pn:∀ {l:List UInt8} {r:Bw} {k:Int},Da l r = .error k→k≠0
 | [],r,k,h=>by cases h
 | b::l,r,k,h=>by
  unfold Da at h;cases hs:r.step b false with
  | error e=>rw [hs] at h;cases h;exact P0 hs
  | ok r'=>rw [hs] at h;exact Pn (l:=l) h
theorem Ic{s:List UInt8}{k:Int}(h:BG s = .error k):k≠0:=by
 unfold BG at h;split at h
 ·cases h;decide
 ·split at h
  ·cases h;decide
  ·cases hr:Da s .zero with
   | error e=>rw [hr] at h;cases h;exact Pn hr
   | ok r=>
    rw [hr] at h;simp only [Except.bind] at h;cases hs:r.step 0 true with
    | error e=>rw [hs] at h;cases h;exact P0 hs
    | ok r'=>rw [hs] at h;cases h
theorem UZ{s:ByteArray}(h:(Bk s).2=0):1≤(Bk s).1.id∧(Bk s).1.id≤1000000∧1≤(Bk s).1.com.verb∧(Bk s).1.com.verb≤10:=by
 unfold Bk at h ⊢;cases hs:BG s.data.toList with
 | error e=>
  rw [hs] at h;exfalso;dsimp only at h;subst h;exact Ic hs rfl
 | ok l=>rw [hs] at h;exact Wf h
end
section
theorem UF(j:BC):Mf j=true↔0≤j.conn∧j.conn<4∧1≤j.phase∧j.phase≤5∧0≤j.req.id∧j.req.id≤1000000:=by
 simp only [Mf,Af,decide_eq_true_eq,and_assoc]
theorem MA:∀(l:List BC) (met:List Int),DQ met l=true↔(∀j∈l,Mf j=true∧j.conn∉met)∧l.Pairwise (fun a b=>a.conn≠b.conn)
 | [],met=>by simp [DQ]
 | j::l,met=>by
  unfold DQ;simp only [Af,Bool.not_eq_true',List.contains_eq_mem,decide_eq_false_iff_not,MA l (met++[j.conn]),AF,not_or,Ac,List.pairwise_cons];constructor
  ·rintro⟨⟨h1,h2⟩,h3,h4⟩
   refine⟨fun x hx=>?_,fun x hx=>?_,h4⟩
   ·rcases hx with rfl | hx
    ·exact⟨h1,h2⟩
    ·exact⟨(h3 x hx).1,(h3 x hx).2.1⟩
   ·exact fun e=>(h3 x hx).2.2.1 e.symm
  ·rintro⟨h1,h2,h3⟩
   exact⟨h1 j (.inl rfl),fun x hx=>⟨(h1 x (.inr hx)).1,(h1 x (.inr hx)).2,fun e=>h2 x hx e.symm,by simp⟩,h3⟩
structure T4(c:D2):Prop where
 job:∀j∈c.jobs,Mf j=true
 conn:c.jobs.Pairwise (fun a b=>a.conn≠b.conn)
 done:c.done.length≤8
 ops:He c.ops=true
 reg:Cz c.reg
 pool:Ok c.pool
theorem Ui(c:D2):Nr c=true↔T4 c:=by
 unfold Nr;simp only [Af,decide_eq_true_eq,MA,Vm,MN,Ab,not_false_eq_true,and_true];constructor
 ·rintro⟨⟨⟨⟨⟨h1,h2⟩,h3⟩,h4⟩,h5⟩,h6⟩;exact⟨h1,h2,h3,h4,h5,h6⟩
 ·rintro⟨h1,h2,h3,h4,h5,h6⟩;exact⟨⟨⟨⟨⟨h1,h2⟩,h3⟩,h4⟩,h5⟩,h6⟩
theorem UM(j:BC)(p:Po)(names:List ByteArray)(seq now:Int):∃t,(F4 j p names seq now).1=j.answers t:=by
 unfold F4;generalize (if j.req.cursor=0 then I7 p names now else(p,j.req.cursor,0))=pc;dsimp only;split
 ·exact⟨_,rfl⟩
 ·split<;>exact⟨_,rfl⟩
theorem WM{j:BC}{c:D2}{now left:Int}(h:j.phase=1):E2 j c now left=(if(Bk j.line).2≠0 then BC.refuses { j with req:=(Bk j.line).1 } 0 193 else { j with req:=(Bk j.line).1,phase:=2 },c,Dh):=by
 unfold E2;rw [if_pos h]
theorem WN{j:BC}{c:D2}{now left:Int}(h:j.phase=2):E2 j c now left=(if(Fh c.ops j.req.who).2≠0 then BC.refuses { j with role:=(Fh c.ops j.req.who).1 } j.req.id (Fh c.ops j.req.who).2 else { j with role:=(Fh c.ops j.req.who).1,phase:=3 },c,Dh):=by
 unfold E2;rw [h,if_neg bE,if_pos rfl]
theorem WO{j:BC}{c:D2}{now left:Int}(h:j.phase=3):E2 j c now left=((Df j c now).1,(Df j c now).2,Dh):=by
 unfold E2;rw [h,if_neg bE,if_neg bE,if_pos rfl]
theorem WP{j:BC}{c:D2}{now left:Int}(h:j.phase=4):E2 j c now left=(if left=0 then { j with phase:=5 } else j,c,if left=0 then Dh else⟨1,j.slot,j.gen,⟨#[]⟩⟩):=by
 unfold E2;rw [h,if_neg bE,if_neg bE,if_neg bE,if_pos rfl]
theorem WQ{j:BC}{c:D2}{now left:Int}(h:j.phase=5):E2 j c now left=(j,c,⟨2,0,0,j.reply⟩):=by
 unfold E2;rw [h,if_neg bE,if_neg bE,if_neg bE,if_neg bE]
theorem Uw(s:Ff):0≤(AO s).2.2∧(AO s).2.2≤1000:=by
 unfold AO;split
 ·cases s.free.getLast? with
  | none=>simp
  | some i=>dsimp only;split<;>simp
 ·simp
theorem KP(l:List Ey)(k:ByteArray)(a b c:Int):0≤(AN l k a b c).2.2∧(AN l k a b c).2.2≤1000:=by
 unfold AN;split
 ·split
  ·split
   ·split<;>simp
   ·simp
  ·simp
 ·simp
theorem Qf(l:List EW)(a:Int)(r:EW):0≤(Bp l a r).2∧(Bp l a r).2≤1000:=by
 unfold Bp;split
 ·split
  ·split<;>simp
  ·simp
 ·simp
theorem Qg(l:List EW)(a:Int):0≤(B8 l a).2∧(B8 l a).2≤1000:=by
 unfold B8;split
 ·split<;>simp
 ·simp
theorem Ux(t:Ten)(c:FF)(now:Int):0≤(AS t c now).2∧(AS t c now).2≤1000:=by
 have h1:=KP t.creds c.key now c.n c.m;have h2:=Qf t.rules c.at_ c.rule;have h3:=Qg t.rules (-(c.at_+1));unfold AS
 repeat' split
 all_goals first | exact h1 | exact h2 | exact h3 | simp
theorem X8(r:CE)(c:FF)(now:Int):0≤(T0 r c now).2.2∧(T0 r c now).2.2≤1000:=by
 have h1:=Uw r.slots;have h2:=KP [] c.key now 0 c.n;unfold T0;split
 ·unfold Fn
  split
  ·cases BO r.l c.name with
   | some i=>simp
   | none=>
    dsimp only;split
    ·exact h1
    ·split
     ·exact h2
     ·simp
  ·simp
 ·split
  ·simp
  ·unfold DY
   cases BO r.l c.name with
   | none=>simp
   | some i=>
    have h3:=Ux (r.l.getD i Hp) c now;dsimp only
    repeat' split
    all_goals first | exact h3 | simp
theorem Sm(r:CE)(role:Int)(c:FF)(now:Int):0≤(Bu r role c now).2.err∧(Bu r role c now).2.err≤1000:=by
 have h:=X8 ⟨r.slots,r.l,r.seq+1⟩ c now;unfold Bu;split
 ·simp
 ·dsimp only
  split
  ·simp
  ·split
   ·exact h
   ·simp
structure Yq(p:ZB):Prop where
 seq:0≤p.seq∧p.seq≤1000000000000
 slot:0≤p.slot∧p.slot≤1000000000000
 gen:0≤p.gen∧p.gen≤1000000000000
 version:0≤p.version∧p.version≤1000000000001
 state:0≤p.state∧p.state≤1000000000000
structure Xs(t:Ten):Prop where
 slot:0≤t.slot∧t.slot≤1000000000000
 gen:0≤t.gen∧t.gen≤1000000000000
 version:0≤t.version∧t.version≤1000000000001
 state:0≤t.state∧t.state≤1000000000000
theorem Wu{r:CE}(h:Cz r){t:Ten}(ht:t∈r.l):(0≤t.slot∧t.slot≤64)∧0≤t.gen∧t.gen≤1000000000:=by
 have hm:t.h∈C6 r.slots:=by rw [← h.hs];exact List.mem_map_of_mem ht
 unfold C6 at hm;rw [if_pos ((Eu _).2 h.slo)] at hm;obtain⟨m,h3,h4,h5⟩:=(F9 0 _ _ _ h.slo.len).1 hm;have h6:t.slot=((0+m:Nat):Int):=h3;have h7:r.slots.gens[m]? = some t.gen:=h5;have hmu:=(Ad.1 h4).1;have:=h.slo.len;have:=h.slo.most;exact⟨by omega,h.slo.gens _ (Ex h7)⟩
theorem Up{r:CE}(h:Cz r)(c:FF)(now:Int)(hnow:0≤now)(hs:r.seq≤1000000000000)(he:(T0 r c now).2.2=0):Xs (T0 r c now).2.1:=by
 have h0:Xs Hp:=⟨by decide,by decide,by decide,by decide⟩;unfold T0 at he ⊢;split at he
 ·rename_i h1;rw [if_pos h1]
  unfold Fn at he ⊢;split at he
  ·rename_i hn;rw [if_pos hn]
   cases hp:BO r.l c.name with
   | some i=>rw [hp] at he;simp at he
   | none=>
    rw [hp] at he;dsimp only at he ⊢;split at he
    ·rename_i h2;exact absurd he h2
    ·rename_i h2;rw [if_neg h2]
     split at he
     ·rename_i h3;exact absurd he h3
     ·rename_i h3;rw [if_neg h3]
      obtain⟨k1,k2,_⟩:=R8 h.slo (B3.1 h2);have hm:(AO r.slots).2.1∈C6 (AO r.slots).1:=by
       have hmem:∀(l:List (Int×Int)) (t:Int×Int),t∈FC (fun x:Int×Int=>x.1) t l:=by
        intro l t;induction l with
        | nil=>simp [FC]
        | cons x l ih=>
         unfold FC;split
         ·exact Ci _ ih
         ·split<;>simp
       rw [k2];exact hmem _ _
      unfold C6 at hm;rw [if_pos ((Eu _).2 k1)] at hm;obtain⟨m,h4,h5,h6⟩:=(F9 0 _ _ _ k1.len).1 hm;have hmu:=(Ad.1 h5).1;have hg:=k1.gens _ (Ex h6);have:=k1.len;have:=k1.most;exact⟨by dsimp only;omega,by dsimp only;omega,(by decide:(0:Int)≤1∧(1:Int)≤1000000000001),(by decide:(0:Int)≤1∧(1:Int)≤1000000000000)⟩
  ·simp at he
 ·rename_i h1;rw [if_neg h1]
  split at he
  ·rename_i h2;rw [if_pos h2];exact h0
  ·rename_i h2;rw [if_neg h2]
   unfold DY at he ⊢;cases hp:BO r.l c.name with
   | none=>rw [hp] at he;simp at he
   | some i=>
    rw [hp] at he;obtain⟨hi,hnm⟩:=Lv hp;have hg:r.l.getD i Hp=r.l[i]:=by rw [AE,Au hi];rfl
    dsimp only at he ⊢;rw [hg] at he ⊢;have htm:=List.getElem_mem hi;obtain⟨b1,b2⟩:=Wu h htm;have htb:=h.ten _ htm;have htb':=htb;simp only [FE,EQ,F8,Af,decide_eq_true_eq] at htb';split at he
    ·simp at he
    ·rename_i h3;rw [if_neg h3]
     split at he
     ·rename_i h4;exact absurd he h4
     ·rename_i h4;rw [if_neg h4]
      obtain⟨e1,e2,e3,e4,e5⟩:=RB htb hnow (B3.1 h4);simp only [F8,Af,decide_eq_true_eq] at e4;have e6:(AS r.l[i] c now).1.slot=r.l[i].slot:=congrArg Prod.fst e1;have e7:(AS r.l[i] c now).1.gen=r.l[i].gen:=congrArg Prod.snd e1;have hx:Xs { (AS r.l[i] c now).1 with version:=(AS r.l[i] c now).1.version+1 }:=⟨by dsimp only;omega,by dsimp only;omega,by dsimp only;omega,by dsimp only;omega⟩;split at he
      ·rename_i h5;rw [if_pos h5];exact⟨by dsimp only;omega,by dsimp only;omega,by dsimp only;omega,by dsimp only;omega⟩
      ·rename_i h5;rw [if_neg h5]
       split at he
       ·rename_i h6;rw [if_pos h6];exact hx
       ·rename_i h6;rw [if_neg h6];exact hx
theorem NU{r:CE}(h:Cz r)(role:Int)(c:FF)(now:Int)(he:(Bu r role c now).2.err=0):Yq (Bu r role c now).2:=by
 unfold Bu at he ⊢;split at he
 ·simp at he
 ·rename_i h1
  rw [if_neg h1];have hs:r.seq<1000000000000:=by
   by_cases h2:r.seq<1000000000000
   ·exact h2
   ·exact absurd (.inr (.inl bB)) h1
  have hn:0≤now:=by
   by_cases h2:0≤now
   ·exact h2
   ·exact absurd (.inr (.inr (.inl bB))) h1
  have hq:=h.seq;dsimp only at he ⊢;split at he
  ·simp at he
  ·rename_i h2;rw [if_neg h2]
   split at he
   ·rename_i h3;exact absurd he h3
   ·rename_i h3;rw [if_neg h3]
    have:=Up (h.more hs) c now hn bH (B3.1 h3);exact⟨by dsimp only;omega,this.slot,this.gen,this.version,this.state⟩
theorem OO{r:CE}(h:Cz r):Dl (BN r)=true∧∀x∈BN r,x.data.toList.length≤40∧x.data.toList.all Cs=true:=by
 have hx:∀x∈BN r,x.data.toList.length≤40∧x.data.toList.all Cs=true:=fun x hx=>by
  obtain⟨t,ht,rfl⟩:=Ee.1 hx;have:=h.ten t ht;simp only [FE,FU,GG,Hz,Af,decide_eq_true_eq] at this;refine⟨?_,this.2.1.1.2.2⟩;have h2:=this.2.1.1.1.2;have h3:t.name.size=t.name.data.toList.length:=by rw [BL];rfl
  omega
 refine⟨?_,hx⟩;unfold Dl;simp only [Af,decide_eq_true_eq,BB];refine⟨by unfold BN;rw [BX];exact h.len,fun x hm=>?_⟩;obtain⟨h1,h2⟩:=hx x hm;unfold Fk FQ;simp only [Af,decide_eq_true_eq];have h3:x.size=x.data.toList.length:=by rw [BL];rfl
 exact⟨by omega,h2⟩
end
section
open Go
def GN(p:Pr):Prop:=-1000000000001≤p.q.com.at_∧p.q.com.at_≤1000000000000
theorem Pr.next_q(p:Pr):p.next.2.q=p.q:=by unfold Pr.next;split<;>rfl
theorem Pr.number_q(p:Pr)(a b:Int):(p.number a b).2.q=p.q:=by unfold Pr.number;split<;>exact p.next_q
theorem Pr.any_at(p:Pr):0≤p.any.1∧p.any.1≤1000000000000:=by
 unfold Pr.any Pr.number;split
 ·rename_i n h
  unfold Mg at h;split at h
  ·split at h
   ·rename_i hc
    injection h with h
    subst h;exact hc.2
   ·cases h
  ·cases h
 ·exact⟨Int.le_refl _,by show(0:Int)≤_;omega⟩
theorem Kq{p:Pr}(h:GN p):GN p.next.2:=by unfold GN;rw [p.next_q];exact h
theorem ED{p:Pr}(h:GN p)(a b:Int):GN (p.number a b).2:=by unfold GN;rw [p.number_q];exact h
theorem J5{p:Pr}(h:GN p){c:FF}(hc:c.at_=p.q.com.at_):GN (p.com c):=by
 unfold GN Pr.com;rw [hc];exact h
theorem Y1(p:Pr):GN p.at_∧0≤p.at_.q.com.at_:=⟨⟨by have:=p.next.2.any_at;show _≤p.next.2.any.1;omega,(p.next.2.any_at).2⟩,(p.next.2.any_at).1⟩
theorem TP{p:Pr}: GN p.rules:=by
 have h:=Y1 p;unfold Pr.rules;split
 ·refine J5 ?_ rfl
  split
  ·exact Kq h.1
  ·exact Kq h.1
 ·split
  ·unfold GN Pr.com
   obtain⟨⟨h1,h2⟩,h3⟩:=h;show _≤-p.at_.q.com.at_ - 1∧-p.at_.q.com.at_ - 1≤_;omega
  ·exact h.1
theorem Wg{p:Pr}(h:GN p):GN p.page:=by
 unfold Pr.page;dsimp only;split
 ·exact ED h 1 3
 ·refine(show GN _ from ?_)
  have h1:GN { (p.number 1 3).2 with q:={ (p.number 1 3).2.q with count:=(p.number 1 3).1 } }:=ED h 1 3;exact ED (ED h1 1 1000000000000) 0 1000000000000
theorem TO(v:Int):∀f∈partsR v,∀p,GN p→GN (f p):=by
 have hn:∀p,GN p→GN p.name:=fun p h=>J5 (Kq h) rfl;have hw:∀p,GN p→GN p.want:=fun p h=>J5 (ED h _ _) rfl;have hk:∀p,GN p→GN p.key:=fun p h=>J5 (Kq h) rfl;have hN:∀p,GN p→GN p.n:=fun p h=>J5 (ED h _ _) rfl;have hM:∀p,GN p→GN p.m:=fun p h=>J5 (ED h _ _) rfl;have hr:∀p,GN p→GN p.rules:=fun p _=>TP;have hp:∀p,GN p→GN p.page:=fun p h=>Wg h;unfold partsR
 repeat' split
 all_goals
  intro f hf;simp only [Ac,Ab,or_false] at hf;rcases hf with rfl | rfl | rfl | rfl | rfl<;>assumption
theorem Ri:∀(l:List (Pr→Pr)),(∀f∈l,∀p,GN p→GN (f p))→∀p,GN p→GN (l.foldl (fun p f=>f p) p)
 | [],_,_,hp=>hp
 | f::l,h,p,hp=>Ri l (fun g hg=>h g (by simp [hg])) (f p) (h f bA p hp)
theorem We(l:List ByteArray): -1000000000001≤(K8 l).1.com.at_∧(K8 l).1.com.at_≤1000000000000:=by
 unfold K8;dsimp only;split
 ·decide
 ·split
  ·decide
  ·refine Ri _ (TO _) _ ?_
   unfold GN;simp only [Pr.com,Pr.next_q,Pr.number_q];exact⟨by decide,by decide⟩
theorem UY(s:ByteArray): -1000000000001≤(Bk s).1.com.at_∧(Bk s).1.com.at_≤1000000000000:=by
 unfold Bk;split
 ·exact(by decide : -1000000000001≤req0.com.at_∧req0.com.at_≤1000000000000)
 ·exact We _
theorem Qa(j:BC)(c:D2)(now:Int):(Df j c now).1.req=j.req∧(Df j c now).1.line=j.line:=by
 unfold Df;split
 ·exact⟨rfl,rfl⟩
 ·dsimp only
  repeat' split
  all_goals first | exact⟨rfl,rfl⟩ | (obtain⟨t,ht⟩:=UM j c.pool _ _ now;rw [ht];exact⟨rfl,rfl⟩)
theorem WR{j:BC}{c:D2}{now left:Int}(h : -9223372036854775808≤j.req.com.at_∧j.req.com.at_≤9223372036854775807):(-9223372036854775808≤(E2 j c now left).1.req.com.at_∧(E2 j c now left).1.req.com.at_≤9223372036854775807)∧(E2 j c now left).1.line=j.line:=by
 unfold E2;split
 ·have:=UY j.line
  dsimp only;split<;>exact⟨by show _≤(Bk j.line).1.com.at_∧(Bk j.line).1.com.at_≤_;omega,rfl⟩
 ·split
  ·dsimp only
   split<;>exact⟨h,rfl⟩
  ·split
   ·have:=Qa j c now
    dsimp only;rw [this.1,this.2];exact⟨h,rfl⟩
   ·split
    ·dsimp only
     split<;>exact⟨h,rfl⟩
    ·exact⟨h,rfl⟩
end
end Go.Proofs.YtcjdkbgdahgjbaaGreatDoor
