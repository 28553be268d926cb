/- Steps. -/
import Derived.Test.YtncebikgoleolaaGreatDoorKal
import Derived.Test.YtncebikgoleolaaGreatDoorKan
import Derived.Lib.AtoiAll
import Derived.Lib.ItoaNum
set_option maxRecDepth 100000
set_option maxHeartbeats 8000000
set_option linter.all false
namespace Go.Proofs.YtncebikgoleolaaGreatDoor
open _root_.Array renaming length_toList→BX
open _root_.Bool renaming and_eq_true→Af
open _root_.Classical renaming not_not→BB
open _root_.Int renaming toNat_natCast→pW
open IntKind renaming i64→pK
open Lib renaming parseUint10→qG
open _root_.List renaming all_eq_true→Bm,append_assoc→CC,cons_append→AL,getD_eq_getElem?_getD→AO,getElem?_eq_getElem→Aq,getElem?_eq_some_iff→Ad,getElem_mem→pS,length_append→Al,length_cons→Av,length_drop→B1,length_map→Bd,length_singleton→Bp,length_take→Ax,map_cons→CR,mem_append→AQ,mem_cons_of_mem→Ca,mem_cons_self→Bo,mem_cons→Ac,mem_map→BO,mem_of_getElem?→CD,mem_of_mem_drop→qI,mem_singleton→Ag,nil_append→BH,not_mem_nil→Ab,pairwise_append→BK
open _root_.Nat renaming add_mul→qL,le_refl→Aw,le_trans→A8,mul_le_mul_right→Ch,zero_add→AW
open _root_.UInt8 renaming ofNat→qE
open Value renaming bool→pI,int→pE,slice→pF,string→Dz
section
open Go
def str(l:List UInt8):ByteArray:=⟨l.toArray⟩
def IS:Nat->Nat->List UInt8
 | 0,_=>[]
 | k+1,u=>if u<10 then [qE (48+u)] else IS k (u / 10)++[qE (48+u % 10)]
theorem PX:∀(k u:Nat),u<10 ^ k->0<k->IS k u=Lib.decDigits u
 | 0,_,_,h=>absurd h bE
 | 1,u,h,_=>by
  rw [Lib.decDigits,dif_pos bK];unfold IS;rw [if_pos bK]
 | k+2,u,h,_=>by
  rw [Lib.decDigits];unfold IS;split
  ·rfl
  ·rw [PX (k+1) (u / 10) (Nat.div_lt_of_lt_mul (by rw [Nat.pow_succ] at h;omega)) bB]
def itoaL(n:Int):List UInt8:=if n<0 then 45::IS 20 n.natAbs else IS 20 n.toNat
theorem YA{n:Int}(h1 : -9223372036854775808<=n)(h2:n<=9223372036854775807):itoaL n=Lib.itoa n:=by
 unfold itoaL Lib.itoa;split
 ·rw [PX 20 _ bB bE]
 ·rw [PX 20 _ bB bE]
def Du(c:UInt8):List UInt8->List UInt8×List UInt8×Bool
 | []=>([],[],false)
 | b::l=>if b=c then([],l,true) else(b::(Du c l).1,(Du c l).2.1,(Du c l).2.2)
def Ow(most:Int):List UInt8->Int->Option Int
 | [],n=>some n
 | b::l,n=>if b.toNat<48\/57<b.toNat\/most<n then none else Ow most l (n*10+((b.toNat:Int) - 48))
def CG(s:List UInt8)(most:Int):Int×Bool:=match Ow most s 0 with
 | none=>(0,false)
 | some n=>(n,decide (n<=most)&&itoaL n==s)
def Ev:Nat->List UInt8->List Int->Option (List Int)
 | 0,_,p=>some p
 | k+1,s,p=>if(CG (Du 46 s).1 255).2&&(Du 46 s).2.2==decide (0<k) then Ev k (Du 46 s).2.1 (p++[(CG (Du 46 s).1 255).1]) else none
def Gv(s:List UInt8):Int×Int:=match Ev 4 s [] with
 | none=>(0,60)
 | some p=>(p.foldl (fun a b=>a*256+b) 0,0)
def Fv(s:List UInt8):(Int×Int)×Int:=
 if(CG (Du 47 s).2.1 32).2&&(Gv (Du 47 s).1).2==0&&FI (Gv (Du 47 s).1).1 (CG (Du 47 s).2.1 32).1 then(((Gv (Du 47 s).1).1,(CG (Du 47 s).2.1 32).1),0) else((0,0),61)
def FK(a:Int):List UInt8:=itoaL (a / 16777216 % 256)++46::(itoaL (a / 65536 % 256)++46::(itoaL (a / 256 % 256)++46::itoaL (a % 256)))
def prefixText(a b:Int):List UInt8:=FK a++47::itoaL b
def GG:List UInt8->Int->Int
 | [],n=>n
 | b::l,n=>if n*10+((b.toNat:Int) - 48)<0\/65535<n*10+((b.toNat:Int) - 48) then -1 else GG l (n*10+((b.toNat:Int) - 48))
def Dp(f t:Int):List UInt8×Int:=
 if Hd f t then if f=0/\t=65535 then([42],0) else if f=t then(itoaL f,0) else(itoaL f++45::itoaL t,0) else([],70)
def Js(s:List UInt8)(p:Int×Int):Bool:=(Dp p.1 p.2).2==0&&(Dp p.1 p.2).1==s
def JF(s:List UInt8):List (Int×Int):=[(0,65535),(GG s 0,GG s 0),(GG (Du 45 s).1 0,GG (Du 45 s).2.1 0)]
def EV(s:List UInt8):(Int×Int)×Int:=match(JF s).find? (Js s) with
 | some p=>(p,0)
 | none=>((0,0),70)
def PJ:List UInt8:=[97,108,108,111,119]
def fE:List UInt8:=[100,101,110,121]
def GA(r:EX):List UInt8×Int:=
 if La r then((if r.allow then PJ else fE)++32::(prefixText r.addr r.bits++32::(Dp r.from_ r.to_).1),0) else([],80)
def NL(s:List UInt8):EX×Int:=match Ce s with
 | .ok [a,b,c]=>
  let r:EX:=⟨a==PJ,(Fv b).1.1,(Fv b).1.2,(EV c).1.1,(EV c).1.2⟩
  if(Fv b).2=0/\(EV c).2=0/\(GA r).2=0/\(GA r).1=s then(r,0) else(IW,80)
 | _=>(IW,80)
structure QK where
 who:ByteArray
 id:Int
 com:FW
 count:Int
 cursor:Int
 from_:Int
 deriving DecidableEq
def req0:QK:=⟨⟨#[]⟩,0,Yb,0,0,0⟩
structure Pr where
 q:QK
 l:List ByteArray
 bad:Bool
def Pr.next(p:Pr):ByteArray×Pr:=match p.l with
 | []=>(⟨#[]⟩,{ p with bad:=true })
 | s::l=>(s,{ p with l:=l })
def Ny(s:ByteArray)(least most:Int):Option Int:=match Lib.atoiAll s.data.toList with
 | .ok n=>if str (itoaL n)=s/\least<=n/\n<=most then some n else none
 | _=>none
def Pr.number(p:Pr)(least most:Int):Int×Pr:=match Ny p.next.1 least most with
 | some n=>(n,p.next.2)
 | none=>(0,{ p.next.2 with bad:=true })
def Pr.any(p:Pr):Int×Pr:=p.number 0 1000000000000
def Pr.com(p:Pr)(c:FW):Pr:={ p with q:={ p.q with com:=c } }
def Pr.name(p:Pr):Pr:=p.next.2.com { p.next.2.q.com with name:=p.next.1 }
def Pr.want(p:Pr):Pr:=p.any.2.com { p.any.2.q.com with want:=p.any.1 }
def Pr.key(p:Pr):Pr:=p.next.2.com { p.next.2.q.com with key:=p.next.1 }
def Pr.n(p:Pr):Pr:=p.any.2.com { p.any.2.q.com with n:=p.any.1 }
def Pr.m(p:Pr):Pr:=p.any.2.com { p.any.2.q.com with m:=p.any.1 }
def M7:ByteArray:=str [105,110,115,101,114,116]
def M8:ByteArray:=str [114,101,109,111,118,101]
def Pr.at_(p:Pr):Pr:=p.next.2.any.2.com { p.next.2.any.2.q.com with at_:=p.next.2.any.1 }
def Pr.rules(p:Pr):Pr:=
 if p.next.1=M7 then
  let s:=p.at_.next
  let r:=NL s.1.data.toList
  let p2:Pr:=if r.2=0 then s.2 else { s.2 with bad:=true }
  p2.com { p2.q.com with rule:=r.1 }
 else if p.next.1=M8 then p.at_.com { p.at_.q.com with at_:=-p.at_.q.com.at_ - 1 }
 else { p.at_ with bad:=true }
def Pr.page(p:Pr):Pr:=
 let a:=p.number 1 3
 let p1:Pr:={ a.2 with q:={ a.2.q with count:=a.1 } }
 if p1.l.length=0 then p1 else
  let b:=p1.number 1 1000000000000
  let c:=b.2.any
  { c.2 with q:={ c.2.q with cursor:=b.1,from_:=c.1 } }
def partsR(verb:Int):List (Pr->Pr):=
 if verb=1 then [Pr.name,Pr.key,Pr.n] else if verb=4 then [Pr.name,Pr.want,Pr.n] else if verb=6 then [Pr.name,Pr.want,Pr.key,Pr.n,Pr.m]
 else if verb=7 then [Pr.name,Pr.want,Pr.rules] else if verb=9 then [Pr.page] else [Pr.name,Pr.want]
def Je(l:List ByteArray):QK×Int:=
 let p0:Pr:=⟨req0,l,false⟩
 let a:=p0.next
 let p1:Pr:={ a.2 with q:={ a.2.q with who:=a.1 } }
 let b:=p1.number 1 1000000
 let p2:Pr:={ b.2 with q:={ b.2.q with id:=b.1 } }
 let c:=p2.next
 let v:=verbR c.1
 let p3:Pr:=c.2.com { c.2.q.com with verb:=v.1 }
 if v.2≠0 then(req0,193) else
  let p4:=(partsR v.1).foldl (fun p f=>f p) p3
  if p4.bad=true\/0<p4.l.length then(req0,193) else(p4.q,0)
def E1(s:ByteArray):QK×Int:=match Ce s.data.toList with
 | .error e=>(req0,e)
 | .ok l=>Je (l.map str)
structure Bq where
 conn:Int
 phase:Int
 line:ByteArray
 req:QK
 role:Int
 reply:ByteArray
 slot:Int
 gen:Int
 deriving DecidableEq
def job0:Bq:=⟨0,0,⟨#[]⟩,req0,0,⟨#[]⟩,0,0⟩
structure IA where
 who:ByteArray
 id:Int
 text:ByteArray
 deriving DecidableEq
structure BN where
 ops:List GF
 reg:CJ
 pool:Po
 jobs:List Bq
 done:List IA
def Hl:BN:=⟨[],WM,Uf,[],[]⟩
def Gn(j:Bq):Bool:=decide (0<=j.conn)&&decide (j.conn<4)&&decide (1<=j.phase)&&decide (j.phase<=5)&&decide (0<=j.req.id)&&decide (j.req.id<=1000000)
def EB:List Int->List Bq->Bool
 | _,[]=>true
 | met,j::l=>Gn j&&!met.contains j.conn&&EB (met++[j.conn]) l
def JY(c:BN):Bool:=EB [] c.jobs&&decide (c.done.length<=8)&&G9 c.ops&&I1 c.reg&&Ej c.pool
def W6(ops:List GF)(n:Int):BN×Int:=
 if G9 ops then if(Qz n).2=0 then(⟨ops,(Qz n).1,⟨[],1⟩,[],[]⟩,0) else(Hl,(Qz n).2) else(Hl,190)
def BF(l:List Bq)(conn:Int):Option Nat:=l.findIdx? (fun j=>j.conn==conn)
def Fj(c:BN)(conn:Int)(line:ByteArray):BN×Int:=
 if JY c then if conn<0\/4<=conn then(Hl,2) else if(BF c.jobs conn).isSome then(Hl,191) else({ c with jobs:=c.jobs++[{ job0 with conn:=conn,phase:=1,line:=line }] },0) else(Hl,190)
def Ex(l:List ByteArray):ByteArray:=match Gc (l.map fun s=>s.data.toList) with
 | .ok t=>str t
 | .error _=>⟨#[]⟩
def E2(n:Int):ByteArray:=str (itoaL n)
def okT:ByteArray:=str [111,107]
def Eh:ByteArray:=str [101,114,114,111,114]
def qV:ByteArray:=str [101,110,100]
def Bq.answers(j:Bq)(t:ByteArray):Bq:={ j with reply:=t,phase:=5 }
def Bq.refuses(j:Bq)(id e:Int):Bq:=j.answers (Ex [Eh,E2 id,E2 e])
def Bf(l:List IA)(who:ByteArray)(id:Int):Option ByteArray:=(l.find? fun a=>a.who==who&&a.id==id).map (·.text)
def Ft(j:Bq)(p:Po)(names:List ByteArray)(seq now:Int):Bq×Po:=
 let pc:=if j.req.cursor=0 then IV p names now else(p,j.req.cursor,0)
 if pc.2.2≠0 then(j.refuses j.req.id pc.2.2,p) else
  let g:=qO pc.1 pc.2.1 j.req.from_ j.req.count now
  if g.2.2.2≠0 then(j.refuses j.req.id g.2.2.2,p) else
   (j.answers (Ex ([okT,E2 j.req.id,E2 seq,E2 pc.2.1,if 0<=g.2.2.1 then E2 g.2.2.1 else qV]++g.2.1)),g.1)
def Lh(verb:Int):Bool:=decide (verb=2)||decide (verb=5)||decide (verb=8)
def Do(l:List IA):List IA:=l.drop (l.length - 8)
def commitC(j:Bq)(c:BN)(now:Int):Bq×BN:=match Bf c.done j.req.who j.req.id with
 | some t=>(j.answers t,c)
 | none=>
  let d:=pY c.reg j.role j.req.com now
  let a:=d.2
  let reg:=if a.err≠150 then d.1 else c.reg
  let jp:Bq×Po:=
   if a.err≠0 then(j.refuses j.req.id a.err,c.pool)
   else if j.req.com.verb=9 then Ft j c.pool (Bz reg) a.seq now
   else
    let k:=j.answers (Ex [okT,E2 j.req.id,E2 a.seq,E2 a.slot,E2 a.gen,E2 a.version,E2 a.state])
    (if Lh j.req.com.verb then { k with phase:=4,slot:=a.slot,gen:=a.gen } else k,c.pool)
  (jp.1,{ c with reg:=reg,pool:=jp.2,done:=Do (c.done++[⟨j.req.who,j.req.id,jp.1.reply⟩]) })
structure GJ where
 kind:Int
 slot:Int
 gen:Int
 text:ByteArray
 deriving DecidableEq
def Cp:GJ:=⟨0,0,0,⟨#[]⟩⟩
def Co(j:Bq)(c:BN)(now left:Int):Bq×BN×GJ:=
 if j.phase=1 then
  let q:=E1 j.line
  let k:Bq:={ j with req:=q.1 }
  (if q.2≠0 then k.refuses 0 193 else { k with phase:=2 },c,Cp)
 else if j.phase=2 then
  let r:=BM c.ops j.req.who
  let k:Bq:={ j with role:=r.1 }
  (if r.2≠0 then k.refuses k.req.id r.2 else { k with phase:=3 },c,Cp)
 else if j.phase=3 then((commitC j c now).1,(commitC j c now).2,Cp)
 else if j.phase=4 then(if left=0 then { j with phase:=5 } else j,c,if left=0 then Cp else⟨1,j.slot,j.gen,⟨#[]⟩⟩)
 else(j,c,⟨2,0,0,j.reply⟩)
def EC(c:BN)(conn now left:Int):BN×GJ×Int:=
 if JY c then if now<0\/1000000000000<now\/left<0 then(Hl,Cp,2) else
  match BF c.jobs conn with
  | none=>(Hl,Cp,192)
  | some i=>
   let s:=Co (c.jobs.getD i job0) c now left
   ({ s.2.1 with jobs:=if s.2.2.kind=2 then(c.jobs.set i s.1).eraseIdx i else c.jobs.set i s.1 },s.2.2,0)
 else(Hl,Cp,190)
def D9:Nat->BN->Int->Int->BN×ByteArray
 | 0,c,_,_=>(c,⟨#[]⟩)
 | k+1,c,conn,now=>
  if(EC c conn now 0).2.2≠0 then(c,⟨#[]⟩) else
   if(EC c conn now 0).2.1.kind=2 then((EC c conn now 0).1,(EC c conn now 0).2.1.text) else D9 k (EC c conn now 0).1 conn now
def pZ(c:BN)(conn:Int)(line:ByteArray)(now:Int):BN×ByteArray:=
 if(Fj c conn line).2=0 then D9 6 (Fj c conn line).1 conn now else((Fj c conn line).1,⟨#[]⟩)
def nm(l:List Nat):ByteArray:=str (l.map qE)
inductive oQ|mk (A:QK)
abbrev Q_:=oQ.mk
instance(A:QK):CoeDep oQ (Q_ A) (Array Value):=⟨#[Dz A.who,pE pK A.id,pE pK A.com.verb,Dz A.com.name,pE pK A.com.want,pE pK A.com.at_,pI A.com.rule.allow,pE pK A.com.rule.addr,pE pK A.com.rule.bits,pE pK A.com.rule.from_,pE pK A.com.rule.to_,Dz A.com.key,pE pK A.com.n,pE pK A.com.m,pE pK A.count,pE pK A.cursor,pE pK A.from_]⟩
end
section
open Go.RowKit
def Fb(n:Int):List Value:=[pE pK n]
def JM(b:Bool):List Value:=[pI b]
def Fd(s:ByteArray):List Value:=[Dz s]
def Eg(o:GF):List Value:=[Dz o.name,pE pK o.role]
def B8(r:EX):List Value:=[pI r.allow,pE pK r.addr,pE pK r.bits,pE pK r.from_,pE pK r.to_]
def BT(c:El):List Value:=[pE pK c.id,Dz c.key,pE pK c.from_,pE pK c.to_]
def Cu(a:IA):List Value:=[Dz a.who,pE pK a.id,Dz a.text]
def PY(c:FW):List Value:=[pE pK c.verb,Dz c.name,pE pK c.want,pE pK c.at_]++B8 c.rule++[Dz c.key,pE pK c.n,pE pK c.m]
def PZ(q:QK):List Value:=[Dz q.who,pE pK q.id]++PY q.com++[pE pK q.count,pE pK q.cursor,pE pK q.from_]
def encJob(j:Bq):List Value:=[pE pK j.conn,pE pK j.phase,Dz j.line]++PZ j.req++[pE pK j.role,Dz j.reply,pE pK j.slot,pE pK j.gen]
def Rt(h:Int×Int):List Value:=[pE pK h.1,pE pK h.2]
structure TV where
 slot:Int
 gen:Int
 name:ByteArray
 state:Int
 version:Int
 ra:Option Addr
 rl:Nat
 rc:Nat
 ca:Option Addr
 cl:Nat
 cc:Nat
 deadline:Int
def BE(t:TV):List Value:=[pE pK t.slot,pE pK t.gen,Dz t.name,pE pK t.state,pE pK t.version,pF t.ra t.rl t.rc,pF t.ca t.cl t.cc,pE pK t.deadline]
theorem Eu(x:Int):(Fb x).length=1:=rfl
theorem KG(x:Bool):(JM x).length=1:=rfl
theorem DY(x:ByteArray):(Fd x).length=1:=rfl
theorem Fc(x:GF):(Eg x).length=2:=rfl
theorem Cv(x:EX):(B8 x).length=5:=rfl
theorem D0(x:El):(BT x).length=4:=rfl
theorem DL(x:IA):(Cu x).length=3:=rfl
theorem Dc(x:Bq):(encJob x).length=24:=rfl
theorem Ru(x:Int×Int):(Rt x).length=2:=rfl
theorem CF(x:TV):(BE x).length=8:=rfl
theorem KH:∀(x:Int),∀u∈Fb x,u.oneCell'=true:=by intro x u hu;simp only [Fb,Ac,Ab,or_false] at hu;subst hu;rfl
theorem Ym:∀(x:Bool),∀u∈JM x,u.oneCell'=true:=by intro x u hu;simp only [JM,Ac,Ab,or_false] at hu;subst hu;rfl
theorem Ho:∀(x:ByteArray),∀u∈Fd x,u.oneCell'=true:=by intro x u hu;simp only [Fd,Ac,Ab,or_false] at hu;subst hu;rfl
theorem MW:∀(x:GF),∀u∈Eg x,u.oneCell'=true:=by intro x u hu;simp only [Eg,Ac,Ab,or_false] at hu;rcases hu with rfl | rfl<;>rfl
theorem FA:∀(x:EX),∀u∈B8 x,u.oneCell'=true:=by intro x u hu;simp only [B8,Ac,Ab,or_false] at hu;rcases hu with rfl | rfl | rfl | rfl | rfl<;>rfl
theorem Iq:∀(x:El),∀u∈BT x,u.oneCell'=true:=by intro x u hu;simp only [BT,Ac,Ab,or_false] at hu;rcases hu with rfl | rfl | rfl | rfl<;>rfl
theorem Kc:∀(x:IA),∀u∈Cu x,u.oneCell'=true:=by intro x u hu;simp only [Cu,Ac,Ab,or_false] at hu;rcases hu with rfl | rfl | rfl<;>rfl
theorem Ir:∀(x:Bq),∀u∈encJob x,u.oneCell'=true:=by
 intro x u hu;simp only [encJob,PZ,PY,B8,AL,BH,Ac,Ab,or_false] at hu;rcases hu with rfl | rfl | rfl | rfl | rfl | rfl | rfl | rfl | rfl | rfl | rfl | rfl | rfl | rfl | rfl | rfl | rfl | rfl | rfl | rfl | rfl | rfl | rfl | rfl<;>rfl
theorem Yn:∀(x:Int×Int),∀u∈Rt x,u.oneCell'=true:=by intro x u hu;simp only [Rt,Ac,Ab,or_false] at hu;rcases hu with rfl | rfl<;>rfl
theorem FB:∀(x:TV),∀u∈BE x,u.oneCell'=true:=by intro x u hu;simp only [BE,Ac,Ab,or_false] at hu;rcases hu with rfl | rfl | rfl | rfl | rfl | rfl | rfl | rfl<;>rfl
abbrev F1:=AR Fb 1
abbrev GX:=AR JM 1
abbrev Kv:=AR Fd 1
abbrev IE:=AR Eg 2
abbrev Ku:=AR B8 5
abbrev Hg:=AR BT 4
abbrev O8:=AR Cu 3
abbrev Kt:=AR encJob 24
structure Cj(w:World)(v:TV)(t:Ten):Prop where
 slot:v.slot=t.slot
 gen:v.gen=t.gen
 name:v.name=t.name
 state:v.state=t.state
 version:v.version=t.version
 deadline:v.deadline=t.deadline
 rl:t.rules.length=v.rl
 cl:t.creds.length=v.cl
 rs:Ku w v.ra v.rc t.rules
 cs:Hg w v.ca v.cc t.creds
theorem Cj.keeps{w w':World}{v:TV}{t:Ten}(h:Cj w v t)(hk:Aa [] w w'):Cj w' v t:={ h with rs:=h.rs.keeps hk,cs:=h.cs.keeps hk }
def AX(w:World):List TV->List Ten->Prop
 | [],[]=>True
 | v::V,t::L=>Cj w v t/\AX w V L
 | _,_=>False
theorem AX.keeps{w w':World}: ∀ {V:List TV} {L:List Ten},AX w V L->Aa [] w w'->AX w' V L
 | [],[],_,_=>trivial
 | _::_,_::_,h,hk=>⟨h.1.keeps hk,AX.keeps h.2 hk⟩
 | [],_::_,h,_=>h.elim
 | _::_,[],h,_=>h.elim
theorem AX.len{w:World}: ∀ {V:List TV} {L:List Ten},AX w V L->V.length=L.length
 | [],[],_=>rfl
 | _::_,_::_,h=>by simp [AX.len h.2]
 | [],_::_,h=>h.elim
 | _::_,[],h=>h.elim
theorem AX.get{w:World}: ∀ {V:List TV} {L:List Ten},AX w V L->∀(k:Nat) (h1:k<V.length) (h2:k<L.length),Cj w V[k] L[k]
 | _::_,_::_,h,0,_,_=>h.1
 | _::_,_::_,h,k+1,h1,h2=>AX.get h.2 k bR kC
 | [],[],_,_,h1,_=>by simp at h1
 | [],_::_,h,_,_,_=>h.elim
 | _::_,[],h,_,_,_=>h.elim
theorem AX.app{w:World}: ∀ {V V':List TV} {L L':List Ten},AX w V L->AX w V' L'->AX w (V++V') (L++L')
 | [],_,[],_,_,h'=>h'
 | _::_,_,_::_,_,h,h'=>⟨h.1,AX.app h.2 h'⟩
 | [],_,_::_,_,h,_=>h.elim
 | _::_,_,[],_,h,_=>h.elim
theorem AX.take{w:World}: ∀ {V:List TV} {L:List Ten} (k:Nat),AX w V L->AX w (V.take k) (L.take k)
 | _,_,0,_=>trivial
 | [],[],_+1,_=>trivial
 | _::_,_::_,k+1,h=>⟨h.1,AX.take k h.2⟩
 | [],_::_,_+1,h=>h.elim
 | _::_,[],_+1,h=>h.elim
theorem AX.drop{w:World}: ∀ {V:List TV} {L:List Ten} (k:Nat),AX w V L->AX w (V.drop k) (L.drop k)
 | _,_,0,h=>h
 | [],[],_+1,_=>trivial
 | _::_,_::_,k+1,h=>AX.drop k h.2
 | [],_::_,_+1,h=>h.elim
 | _::_,[],_+1,h=>h.elim
structure DF where
 ga:Option Addr
 gc:Nat
 ua:Option Addr
 uc:Nat
 fa:Option Addr
 fc:Nat
structure Dy(w:World)(v:DF)(s:Fz):Prop where
 g:F1 w v.ga v.gc s.gens
 u:GX w v.ua v.uc s.used
 f:F1 w v.fa v.fc s.free
 sg:s.gens.length≤1000
 su:s.used.length≤1000
 sf:s.free.length≤1000
theorem Dy.keeps{w w':World}{v:DF}{s:Fz}(h:Dy w v s)(hk:Aa [] w w'):Dy w' v s:={ h with g:=h.g.keeps hk,u:=h.u.keeps hk,f:=h.f.keeps hk }
structure B6 where
 s:DF
 la:Option Addr
 lc:Nat
 lv:List TV
structure CH(w:World)(v:B6)(r:CJ):Prop where
 s:Dy w v.s r.slots
 l:AR BE 8 w v.la v.lc v.lv
 t:AX w v.lv r.l
 sl:r.l.length≤1000
 small:∀t∈r.l,t.rules.length≤1000∧t.creds.length≤1000
theorem CH.keeps{w w':World}{v:B6}{r:CJ}(h:CH w v r)(hk:Aa [] w w'):CH w' v r:={ h with s:=h.s.keeps hk,l:=h.l.keeps hk,t:=h.t.keeps hk }
inductive oT|mk (A:TV)
abbrev T_:=oT.mk
instance(A:TV):CoeDep oT (T_ A) (Array Value):=⟨#[pE pK A.slot,pE pK A.gen,Dz A.name,pE pK A.state,pE pK A.version,.slice A.ra A.rl A.rc,.slice A.ca A.cl A.cc,pE pK A.deadline]⟩
inductive oU|mk (A:TV)(B:Int)
abbrev U_:=oU.mk
instance(A:TV)(B:Int):CoeDep oU (U_ A B) (Array Value):=⟨#[pE pK A.slot,pE pK A.gen,Dz A.name,pE pK A.state,pE pK A.version,.slice A.ra A.rl A.rc,.slice A.ca A.cl A.cc,pE pK A.deadline,pE pK B]⟩
inductive oM|mk (A:TV)(B:Int)(P:FW)(D:Int)
abbrev G_:=oM.mk
instance(A:TV)(B:Int)(P:FW)(D:Int):CoeDep oM (G_ A B P D) (Array Value):=⟨#[pE pK A.slot,pE pK A.gen,Dz A.name,pE pK A.state,pE pK (A.version+1),.slice A.ra A.rl A.rc,.slice A.ca A.cl A.cc,pE pK A.deadline,pE pK B,pE pK P.verb,Dz P.name,pE pK P.want,pE pK P.at_,pI P.rule.allow,pE pK P.rule.addr,pE pK P.rule.bits,pE pK P.rule.from_,pE pK P.rule.to_,Dz P.key,pE pK P.n,pE pK P.m,pE pK D]⟩
inductive oS|mk (A:DF)(B C D:Nat)
abbrev S_:=oS.mk
instance(A:DF)(B C D:Nat):CoeDep oS (S_ A B C D) (Array Value):=⟨#[.slice A.ga B A.gc,.slice A.ua C A.uc,.slice A.fa D A.fc]⟩
inductive oR|mk (A:B6)(B C D E:Nat)(F:Int)
abbrev R_:=oR.mk
instance(A:B6)(B C D E:Nat)(F:Int):CoeDep oR (R_ A B C D E F) (Array Value):=⟨#[.slice A.s.ga B A.s.gc,.slice A.s.ua C A.s.uc,.slice A.s.fa D A.s.fc,.slice A.la E A.lc,pE pK F]⟩
end
section
open Go
structure Oi(p q:Pr):Prop where
 bad:q.bad=false→p.bad=false
 num:q.q.id=p.q.id
 verb:q.q.com.verb=p.q.com.verb
theorem Oi.refl(p:Pr):Oi p p:=⟨id,rfl,rfl⟩
theorem Oi.trans{a b c:Pr}(h:Oi a b)(k:Oi b c):Oi a c:=⟨fun e=>h.bad (k.bad e),k.num.trans h.num,k.verb.trans h.verb⟩
theorem Pr.next_k(p:Pr):Oi p p.next.2:=by
 unfold Pr.next;cases p.l with
 | nil=>exact⟨(fun h=>by cases h),rfl,rfl⟩
 | cons s l=>exact⟨id,rfl,rfl⟩
theorem Pr.number_k(p:Pr)(a b:Int):Oi p (p.number a b).2:=by
 unfold Pr.number;cases Ny p.next.1 a b with
 | none=>exact⟨(fun h=>by cases h),p.next_k.num,p.next_k.verb⟩
 | some n=>exact p.next_k
theorem Pr.number_in{p:Pr}{a b:Int}(h:(p.number a b).2.bad=false):a<=(p.number a b).1/\(p.number a b).1<=b:=by
 unfold Pr.number at h ⊢;cases hn:Ny p.next.1 a b with
 | none=>rw [hn] at h;cases h
 | some n=>
  unfold Ny at hn;split at hn
  ·split at hn
   ·rename_i hh
    cases hn;exact hh.2
   ·cases hn
  ·cases hn
theorem Pr.com_k(p:Pr)(c:FW)(h:c.verb=p.q.com.verb):Oi p (p.com c):=⟨id,rfl,h⟩
theorem Pr.name_k(p:Pr):Oi p p.name:=p.next_k.trans (Pr.com_k _ _ rfl)
theorem Pr.key_k(p:Pr):Oi p p.key:=p.next_k.trans (Pr.com_k _ _ rfl)
theorem Pr.any_k(p:Pr):Oi p p.any.2:=p.number_k _ _
theorem Pr.want_k(p:Pr):Oi p p.want:=p.any_k.trans (Pr.com_k _ _ rfl)
theorem Pr.n_k(p:Pr):Oi p p.n:=p.any_k.trans (Pr.com_k _ _ rfl)
theorem Pr.m_k(p:Pr):Oi p p.m:=p.any_k.trans (Pr.com_k _ _ rfl)
theorem Pr.at_k(p:Pr):Oi p p.at_:=(p.next_k.trans (p.next.2.any_k)).trans (Pr.com_k _ _ rfl)
theorem Pr.rules_k(p:Pr):Oi p p.rules:=by
 unfold Pr.rules;split
 ·refine(p.at_k.trans p.at_.next_k).trans ?_
  dsimp only;split
  ·exact Pr.com_k _ _ rfl
  ·exact⟨(fun h=>by cases h),rfl,rfl⟩
 ·split
  ·exact p.at_k.trans (Pr.com_k _ _ rfl)
  ·exact⟨(fun h=>by cases h),p.at_k.num,p.at_k.verb⟩
theorem Pr.page_k(p:Pr):Oi p p.page:=by
 unfold Pr.page;have h1:=p.number_k 1 3;dsimp only;split
 ·exact⟨h1.bad,h1.num,h1.verb⟩
 ·have h2:=Pr.number_k { (p.number 1 3).2 with q:={ (p.number 1 3).2.q with count:=(p.number 1 3).1 } } 1 1000000000000
  have h3:=Pr.any_k (Pr.number { (p.number 1 3).2 with q:={ (p.number 1 3).2.q with count:=(p.number 1 3).1 } } 1 1000000000000).2;exact⟨fun h=>h1.bad (h2.bad (h3.bad h)),h3.num.trans (h2.num.trans h1.num),h3.verb.trans (h2.verb.trans h1.verb)⟩
theorem UZ(v:Int):∀f∈partsR v,∀p,Oi p (f p):=by
 unfold partsR;intro f hf p
 repeat' split at hf
 all_goals simp only [Ac,Ab,or_false] at hf
 all_goals rcases hf with rfl | rfl | rfl | rfl | rfl<;>first | exact p.name_k | exact p.key_k | exact p.n_k | exact p.want_k | exact p.m_k | exact p.rules_k | exact p.page_k
theorem T6:∀(l:List (Pr->Pr)),(∀f∈l,∀p,Oi p (f p))->∀p,Oi p (l.foldl (fun p f=>f p) p)
 | [],_,p=>Oi.refl p
 | f::l,h,p=>(h f Bo p).trans (T6 l (fun g hg=>h g (Ca _ hg)) (f p))
theorem ZV{s:ByteArray}(h:(verbR s).2=0):1<=(verbR s).1/\(verbR s).1<=10:=by
 unfold verbR at h ⊢;cases hf:B7.find? (fun v=>v.2.1==s.data.toList) with
 | none=>rw [hf] at h;simp at h
 | some v=>
  have hm:=List.mem_of_find?_eq_some hf;have B:∀v∈B7,1<=v.1/\v.1<=10:=bE;exact B v hm
theorem U8{l:List ByteArray}(h:(Je l).2=0):1<=(Je l).1.id/\(Je l).1.id<=1000000/\1<=(Je l).1.com.verb/\(Je l).1.com.verb<=10:=by
 unfold Je at h ⊢;dsimp only at h ⊢;split at h
 ·simp at h
 ·rename_i hv
  split at h
  ·simp at h
  ·rename_i hb
   rw [if_neg hv,if_neg hb];have B:=ZV (BB.1 hv);generalize hp1:({ (Pr.next ⟨req0,l,false⟩).2 with q:={ (Pr.next ⟨req0,l,false⟩).2.q with who:=(Pr.next ⟨req0,l,false⟩).1 } } : Pr)=p1 at hv hb B ⊢;generalize hp2:({ (p1.number 1 1000000).2 with q:={ (p1.number 1 1000000).2.q with id:=(p1.number 1 1000000).1 } } : Pr)=p2 at hv hb B ⊢;generalize hp3:p2.next.2.com { p2.next.2.q.com with verb:=(verbR p2.next.1).1 } = p3 at hb ⊢;have hk:=T6 _ (UZ (verbR p2.next.1).1) p3;generalize (partsR (verbR p2.next.1).1).foldl (fun p f=>f p) p3=p4 at hb hk ⊢;have hb4:p4.bad=false:=by
    cases hb':p4.bad with
    | false=>rfl
    | true=>exact absurd (.inl hb') hb
   have D:=hk.bad hb4;have hb2:p2.bad=false:=by rw [<- hp3] at D;exact p2.next_k.bad D
   have hbn:(p1.number 1 1000000).2.bad=false:=by rw [<- hp2] at hb2;exact hb2
   have E:=Pr.number_in hbn;have hid:p4.q.id=(p1.number 1 1000000).1:=by
    rw [hk.num,<- hp3];show p2.next.2.q.id=_;rw [p2.next_k.num,<- hp2]
   have F:p4.q.com.verb=(verbR p2.next.1).1:=by rw [hk.verb,<- hp3];rfl
   rw [hid,F];exact⟨E.1,E.2,B.1,B.2⟩
theorem U7{r:Cm}{st:WS}{b:UInt8}{k:Int}(h:r.add st b = .error k):k≠0:=by
 unfold Cm.add at h;split at h
 ·cases h;decide
 ·cases h
theorem XP{r:Cm}{b:UInt8}{e:Bool}{k:Int}(h:r.bareS b e = .error k):k≠0:=by
 unfold Cm.bareS at h
 repeat' split at h
 all_goals first | exact U7 h | (cases h;done) | (cases h;decide)
theorem SD{r:Cm}{b:UInt8}{e:Bool}{k:Int}(h:r.step b e = .error k):k≠0:=by
 unfold Cm.step at h
 repeat' split at h
 all_goals first | exact U7 h | exact XP h | (cases h;done) | (cases h;decide)
theorem S3:∀ {l:List UInt8} {r:Cm} {k:Int},Ek l r = .error k->k≠0
 | [],r,k,h=>by cases h
 | b::l,r,k,h=>by
  unfold Ek at h;cases hs:r.step b false with
  | error e=>rw [hs] at h;cases h;exact SD hs
  | ok r'=>rw [hs] at h;exact S3 (l:=l) h
theorem JG{s:List UInt8}{k:Int}(h:Ce s = .error k):k≠0:=by
 unfold Ce at h;split at h
 ·cases h;decide
 ·split at h
  ·cases h;decide
  ·cases hr:Ek s .zero with
   | error e=>rw [hr] at h;cases h;exact S3 hr
   | ok r=>
    rw [hr] at h;simp only [Except.bind] at h;cases hs:r.step 0 true with
    | error e=>rw [hs] at h;cases h;exact SD hs
    | ok r'=>rw [hs] at h;cases h
theorem N9{s:ByteArray}(h:(E1 s).2=0):1<=(E1 s).1.id/\(E1 s).1.id<=1000000/\1<=(E1 s).1.com.verb/\(E1 s).1.com.verb<=10:=by
 unfold E1 at h ⊢;cases hs:Ce s.data.toList with
 | error e=>
  rw [hs] at h;exfalso;dsimp only at h;subst h;exact JG hs rfl
 | ok l=>rw [hs] at h;exact U8 h
end
section
theorem Hq(j:Bq):Gn j=true↔0<=j.conn/\j.conn<4/\1<=j.phase/\j.phase<=5/\0<=j.req.id/\j.req.id<=1000000:=by
 simp only [Gn,Af,decide_eq_true_eq,and_assoc]
theorem Fe(n:Int){j k:Bq}(h:Gn j=true)(h1:k.conn=j.conn)(hp:k.phase=n)(h2:1<=n/\n<=5)(h3:k.req=j.req):Gn k=true:=by
 obtain⟨a,b,_,_,e,f⟩:=(Hq j).1 h;exact(Hq k).2 ⟨by rw [h1];exact a,by rw [h1];exact b,by rw [hp];exact h2.1,by rw [hp];exact h2.2,by rw [h3];exact e,by rw [h3];exact f⟩
theorem Pe:∀(l:List Bq) (met:List Int),EB met l=true↔(∀j∈l,Gn j=true/\j.conn∉met)/\l.Pairwise (fun a b=>a.conn≠b.conn)
 | [],met=>by simp [EB]
 | j::l,met=>by
  unfold EB;simp only [Af,Bool.not_eq_true',List.contains_eq_mem,decide_eq_false_iff_not,Pe l (met++[j.conn]),AQ,not_or,Ac,List.pairwise_cons];constructor
  ·rintro⟨⟨h1,h2⟩,h3,h4⟩
   refine⟨fun x hx=>?_,fun x hx=>?_,h4⟩
   ·rcases hx with rfl | hx
    ·exact⟨h1,h2⟩
    ·exact⟨(h3 x hx).1,(h3 x hx).2.1⟩
   ·exact fun e=>(h3 x hx).2.2.1 e.symm
  ·rintro⟨h1,h2,h3⟩
   exact⟨h1 j (.inl rfl),fun x hx=>⟨(h1 x (.inr hx)).1,(h1 x (.inr hx)).2,fun e=>h2 x hx e.symm,by simp⟩,h3⟩
structure Gd(c:BN):Prop where
 job:∀j∈c.jobs,Gn j=true
 conn:c.jobs.Pairwise (fun a b=>a.conn≠b.conn)
 done:c.done.length≤8
 ops:G9 c.ops=true
 reg:CE c.reg
 pool:Ok c.pool
theorem G1(c:BN):JY c=true↔Gd c:=by
 unfold JY;simp only [Af,decide_eq_true_eq,Pe,Z4,LM,Ab,not_false_eq_true,and_true];constructor
 ·rintro⟨⟨⟨⟨⟨h1,h2⟩,h3⟩,h4⟩,B⟩,D⟩;exact⟨h1,h2,h3,h4,B,D⟩
 ·rintro⟨h1,h2,h3,h4,B,D⟩;exact⟨⟨⟨⟨⟨h1,h2⟩,h3⟩,h4⟩,B⟩,D⟩
theorem Za{p:Po}{cur f n now:Int}(h:(qO p cur f n now).2.2.2=0):Ok (qO p cur f n now).1:=by
 unfold qO at h ⊢;split at h
 ·rename_i hc
  rw [if_pos hc];split at h
  ·simp at h
  ·rename_i hn
   rw [if_neg hn];cases hf:CN (Ga cur f now) p.l with
   | none=>rw [hf] at h;simp at h
   | some i=>
    rw [hf] at h;dsimp only at h ⊢;cases hs:p.l[i]? with
    | none=>rw [hs] at h;simp at h
    | some s=>exact(((Hj p now).1 hc).page hs).ok
 ·simp at h
theorem dE{j:Bq}{p:Po}{names:List ByteArray}{seq now:Int}(h:Ok p):Ok (Ft j p names seq now).2:=by
 unfold Ft;generalize (if j.req.cursor=0 then IV p names now else(p,j.req.cursor,0))=pc;dsimp only;split
 ·exact h
 ·split
  ·exact h
  ·rename_i h2
   exact Za (BB.1 h2)
theorem Nu(j:Bq)(p:Po)(names:List ByteArray)(seq now:Int):∃t,(Ft j p names seq now).1=j.answers t:=by
 unfold Ft;generalize (if j.req.cursor=0 then IV p names now else(p,j.req.cursor,0))=pc;dsimp only;split
 ·exact⟨_,rfl⟩
 ·split<;>exact⟨_,rfl⟩
theorem Hb(l:List IA):(Do l).length<=8:=by
 unfold Do;rw [B1];omega
theorem F7{j:Bq}(h:Gn j=true)(t:ByteArray):Gn (j.answers t)=true/\(j.answers t).conn=j.conn:=by
 exact⟨Fe 5 h rfl rfl bE rfl,rfl⟩
structure MF(j:Bq)(s:Bq×BN×GJ):Prop where
 job:Gn s.1=true
 conn:s.1.conn=j.conn
 done:s.2.1.done.length≤8
 ops:G9 s.2.1.ops=true
 reg:CE s.2.1.reg
 pool:Ok s.2.1.pool
theorem VK{j:Bq}{c:BN}(h:Gd c)(hj:Gn j=true)(now:Int)(e:GJ):MF j ((commitC j c now).1,(commitC j c now).2,e):=by
 unfold commitC;cases Bf c.done j.req.who j.req.id with
 | some t=>exact⟨(F7 hj t).1,rfl,h.done,h.ops,h.reg,h.pool⟩
 | none=>
  dsimp only;have B:CE (if(pY c.reg j.role j.req.com now).2.err≠150 then(pY c.reg j.role j.req.com now).1 else c.reg):=by
   split
   ·rename_i h1;exact MI h.reg _ _ _ h1
   ·exact h.reg
  split
  ·exact⟨(F7 hj _).1,rfl,Hb _,h.ops,B,h.pool⟩
  ·split
   ·obtain⟨t,D⟩:=Nu j c.pool (Bz (if(pY c.reg j.role j.req.com now).2.err≠150 then(pY c.reg j.role j.req.com now).1 else c.reg)) (pY c.reg j.role j.req.com now).2.seq now
    refine⟨?_,?_,Hb _,h.ops,B,dE h.pool⟩
    ·dsimp only;rw [D];exact(F7 hj t).1
    ·dsimp only;rw [D];rfl
   ·refine⟨?_,?_,Hb _,h.ops,B,h.pool⟩
    ·dsimp only
     split
     ·exact Fe 4 hj rfl rfl bE rfl
     ·exact(F7 hj _).1
    ·dsimp only
     split<;>rfl
theorem Jz{j:Bq}{c:BN}(h:Gd c)(hj:Gn j=true)(now left:Int):MF j (Co j c now left):=by
 unfold Co;have hk:∀s:Bq×BN×GJ,s.2.1=c->Gn s.1=true->s.1.conn=j.conn->MF j s:=fun s h1 h2 h3=>⟨h2,h3,by rw [h1];exact h.done,by rw [h1];exact h.ops,by rw [h1];exact h.reg,by rw [h1];exact h.pool⟩;split
 ·refine hk _ rfl ?_ ?_
  ·dsimp only
   have hid:0<=(E1 j.line).1.id/\(E1 j.line).1.id<=1000000:=by
    by_cases h0:(E1 j.line).2=0
    ·have:=N9 h0;omega
    ·have:(E1 j.line).1=req0:=by
      unfold E1 at h0 ⊢;cases hs:Ce j.line.data.toList with
      | error e=>rfl
      | ok l=>
       rw [hs] at h0;dsimp only at h0 ⊢;unfold Je at h0 ⊢;dsimp only at h0 ⊢;split at h0
       ·rename_i h1;rw [if_pos h1]
       ·rename_i h1;rw [if_neg h1]
        split at h0
        ·rename_i h2;rw [if_pos h2]
        ·simp at h0
     rw [this];decide
   have B:Gn { j with req:=(E1 j.line).1 } = true:=by
    obtain⟨a,b,e,f,_,_⟩:=(Hq j).1 hj;exact(Hq _).2 ⟨a,b,e,f,hid.1,hid.2⟩
   split
   ·exact(F7 B _).1
   ·exact Fe 2 B rfl rfl bE rfl
  ·dsimp only;split<;>rfl
 ·split
  ·refine hk _ rfl ?_ ?_
   ·dsimp only
    split
    ·exact(F7 (j:={ j with role:=(BM c.ops j.req.who).1 }) hj _).1
    ·exact Fe 3 hj rfl rfl bE rfl
   ·dsimp only;split<;>rfl
  ·split
   ·exact VK h hj now _
   ·split
    ·refine hk _ rfl ?_ ?_
     ·dsimp only
      split
      ·exact Fe 5 hj rfl rfl bE rfl
      ·exact hj
     ·dsimp only;split<;>rfl
    ·exact hk _ rfl hj rfl
theorem Q3{l:List Bq}{conn:Int}(h:BF l conn=none):∀j∈l,j.conn≠conn:=by
 intro j hj e;have h1:=List.findIdx?_eq_none_iff.1 h j hj;simp [e] at h1
theorem K6{c:BN}{conn:Int}{line:ByteArray}(he:(Fj c conn line).2=0):Gd (Fj c conn line).1/\Gd c/\0<=conn/\conn<4/\BF c.jobs conn=none/\(Fj c conn line).1 = { c with jobs:=c.jobs++[{ job0 with conn:=conn,phase:=1,line:=line }] }:=by
 unfold Fj at he ⊢;split at he
 ·rename_i hc
  rw [if_pos hc];have h:=(G1 c).1 hc;split at he
  ·simp at he
  ·rename_i h1
   rw [if_neg h1];split at he
   ·simp at he
   ·rename_i h2
    rw [if_neg h2];have hp:BF c.jobs conn=none:=by
     cases hq:BF c.jobs conn with
     | none=>rfl
     | some i=>rw [hq] at h2;simp at h2
    refine⟨⟨fun j hj=>?_,?_,h.done,h.ops,h.reg,h.pool⟩,h,by omega,by omega,hp,rfl⟩
    ·rcases AQ.1 hj with h3 | h3
     ·exact h.job j h3
     ·simp only [Ag] at h3
      subst h3;exact(Hq _).2 ⟨by dsimp only;omega,by dsimp only;omega,(by decide:(1:Int)<=1),(by decide:(1:Int)<=5),(by decide:(0:Int)<=0),(by decide:(0:Int)<=1000000)⟩
    ·refine BK.2 ⟨h.conn,List.pairwise_singleton _ _,fun a B b hb=>?_⟩
     simp only [Ag] at hb;subst hb;exact Q3 hp a B
 ·simp at he
def DN(conn:Int)(line:ByteArray):Bq:={ job0 with conn:=conn,phase:=1,line:=line }
def BN.put(c:BN)(j:Bq):BN:={ c with jobs:=c.jobs++[j] }
theorem Le{j:Bq}{c:BN}{now left:Int}(h:j.phase=1):Co j c now left=(if(E1 j.line).2≠0 then Bq.refuses { j with req:=(E1 j.line).1 } 0 193 else { j with req:=(E1 j.line).1,phase:=2 },c,Cp):=by
 unfold Co;rw [if_pos h]
theorem Lf{j:Bq}{c:BN}{now left:Int}(h:j.phase=2):Co j c now left=(if(BM c.ops j.req.who).2≠0 then Bq.refuses { j with role:=(BM c.ops j.req.who).1 } j.req.id (BM c.ops j.req.who).2 else { j with role:=(BM c.ops j.req.who).1,phase:=3 },c,Cp):=by
 unfold Co;rw [h,if_neg bE,if_pos rfl]
theorem QD{j:Bq}{c:BN}{now left:Int}(h:j.phase=3):Co j c now left=((commitC j c now).1,(commitC j c now).2,Cp):=by
 unfold Co;rw [h,if_neg bE,if_neg bE,if_pos rfl]
theorem M9{j:Bq}{c:BN}{now left:Int}(h:j.phase=4):Co j c now left=(if left=0 then { j with phase:=5 } else j,c,if left=0 then Cp else⟨1,j.slot,j.gen,⟨#[]⟩⟩):=by
 unfold Co;rw [h,if_neg bE,if_neg bE,if_neg bE,if_pos rfl]
theorem QE{j:Bq}{c:BN}{now left:Int}(h:j.phase=5):Co j c now left=(j,c,⟨2,0,0,j.reply⟩):=by
 unfold Co;rw [h,if_neg bE,if_neg bE,if_neg bE,if_neg bE]
theorem JI{c:BN}{j:Bq}{now left:Int}(h:Gd (c.put j))(hn:0<=now/\now<=1000000000000/\0<=left)(hp:BF c.jobs j.conn=none):
  EC (c.put j) j.conn now left=(let s:=Co j (c.put j) now left
   ({ s.2.1 with jobs:=if s.2.2.kind=2 then c.jobs else c.jobs++[s.1] },s.2.2,0)):=by
 have hb:=(G1 _).2 h;have E:BF (c.put j).jobs j.conn=some c.jobs.length:=by
  unfold BF BN.put;rw [List.findIdx?_append];have h1:c.jobs.findIdx? (fun x=>x.conn==j.conn)=none:=hp;rw [h1];simp
 unfold EC;rw [if_pos hb,if_neg bB,E];have hg:(c.put j).jobs.getD c.jobs.length job0=j:=by simp [BN.put]
 dsimp only;rw [hg];have B:∀k:Bq,(c.put j).jobs.set c.jobs.length k=c.jobs++[k]:=fun k=>by simp [BN.put]
 rw [B];have D:∀k:Bq,(c.jobs++[k]).eraseIdx c.jobs.length=c.jobs:=fun k=>by
  rw [List.eraseIdx_append_of_length_le (Aw _)];simp
 rw [D]
theorem Kh{c:BN}{j k:Bq}{r:CJ}{p:Po}{d:List IA}(h:Gd (c.put j))(hk:Gn k=true)(D:k.conn=j.conn)(hr:CE r)(hp:Ok p)(E:d.length<=8):Gd (BN.put ⟨c.ops,r,p,c.jobs,d⟩ k):=by
 have h1:=BK.1 h.conn;refine⟨fun x hx=>?_,?_,E,h.ops,hr,hp⟩
 ·rcases AQ.1 hx with h2 | h2
  ·exact h.job x (List.mem_append_left _ h2)
  ·simp only [Ag] at h2;subst h2;exact hk
 ·refine BK.2 ⟨h1.1,List.pairwise_singleton _ _,fun a B b hb=>?_⟩
  simp only [Ag] at hb;subst hb;rw [D];exact h1.2.2 a B j (Ag.2 rfl)
theorem Iw{c:BN}{j:Bq}{now:Int}(k:Nat)(h:Gd (c.put j))(hn:0<=now/\now<=1000000000000)(hp:BF c.jobs j.conn=none)(B:j.phase=5):D9 (k+1) (c.put j) j.conn now=(c,j.reply):=by
 unfold D9;rw [JI h ⟨hn.1,hn.2,by decide⟩ hp];rw [QE B];rfl
theorem Gs{c:BN}{j k:Bq}{B:BN}{now:Int}(n:Nat)(h:Gd (c.put j))(hn:0<=now/\now<=1000000000000)(hp:BF c.jobs j.conn=none)(hs:Co j (c.put j) now 0=(k,B,Cp)):
  D9 (n+1) (c.put j) j.conn now=D9 n (BN.put ⟨B.ops,B.reg,B.pool,c.jobs,B.done⟩ k) j.conn now:=by
 conv=>lhs;unfold D9
 rw [JI h ⟨hn.1,hn.2,by decide⟩ hp];rw [hs];rfl
theorem MQ(j:Bq)(c:BN)(k:Bq)(now:Int):(commitC j (c.put k) now).1=(commitC j c now).1/\(commitC j (c.put k) now).2=(commitC j c now).2.put k:=by
 unfold commitC;have h1:(c.put k).done=c.done:=rfl;have h2:(c.put k).reg=c.reg:=rfl;have h3:(c.put k).pool=c.pool:=rfl;rw [h1,h2,h3];cases Bf c.done j.req.who j.req.id with
 | some t=>exact⟨rfl,rfl⟩
 | none=>exact⟨rfl,rfl⟩
theorem Jf(j:Bq)(c:BN)(now:Int):(commitC j c now).2.jobs=c.jobs/\(commitC j c now).2.ops=c.ops:=by
 unfold commitC;cases Bf c.done j.req.who j.req.id with
 | some t=>exact⟨rfl,rfl⟩
 | none=>exact⟨rfl,rfl⟩
theorem KE(j:Bq)(c:BN)(now:Int):(commitC j c now).1.phase=5\/(commitC j c now).1.phase=4:=by
 unfold commitC;cases Bf c.done j.req.who j.req.id with
 | some t=>exact .inl rfl
 | none=>
  dsimp only;split
  ·exact .inl rfl
  ·split
   ·obtain⟨t,B⟩:=Nu j c.pool (Bz (if(pY c.reg j.role j.req.com now).2.err≠150 then(pY c.reg j.role j.req.com now).1 else c.reg)) (pY c.reg j.role j.req.com now).2.seq now
    rw [B];exact .inl rfl
   ·split
    ·exact .inr rfl
    ·exact .inl rfl
def comJ(conn:Int)(line:ByteArray)(c:BN):Bq:={ DN conn line with phase:=3,req:=(E1 line).1,role:=(BM c.ops (E1 line).1.who).1 }
def Mv(c:BN)(conn:Int)(line:ByteArray)(now:Int):BN×ByteArray:=
 if(E1 line).2≠0 then(c,Ex [Eh,E2 0,E2 193]) else
  if(BM c.ops (E1 line).1.who).2≠0 then(c,Ex [Eh,E2 (E1 line).1.id,E2 (BM c.ops (E1 line).1.who).2]) else
   ((commitC (comJ conn line c) c now).2,(commitC (comJ conn line c) c now).1.reply)
theorem XI{c:BN}{conn now:Int}{line:ByteArray}(hc:(Fj c conn line).2=0)(hn:0<=now/\now<=1000000000000):pZ c conn line now=Mv c conn line now:=by
 obtain⟨h1,h2,h3,h4,h5,h6⟩:=K6 hc;unfold pZ;rw [if_pos hc,h6];have D:Gd (c.put (DN conn line)):=by rw [h6] at h1;exact h1
 show D9 6 (c.put (DN conn line)) (DN conn line).conn now=_;have ah:Gn (DN conn line)=true:=D.job _ (List.mem_append_right _ (Ag.2 rfl));have N:=Jz D ah now 0;unfold Mv;by_cases hq:(E1 line).2=0
 ·rw [if_neg Tb]
  have hs:Co (DN conn line) (c.put (DN conn line)) now 0=({ DN conn line with req:=(E1 line).1,phase:=2 },c.put (DN conn line),Cp):=by
   rw [Le rfl,show(DN conn line).line=line from rfl,if_neg Tb];rfl
  rw [Gs 5 D hn h5 hs];have hk:Gn { DN conn line with req:=(E1 line).1,phase:=2 } = true:=by rw [hs] at N;exact N.job
  have O:=Kh (k:={ DN conn line with req:=(E1 line).1,phase:=2 }) (r:=c.reg) (p:=c.pool) (d:=c.done) D hk rfl h2.reg h2.pool h2.done;generalize hk2:({ DN conn line with req:=(E1 line).1,phase:=2 } : Bq)=k2 at O hk ⊢;have J:k2.conn=conn:=by rw [<- hk2];rfl
  have X:k2.req=(E1 line).1:=by rw [<- hk2]
  have ai:k2.phase=2:=by rw [<- hk2]
  show D9 5 (c.put k2) (DN conn line).conn now=_;have ae:(DN conn line).conn=k2.conn:=J.symm;rw [ae];have aa:BF c.jobs k2.conn=none:=by rw [J];exact h5
  have al:=Jz O hk now 0;by_cases hf:(BM c.ops (E1 line).1.who).2=0
  ·rw [if_neg (by simpa using hf)]
   have M:Co k2 (c.put k2) now 0=(comJ conn line c,c.put k2,Cp):=by
    have F:(c.put k2).ops=c.ops:=rfl;rw [Lf ai,X,F,if_neg (by simpa using hf),<- hk2];rfl
   rw [Gs 4 O hn aa M];have hk3:Gn (comJ conn line c)=true:=by
    have:MF k2 (Co k2 (c.put k2) now 0):=al;rw [M] at this;exact this.job
   have h8:=Kh (k:=comJ conn line c) (r:=c.reg) (p:=c.pool) (d:=c.done) O hk3 (by rw [J];rfl) h2.reg h2.pool h2.done;show D9 4 (c.put (comJ conn line c)) k2.conn now=_;have af:k2.conn=(comJ conn line c).conn:=J;rw [af];have aj:BF c.jobs (comJ conn line c).conn=none:=h5;have ag:=MQ (comJ conn line c) c (comJ conn line c) now;have ak:Co (comJ conn line c) (c.put (comJ conn line c)) now 0=((commitC (comJ conn line c) c now).1,(commitC (comJ conn line c) c now).2.put (comJ conn line c),Cp):=by
    rw [QD rfl,ag.1,ag.2]
   have am:=Jz h8 hk3 now 0;have B:MF (comJ conn line c) ((commitC (comJ conn line c) c now).1,(commitC (comJ conn line c) c now).2.put (comJ conn line c),Cp):=by rw [<- ak];exact am
   have E:=Jf (comJ conn line c) c now;rw [Gs 3 h8 hn aj ak];have U:=KE (comJ conn line c) c now;generalize (commitC (comJ conn line c) c now).1=k4 at B U ⊢;generalize hc4:(commitC (comJ conn line c) c now).2=c4 at B E ⊢;have h9:=Kh (k:=k4) (r:=c4.reg) (p:=c4.pool) (d:=c4.done) h8 B.job B.conn B.reg B.pool B.done;have ac:(⟨c4.ops,c4.reg,c4.pool,c.jobs,c4.done⟩:BN)=c4:=by rw [<- E.1]
   have ad:(⟨c.ops,c4.reg,c4.pool,c.jobs,c4.done⟩:BN)=c4:=by rw [<- E.1,<- E.2]
   show D9 3 (BN.put ⟨c4.ops,c4.reg,c4.pool,c.jobs,c4.done⟩ k4) _ now=_;rw [ac];have Y:Gd (c4.put k4):=by rw [<- ad];exact h9
   have T:(comJ conn line c).conn=k4.conn:=B.conn.symm;rw [T];have G:BF c4.jobs k4.conn=none:=by rw [E.1,<- T];exact h5
   rcases U with ao | an
   ·exact Iw 2 Y hn G ao
   ·have hs5:Co k4 (c4.put k4) now 0=({ k4 with phase:=5 },c4.put k4,Cp):=by
     rw [M9 an];rfl
    rw [Gs 2 Y hn G hs5];have h10:=Kh (k:={ k4 with phase:=5 }) (r:=c4.reg) (p:=c4.pool) (d:=c4.done) Y (Fe 5 B.job rfl rfl bE rfl) rfl B.reg B.pool B.done;exact Iw (c:=c4) (j:={ k4 with phase:=5 }) 1 h10 hn G rfl
  ·rw [if_pos (by simpa using hf)]
   have M:Co k2 (c.put k2) now 0=(Bq.refuses { k2 with role:=(BM c.ops (E1 line).1.who).1 } (E1 line).1.id (BM c.ops (E1 line).1.who).2,c.put k2,Cp):=by
    have F:(c.put k2).ops=c.ops:=rfl;rw [Lf ai,X,F,if_pos (by simpa using hf)]
   rw [Gs 4 O hn aa M];have h8:=Kh (k:=Bq.refuses { k2 with role:=(BM c.ops (E1 line).1.who).1 } (E1 line).1.id (BM c.ops (E1 line).1.who).2) (r:=c.reg) (p:=c.pool) (d:=c.done) O (Fe 5 hk rfl rfl bE rfl) rfl h2.reg h2.pool h2.done;exact Iw (c:=c) 3 h8 hn aa rfl
 ·rw [if_pos Tb]
  have hs:Co (DN conn line) (c.put (DN conn line)) now 0=(Bq.refuses { DN conn line with req:=(E1 line).1 } 0 193,c.put (DN conn line),Cp):=by
   rw [Le rfl,show(DN conn line).line=line from rfl,if_pos Tb];rfl
  rw [Gs 5 D hn h5 hs];have hk:Gn (Bq.refuses { DN conn line with req:=(E1 line).1 } 0 193)=true:=by rw [hs] at N;exact N.job
  have O:=Kh (k:=Bq.refuses { DN conn line with req:=(E1 line).1 } 0 193) (r:=c.reg) (p:=c.pool) (d:=c.done) D hk rfl h2.reg h2.pool h2.done;exact Iw (c:=c) 4 O hn h5 rfl
theorem Es{l:List IA}{B:ByteArray}{id:Int}: Bf l B id=none↔∀a∈l,¬(a.who=B/\a.id=id):=by
 unfold Bf;rw [Option.map_eq_none_iff,List.find?_eq_none];simp
theorem L9:∀(k m u:Nat),u<10 ^ m->0<m->(IS k u).length<=m
 | 0,m,u,_,_=>by simp [IS]
 | k+1,m,u,h,hm=>by
  unfold IS;split
  ·simp;omega
  ·rename_i h1
   match m,hm with
   | 1,_=>exact absurd bK h1
   | m+2,_=>
    have:=L9 k (m+1) (u / 10) (Nat.div_lt_of_lt_mul (by rw [Nat.pow_succ] at h;omega)) bB;simp;omega
theorem Rq(d:Nat)(h:d<10):48<=(qE (48+d)).toNat/\(qE (48+d)).toNat<=57:=by
 have:(qE (48+d)).toNat=48+d:=by
  rw [UInt8.toNat_ofNat'];omega
 omega
theorem Rp:∀(k u:Nat),∀b∈IS k u,48<=b.toNat/\b.toNat<=57
 | 0,u,b,h=>by simp [IS] at h
 | k+1,u,b,h=>by
  unfold IS at h;split at h
  ·simp only [Ag] at h;subst h;exact Rq u K3
  ·rcases AQ.1 h with h1 | h1
   ·exact Rp k (u / 10) b h1
   ·simp only [Ag] at h1;subst h1;exact Rq _ bB
theorem cG(k u:Nat):IS (k+1) u≠[]:=by
 unfold IS;split<;>simp
structure Kr(n:Nat)(w:List UInt8):Prop where
 len:w.length≤n
 small:n≤64
 plain:w.all Cw=true
 text:textW w=w
theorem YV{n:Int}(h0:0<=n)(h1:n<100000000000000):Kr 14 (itoaL n):=by
 unfold itoaL;rw [if_neg bB];have hm:=Rp 20 n.toNat;refine⟨L9 20 14 n.toNat bB bE,by decide,?_,?_⟩
 ·rw [Bm]
  intro b hb;have:=hm b hb;simp only [Cw,Af,decide_eq_true_eq];omega
 ·have hq:G7 (IS 20 n.toNat)=false:=by
   unfold G7;rw [Bool.or_eq_false_iff];refine⟨by have:=cG 19 n.toNat;simpa using this,?_⟩;rw [List.any_eq_false];intro b hb;have:=hm b hb;have B:b≠32:=fun e=>by subst e;exact absurd this.1 bE
   have D:b≠34:=fun e=>by subst e;exact absurd this.1 bE
   have E:b≠92:=fun e=>by subst e;exact absurd this.2 bE
   simp [B,D,E]
  unfold textW;rw [hq];rfl
theorem OR:∀(w:List UInt8),(CM w).length<=2*w.length
 | []=>by simp [CM]
 | b::l=>by
  have:=OR l;unfold CM;split
  ·simp;omega
  ·split
   ·simp;omega
   ·simp;omega
theorem Us(w:List UInt8):(textW w).length<=2*w.length+2:=by
 unfold textW;split
 ·have:=OR w;simp;omega
 ·omega
theorem ZN(w:List UInt8):textW w≠[]:=by
 unfold textW;split
 ·simp
 ·rename_i h
  intro e;subst e;exact h rfl
theorem Ms:∀ {l:List (List UInt8)},(∀w∈l,w.length<=64/\w.all Cw=true)->Dl l = .ok (l.map textW)
 | [],_=>rfl
 | w::l,h=>by
  obtain⟨h1,h2⟩:=h w Bo;unfold Dl Gj;rw [if_neg bB,if_neg (by rw [h2];decide)];show(Dl l).bind _=_;rw [Ms (fun x hx=>h x (Ca _ hx))];rfl
theorem RX:∀(l:List (List UInt8)),(D5 l).length<=(l.map (fun w=>w.length+1)).sum
 | []=>by simp [D5]
 | [w]=>by simp [D5]
 | w::x::l=>by
  have:=RX (x::l);show(w++32::D5 (x::l)).length<=_;rw [Al,Av,CR,List.sum_cons];omega
theorem cX{w:List UInt8}{l:List (List UInt8)}(h:w≠[]):D5 (w::l)≠[]:=by
 cases l with
 | nil=>exact h
 | cons x l=>show w++32::D5 (x::l)≠[];simp
structure IC(t:ByteArray)(l:List (List UInt8)):Prop where
 ne:t≠⟨#[]⟩
 split:Ce t.data.toList = .ok l
theorem Lg(l:List UInt8):(str l).data.toList=l:=by simp [str]
theorem P1{w:ByteArray}{l:List ByteArray}(B:l.length<=11)(hw:∀x∈w::l,x.data.toList.length<=64/\x.data.toList.all Cw=true)(hs:((w::l).map (fun x=>(textW x.data.toList).length+1)).sum<=300):
  IC (Ex (w::l)) ((w::l).map fun s=>s.data.toList):=by
 have hp:Gc ((w::l).map fun s=>s.data.toList) = .ok (D5 (((w::l).map fun s=>s.data.toList).map textW)):=by
  unfold Gc;rw [if_neg bG,Ms (fun y hy=>by
   obtain⟨x,hx,rfl⟩:=BO.1 hy;exact hw x hx)]
  show(if _ then _ else _)=_;rw [if_neg];have:=RX (((w::l).map fun s=>s.data.toList).map textW);rw [List.map_map,List.map_map] at this;have h2:((w::l).map ((fun w=>w.length+1) ∘ textW ∘ fun s=>s.data.toList)).sum=((w::l).map (fun x=>(textW x.data.toList).length+1)).sum:=rfl;rw [<- List.map_map] at this;simp only [List.map_map] at this ⊢;omega
 unfold Ex;rw [hp];refine⟨fun e=>?_,?_⟩
 ·have h1:=congrArg (fun b:ByteArray=>b.data.toList) e
  simp only [Lg] at h1;exact cX (ZN _) h1
 ·dsimp only
  rw [Lg];exact SC hp
theorem P0{w:ByteArray}{l:List ByteArray}(B:l.length<=11)(n:Nat)(hw:∀x∈w::l,Kr n x.data.toList)(hn:(l.length+1)*(n+1)<=300):IC (Ex (w::l)) ((w::l).map fun s=>s.data.toList):=by
 refine P1 B (fun x hx=>⟨A8 (hw x hx).len (hw x hx).small,(hw x hx).plain⟩) ?_;have:∀(m:List ByteArray),(∀x∈m,Kr n x.data.toList)->(m.map (fun x=>(textW x.data.toList).length+1)).sum<=m.length*(n+1):=by
  intro m;induction m with
  | nil=>intro _;simp
  | cons y m ih=>
   intro h;have h1:=ih (fun x hx=>h x (Ca _ hx));have h2:=h y Bo;rw [CR,List.sum_cons,h2.text,Av,qL];have:=h2.len;omega
 have h3:=this (w::l) hw;rw [Av] at h3;omega
theorem CZ{n:Int}(h0:0<=n)(h1:n<100000000000000):Kr 14 (E2 n).data.toList:=by
 unfold E2;rw [Lg];exact YV h0 h1
theorem UU:Kr 14 okT.data.toList:=⟨by decide,by decide,by decide,by decide⟩
theorem Yo:Kr 14 qV.data.toList:=⟨by decide,by decide,by decide,by decide⟩
theorem Ys(s:Fz):0<=(Bn s).2.2/\(Bn s).2.2<=1000:=by
 unfold Bn;split
 ·cases s.free.getLast? with
  | none=>simp
  | some i=>dsimp only;split<;>simp
 ·simp
theorem MX(l:List El)(k:ByteArray)(a b c:Int):0<=(Bk l k a b c).2.2/\(Bk l k a b c).2.2<=1000:=by
 unfold Bk;split
 ·split
  ·split
   ·split<;>simp
   ·simp
  ·simp
 ·simp
theorem Tv(l:List EX)(a:Int)(r:EX):0<=(BU l a r).2/\(BU l a r).2<=1000:=by
 unfold BU;split
 ·split
  ·split<;>simp
  ·simp
 ·simp
theorem Tw(l:List EX)(a:Int):0<=(Cl l a).2/\(Cl l a).2<=1000:=by
 unfold Cl;split
 ·split<;>simp
 ·simp
theorem Yt(t:Ten)(c:FW)(now:Int):0<=(Bv t c now).2/\(Bv t c now).2<=1000:=by
 have h1:=MX t.creds c.key now c.n c.m;have h2:=Tv t.rules c.at_ c.rule;have h3:=Tw t.rules (-(c.at_+1));unfold Bv
 repeat' split
 all_goals first | exact h1 | exact h2 | exact h3 | simp
theorem gN(r:CJ)(c:FW)(now:Int):0<=(Xv r c now).2.2/\(Xv r c now).2.2<=1000:=by
 have h1:=Ys r.slots;have h2:=MX [] c.key now 0 c.n;unfold Xv;split
 ·unfold Gm
  split
  ·cases C7 r.l c.name with
   | some i=>simp
   | none=>
    dsimp only;split
    ·exact h1
    ·split
     ·exact h2
     ·simp
  ·simp
 ·split
  ·simp
  ·unfold EL
   cases C7 r.l c.name with
   | none=>simp
   | some i=>
    have h3:=Yt (r.l.getD i IX) c now;dsimp only
    repeat' split
    all_goals first | exact h3 | simp
theorem LA(r:CJ)(B:Int)(c:FW)(now:Int):0<=(pY r B c now).2.err/\(pY r B c now).2.err<=1000:=by
 have h:=gN ⟨r.slots,r.l,r.seq+1⟩ c now;unfold pY;split
 ·simp
 ·dsimp only
  split
  ·simp
  ·split
   ·exact h
   ·simp
structure fO(p:lA):Prop where
 seq:0≤p.seq∧p.seq≤1000000000000
 slot:0≤p.slot∧p.slot≤1000000000000
 gen:0≤p.gen∧p.gen≤1000000000000
 version:0≤p.version∧p.version≤1000000000001
 state:0≤p.state∧p.state≤1000000000000
structure fR(t:Ten):Prop where
 slot:0≤t.slot∧t.slot≤1000000000000
 gen:0≤t.gen∧t.gen≤1000000000000
 version:0≤t.version∧t.version≤1000000000001
 state:0≤t.state∧t.state≤1000000000000
theorem cO{r:CJ}(h:CE r){t:Ten}(F:t∈r.l):(0<=t.slot/\t.slot<=64)/\0<=t.gen/\t.gen<=1000000000:=by
 have hm:t.h∈Dt r.slots:=by rw [<- h.hs];exact List.mem_map_of_mem F
 unfold Dt at hm;rw [if_pos ((Fl _).2 h.slo)] at hm;obtain⟨m,h3,h4,B⟩:=(GC 0 _ _ _ h.slo.len).1 hm;have G:t.slot=((0+m:Nat):Int):=h3;have D:r.slots.gens[m]? = some t.gen:=B;have E:=(Ad.1 h4).1;have:=h.slo.len;have:=h.slo.most;exact⟨by omega,h.slo.gens _ (CD D)⟩
theorem Yk{r:CJ}(h:CE r)(c:FW)(now:Int)(F:0<=now)(hs:r.seq<=1000000000000)(he:(Xv r c now).2.2=0):fR (Xv r c now).2.1:=by
 have h0:fR IX:=⟨by decide,by decide,by decide,by decide⟩;unfold Xv at he ⊢;split at he
 ·rename_i h1;rw [if_pos h1]
  unfold Gm at he ⊢;split at he
  ·rename_i hn;rw [if_pos hn]
   cases hp:C7 r.l c.name with
   | some i=>rw [hp] at he;simp at he
   | none=>
    rw [hp] at he;dsimp only at he ⊢;split at he
    ·rename_i h2;exact absurd he h2
    ·rename_i h2;rw [if_neg h2]
     split at he
     ·rename_i h3;exact absurd he h3
     ·rename_i h3;rw [if_neg h3]
      obtain⟨N,U,_⟩:=Vg h.slo (BB.1 h2);have hm:(Bn r.slots).2.1∈Dt (Bn r.slots).1:=by
       have E:∀(l:List (Int×Int)) (t:Int×Int),t∈GH (fun x:Int×Int=>x.1) t l:=by
        intro l t;induction l with
        | nil=>simp [GH]
        | cons x l ih=>
         unfold GH;split
         ·exact Ca _ ih
         ·split<;>simp
       rw [U];exact E _ _
      unfold Dt at hm;rw [if_pos ((Fl _).2 N)] at hm;obtain⟨m,h4,B,D⟩:=(GC 0 _ _ _ N.len).1 hm;have T:=(Ad.1 B).1;have hg:=N.gens _ (CD D);have:=N.len;have:=N.most;exact⟨by dsimp only;omega,by dsimp only;omega,(by decide:(0:Int)<=1/\(1:Int)<=1000000000001),(by decide:(0:Int)<=1/\(1:Int)<=1000000000000)⟩
  ·simp at he
 ·rename_i h1;rw [if_neg h1]
  split at he
  ·rename_i h2;rw [if_pos h2];exact h0
  ·rename_i h2;rw [if_neg h2]
   unfold EL at he ⊢;cases hp:C7 r.l c.name with
   | none=>rw [hp] at he;simp at he
   | some i=>
    rw [hp] at he;obtain⟨hi,hnm⟩:=NB hp;have hg:r.l.getD i IX=r.l[i]:=by rw [AO,Aq hi];rfl
    dsimp only at he ⊢;rw [hg] at he ⊢;have M:=pS hi;obtain⟨X,Y⟩:=cO h M;have G:=h.ten _ M;have J:=G;simp only [Gq,EM,FG,Af,decide_eq_true_eq] at J;split at he
    ·simp at he
    ·rename_i h3;rw [if_neg h3]
     split at he
     ·rename_i h4;exact absurd he h4
     ·rename_i h4;rw [if_neg h4]
      obtain⟨e1,e2,e3,O,e5⟩:=Vk G F (BB.1 h4);simp only [FG,Af,decide_eq_true_eq] at O;have e6:(Bv r.l[i] c now).1.slot=r.l[i].slot:=congrArg Prod.fst e1;have e7:(Bv r.l[i] c now).1.gen=r.l[i].gen:=congrArg Prod.snd e1;have hx:fR { (Bv r.l[i] c now).1 with version:=(Bv r.l[i] c now).1.version+1 }:=⟨by dsimp only;omega,by dsimp only;omega,by dsimp only;omega,by dsimp only;omega⟩;split at he
      ·rename_i B;rw [if_pos B];exact⟨by dsimp only;omega,by dsimp only;omega,by dsimp only;omega,by dsimp only;omega⟩
      ·rename_i B;rw [if_neg B]
       split at he
       ·rename_i D;rw [if_pos D];exact hx
       ·rename_i D;rw [if_neg D];exact hx
theorem Jc{r:CJ}(h:CE r)(B:Int)(c:FW)(now:Int)(he:(pY r B c now).2.err=0):fO (pY r B c now).2:=by
 unfold pY at he ⊢;split at he
 ·simp at he
 ·rename_i h1
  rw [if_neg h1];have hs:r.seq<1000000000000:=by
   by_cases h2:r.seq<1000000000000
   ·exact h2
   ·exact absurd (.inr (.inl bB)) h1
  have hn:0<=now:=by
   by_cases h2:0<=now
   ·exact h2
   ·exact absurd (.inr (.inr (.inl bB))) h1
  have hq:=h.seq;dsimp only at he ⊢;split at he
  ·simp at he
  ·rename_i h2;rw [if_neg h2]
   split at he
   ·rename_i h3;exact absurd he h3
   ·rename_i h3;rw [if_neg h3]
    have:=Yk (h.more hs) c now hn bH (BB.1 h3);exact⟨by dsimp only;omega,this.slot,this.gen,this.version,this.state⟩
theorem Mk{r:CJ}(h:CE r):Dd (Bz r)=true/\∀x∈Bz r,x.data.toList.length<=40/\x.data.toList.all Cw=true:=by
 have hx:∀x∈Bz r,x.data.toList.length<=40/\x.data.toList.all Cw=true:=fun x hx=>by
  obtain⟨t,B,rfl⟩:=BO.1 hx;have:=h.ten t B;simp only [Gq,Hf,IK,JA,Af,decide_eq_true_eq] at this;refine⟨?_,this.2.1.1.2.2⟩;have h2:=this.2.1.1.1.2;have h3:t.name.size=t.name.data.toList.length:=by rw [BX];rfl
  omega
 refine⟨?_,hx⟩;unfold Dd;simp only [Af,decide_eq_true_eq,Bm];refine⟨by unfold Bz;rw [Bd];exact h.len,fun x hm=>?_⟩;obtain⟨h1,h2⟩:=hx x hm;unfold Gi Hc;simp only [Af,decide_eq_true_eq];have h3:x.size=x.data.toList.length:=by rw [BX];rfl
 exact⟨by omega,h2⟩
theorem KP{n:Int}(m:Nat)(h0:0<=n)(h1:n<((10 ^ m:Nat):Int))(hm:0<m)(B:n<100000000000000):(textW (E2 n).data.toList).length<=m:=by
 have hb:=CZ h0 B;rw [hb.text];unfold E2;rw [Lg];unfold itoaL;rw [if_neg bB];exact L9 20 m n.toNat bB hm
end
section
open Go
def IQ(p:Pr):Prop:=-1000000000001<=p.q.com.at_/\p.q.com.at_<=1000000000000
theorem Pr.next_q(p:Pr):p.next.2.q=p.q:=by unfold Pr.next;split<;>rfl
theorem Pr.number_q(p:Pr)(a b:Int):(p.number a b).2.q=p.q:=by unfold Pr.number;split<;>exact p.next_q
theorem Pr.any_at(p:Pr):0<=p.any.1/\p.any.1<=1000000000000:=by
 unfold Pr.any Pr.number;split
 ·rename_i n h
  unfold Ny at h;split at h
  ·split at h
   ·rename_i hc
    injection h with h
    subst h;exact hc.2
   ·cases h
  ·cases h
 ·exact⟨Int.le_refl _,by show(0:Int)<=_;omega⟩
theorem M3{p:Pr}(h:IQ p):IQ p.next.2:=by unfold IQ;rw [p.next_q];exact h
theorem F8{p:Pr}(h:IQ p)(a b:Int):IQ (p.number a b).2:=by unfold IQ;rw [p.number_q];exact h
theorem L5{p:Pr}(h:IQ p){c:FW}(B:c.at_=p.q.com.at_):IQ (p.com c):=by
 unfold IQ Pr.com;rw [B];exact h
theorem jQ(p:Pr):IQ p.at_/\0<=p.at_.q.com.at_:=⟨⟨by have:=p.next.2.any_at;show _<=p.next.2.any.1;omega,(p.next.2.any_at).2⟩,(p.next.2.any_at).1⟩
theorem XK{p:Pr}: IQ p.rules:=by
 have h:=jQ p;unfold Pr.rules;split
 ·refine L5 ?_ rfl
  split
  ·exact M3 h.1
  ·exact M3 h.1
 ·split
  ·unfold IQ Pr.com
   obtain⟨⟨h1,h2⟩,h3⟩:=h;show _<=-p.at_.q.com.at_ - 1/\-p.at_.q.com.at_ - 1<=_;omega
  ·exact h.1
theorem aT{p:Pr}(h:IQ p):IQ p.page:=by
 unfold Pr.page;dsimp only;split
 ·exact F8 h 1 3
 ·refine(show IQ _ from ?_)
  have h1:IQ { (p.number 1 3).2 with q:={ (p.number 1 3).2.q with count:=(p.number 1 3).1 } }:=F8 h 1 3;exact F8 (F8 h1 1 1000000000000) 0 1000000000000
theorem XJ(v:Int):∀f∈partsR v,∀p,IQ p->IQ (f p):=by
 have hn:∀p,IQ p->IQ p.name:=fun p h=>L5 (M3 h) rfl;have hw:∀p,IQ p->IQ p.want:=fun p h=>L5 (F8 h _ _) rfl;have hk:∀p,IQ p->IQ p.key:=fun p h=>L5 (M3 h) rfl;have hN:∀p,IQ p->IQ p.n:=fun p h=>L5 (F8 h _ _) rfl;have hM:∀p,IQ p->IQ p.m:=fun p h=>L5 (F8 h _ _) rfl;have hr:∀p,IQ p->IQ p.rules:=fun p _=>XK;have hp:∀p,IQ p->IQ p.page:=fun p h=>aT h;unfold partsR
 repeat' split
 all_goals
  intro f hf;simp only [Ac,Ab,or_false] at hf;rcases hf with rfl | rfl | rfl | rfl | rfl<;>assumption
theorem U9:∀(l:List (Pr->Pr)),(∀f∈l,∀p,IQ p->IQ (f p))->∀p,IQ p->IQ (l.foldl (fun p f=>f p) p)
 | [],_,_,hp=>hp
 | f::l,h,p,hp=>U9 l (fun g hg=>h g (by simp [hg])) (f p) (h f bA p hp)
theorem aS(l:List ByteArray): -1000000000001<=(Je l).1.com.at_/\(Je l).1.com.at_<=1000000000000:=by
 unfold Je;dsimp only;split
 ·decide
 ·split
  ·decide
  ·refine U9 _ (XJ _) _ ?_
   unfold IQ;simp only [Pr.com,Pr.next_q,Pr.number_q];exact⟨by decide,by decide⟩
theorem Sj(s:ByteArray): -1000000000001<=(E1 s).1.com.at_/\(E1 s).1.com.at_<=1000000000000:=by
 unfold E1;split
 ·exact(by decide : -1000000000001<=req0.com.at_/\req0.com.at_<=1000000000000)
 ·exact aS _
theorem Tr(j:Bq)(c:BN)(now:Int):(commitC j c now).1.req=j.req/\(commitC j c now).1.line=j.line:=by
 unfold commitC;split
 ·exact⟨rfl,rfl⟩
 ·dsimp only
  repeat' split
  all_goals first | exact⟨rfl,rfl⟩ | (obtain⟨t,B⟩:=Nu j c.pool _ _ now;rw [B];exact⟨rfl,rfl⟩)
theorem eK{j:Bq}{c:BN}{now left:Int}(h : -9223372036854775808<=j.req.com.at_/\j.req.com.at_<=9223372036854775807):(-9223372036854775808<=(Co j c now left).1.req.com.at_/\(Co j c now left).1.req.com.at_<=9223372036854775807)/\(Co j c now left).1.line=j.line:=by
 unfold Co;split
 ·have:=Sj j.line
  dsimp only;split<;>exact⟨by show _<=(E1 j.line).1.com.at_/\(E1 j.line).1.com.at_<=_;omega,rfl⟩
 ·split
  ·dsimp only
   split<;>exact⟨h,rfl⟩
  ·split
   ·have:=Tr j c now
    dsimp only;rw [this.1,this.2];exact⟨h,rfl⟩
   ·split
    ·dsimp only
     split<;>exact⟨h,rfl⟩
    ·exact⟨h,rfl⟩
theorem rW:∀(k u:Nat),u<10 ^ k->0<k->∀(acc:Nat) (r:List UInt8),acc*10 ^ (IS k u).length+u<1844674407370955161->qG acc (IS k u++r)=qG (acc*10 ^ (IS k u).length+u) r
 | 0,_,_,h,_,_,_=>absurd h bE
 | k+1,u,hu,_,acc,r,hs=>by
  have one:∀(d a:Nat) (r:List UInt8),d<10->a<1844674407370955161->qG a (qE (48+d)::r)=qG (a*10+d) r:=fun d a r hd ha=>by
   have hb:=Rq d hd;have hv:(qE (48+d)).toNat=48+d:=by rw [UInt8.toNat_ofNat'];omega
   rw [qG,if_pos hb,if_neg bB,hv,if_neg bB]
   congr 1;omega
  unfold IS at hs ⊢;by_cases h:u<10
  ·rw [if_pos h] at hs ⊢
   simp only [Bp,Nat.pow_one] at hs ⊢;show qG acc (qE (48+u)::r)=_;exact one u acc r h bB
  ·rw [if_neg h] at hs ⊢
   have hk:0<k:=by
    rcases Nat.eq_zero_or_pos k with h0 | h0
    ·subst h0;simp at hu;omega
    ·exact h0
   have B:u / 10<10 ^ k:=Nat.div_lt_of_lt_mul (by rw [Nat.pow_succ] at hu;omega);rw [Al,Bp,Nat.pow_succ,<- Nat.mul_assoc] at hs ⊢;rw [CC,rW k (u / 10) B hk acc _ bB];show qG _ (qE (48+u % 10)::r)=_;rw [one _ _ r (Nat.mod_lt _ bE) bB]
   congr 1;omega
theorem sF{n:Int}(h0:0<=n)(h1:n<100000000000000):Lib.atoiAll (itoaL n) = .ok n:=by
 unfold itoaL;rw [if_neg bB];obtain⟨u,rfl⟩:∃u:Nat,n=u:=⟨n.toNat,by omega⟩;rw [pW];have hp:=rW 20 u bB bE 0 [] bB;have hm:=Rp 20 u;have hne:=cG 19 u;rw [List.append_nil,Nat.zero_mul,AW] at hp;generalize IS 20 u=l at hp hm hne ⊢;cases l with
 | nil=>exact absurd rfl hne
 | cons c r=>
  have D:=hm c Bo;have B:Lib.parseMag (c::r) = .ok u:=by
   unfold Lib.parseMag;rw [if_neg bA,hp];rfl
  unfold Lib.atoiAll;dsimp only;rw [if_neg bB,B];dsimp only;rw [if_neg bB,if_neg bB];rw [if_neg bB]
theorem sK{n lo hi:Int}(h0:0<=n)(h1:n<100000000000000)(h2:lo<=n)(h3:n<=hi):Ny (E2 n) lo hi=some n:=by
 unfold Ny E2;rw [Lg,sF h0 h1];dsimp only;rw [if_pos ⟨rfl,h2,h3⟩]
theorem rG(q:QK)(s:ByteArray)(l:List ByteArray)(b:Bool):(Pr.mk q (s::l) b).next=(s,⟨q,l,b⟩):=rfl
theorem qP{q:QK}{s:ByteArray}{l:List ByteArray}{b:Bool}{lo hi n:Int}(h:Ny s lo hi=some n):(Pr.mk q (s::l) b).number lo hi=(n,⟨q,l,b⟩):=by
 unfold Pr.number;rw [rG];dsimp only;rw [h]
def qN:ByteArray:=nm [97,110,110]
def qQ:ByteArray:=nm [108,105,115,116]
theorem tR{q:QK}{cs D B:ByteArray}{count cursor from_:Int}(h2:Ny cs 1 3=some count)(h3:Ny D 1 1000000000000=some cursor)(h4:Ny B 0 1000000000000=some from_):
  (Pr.mk q [cs,D,B] false).page=⟨{ q with count:=count,cursor:=cursor,from_:=from_ },[],false⟩:=by
 unfold Pr.page;rw [qP h2];dsimp only;rw [if_neg bA,qP h3];dsimp only;unfold Pr.any;rw [qP h4]
def qT(id count cursor from_:Int):QK:=⟨qN,id,{ Yb with verb:=9 },count,cursor,from_⟩
theorem tV{B cs F E:ByteArray}{id count cursor from_:Int}(h1:Ny B 1 1000000=some id)(h2:Ny cs 1 3=some count)(h3:Ny F 1 1000000000000=some cursor)(h4:Ny E 0 1000000000000=some from_):
  Je [qN,B,qQ,cs,F,E]=(qT id count cursor from_,0):=by
 unfold Je;dsimp only;rw [rG];dsimp only;rw [qP h1];dsimp only;rw [rG];dsimp only;have hv:verbR qQ=(9,0):=bC;rw [hv];dsimp only;rw [if_neg bE];have hp:partsR (9:Int) = [Pr.page]:=by unfold partsR;rw [if_neg bE,if_neg bE,if_neg bE,if_neg bE,if_pos rfl]
 have D:∀p4:Pr,p4=⟨qT id count cursor from_,[],false⟩->(if p4.bad=true\/0<p4.l.length then(req0,(193:Int)) else(p4.q,0))=(qT id count cursor from_,0):=by rintro _ rfl;rfl
 refine D _ ?_;rw [hp];exact tR h2 h3 h4
theorem rV{id seq cur:Int}{w:ByteArray}{B:List ByteArray}(h1:0<=id/\id<=1000000)(h2:0<=seq/\seq<=1000000000000)(h3:0<=cur/\cur<=1000000000000)(hw:w.data.toList.length<=3/\Kr 14 w.data.toList)(hp:B.length<=3)(hx:∀x∈B,x.data.toList.length<=40/\x.data.toList.all Cw=true):
  IC (Ex ([okT,E2 id,E2 seq,E2 cur,w]++B)) (([okT,E2 id,E2 seq,E2 cur,w]++B).map fun s=>s.data.toList):=by
 have J:=KP (n:=id) 7 bB bB bE bB;have M:=KP (n:=seq) 13 bB bB bE bB;have N:=KP (n:=cur) 13 bB bB bE bB;have F:(textW w.data.toList).length<=3:=by rw [hw.2.text];exact hw.1
 have G:(B.map (fun x=>(textW x.data.toList).length+1)).sum<=B.length*83:=by
  clear hp;induction B with
  | nil=>simp
  | cons y m ih=>
   have O:=ih (fun x hm=>hx x (Ca _ hm));have T:=(hx y Bo).1;have U:=Us y.data.toList;rw [CR,List.sum_cons,Av,qL];omega
 have E:(textW okT.data.toList).length=2:=bE;refine P1 (w:=okT) (l:=[E2 id,E2 seq,E2 cur,w]++B) bG (fun x hm=>?_) ?_
 ·simp only [AL,BH,Ac] at hm
  have D:∀ {y:ByteArray},Kr 14 y.data.toList->y.data.toList.length<=64/\y.data.toList.all Cw=true:=fun h=>⟨A8 h.len h.small,h.plain⟩;rcases hm with rfl | rfl | rfl | rfl | rfl | hm
  ·exact D UU
  ·exact D (CZ bB bB)
  ·exact D (CZ bB bB)
  ·exact D (CZ bB bB)
  ·exact D hw.2
  ·have:=hx x hm;exact⟨by omega,this.2⟩
 ·simp only [AL,BH,CR,List.sum_cons]
  rw [E];have h8:B.length*83<=249:=by have:=Ch 83 hp;omega
  omega
def qD(i:Nat):List UInt8:=[qE (48+i % 10)]
def qM(i:Nat):ByteArray:=str ([97,110,110,32,50]++qD i++[32,99,114,101,97,116,101,32,120]++qD i++[32,107,32,57])
def qU(i count:Nat)(a b:List UInt8):ByteArray:=str ([97,110,110,32,51]++qD i++[32,108,105,115,116,32]++qD count++32::(a++32::b))
theorem uH(i:Nat)(hi:i<8):(E1 (qM i)).2=0/\(E1 (qM i)).1.who=qN/\(E1 (qM i)).1.id=20+(i:Int)/\(E1 (qM i)).1.com.verb=1:=by
 have h:i=0\/i=1\/i=2\/i=3\/i=4\/i=5\/i=6\/i=7:=bB;rcases h with rfl | rfl | rfl | rfl | rfl | rfl | rfl | rfl<;>refine⟨by kernel_rfl,by kernel_rfl,by kernel_rfl,by kernel_rfl⟩
theorem uL(i:Nat)(hi:i<8):Kr 14 (51::qD i)/\Ny (str (51::qD i)) 1 1000000=some (30+(i:Int)):=by
 have h:i=0\/i=1\/i=2\/i=3\/i=4\/i=5\/i=6\/i=7:=bB;rcases h with rfl | rfl | rfl | rfl | rfl | rfl | rfl | rfl<;>refine⟨⟨by decide,by decide,by decide,by decide⟩,by kernel_rfl⟩
theorem sS(n:Nat)(h1:1<=n)(h3:n<=3):Kr 14 (qD n)/\Ny (str (qD n)) 1 3=some (n:Int):=by
 have h:n=1\/n=2\/n=3:=bB;rcases h with rfl | rfl | rfl<;>refine⟨⟨by decide,by decide,by decide,by decide⟩,by kernel_rfl⟩
theorem tL(i n:Nat)(hi:i<8)(h1:1<=n)(h3:n<=3)(cur f:Int)(M:1<=cur/\cur<=1000000000000)(hf:0<=f/\f<=1000000000000):
  E1 (qU i n (E2 cur).data.toList (E2 f).data.toList)=(qT (30+(i:Int)) n cur f,0):=by
 have hid:=uL i hi;have B:=sS n h1 h3;have D:=CZ (n:=cur) bB bB;have hfr:=CZ (n:=f) bB bB;have G:Ce (qU i n (E2 cur).data.toList (E2 f).data.toList).data.toList = .ok [qN.data.toList,51::qD i,qQ.data.toList,qD n,(E2 cur).data.toList,(E2 f).data.toList]:=by
  have hg:=P0 (w:=qN) (l:=[str (51::qD i),qQ,str (qD n),E2 cur,E2 f]) bA 14 (fun x hx=>by
   simp only [Ac,Ab,or_false] at hx;rcases hx with rfl | rfl | rfl | rfl | rfl | rfl
   ·exact⟨by decide,by decide,by decide,by decide⟩
   ·rw [Lg];exact hid.1
   ·exact⟨by decide,by decide,by decide,by decide⟩
   ·rw [Lg];exact B.1
   ·exact D
   ·exact hfr) bA
  have hs:=hg.split;have hp:Ex [qN,str (51::qD i),qQ,str (qD n),E2 cur,E2 f]=qU i n (E2 cur).data.toList (E2 f).data.toList:=by
   unfold Ex;have O:textW qN.data.toList=qN.data.toList:=bE;have hl:textW qQ.data.toList=qQ.data.toList:=bE;have hw:Dl ([qN,str (51::qD i),qQ,str (qD n),E2 cur,E2 f].map fun s=>s.data.toList) = .ok ([qN,str (51::qD i),qQ,str (qD n),E2 cur,E2 f].map fun s=>s.data.toList):=by
    rw [Ms (fun y hy=>by
     obtain⟨x,hx,rfl⟩:=BO.1 hy;simp only [Ac,Ab,or_false] at hx;have F:∀ {y:List UInt8},Kr 14 y->y.length<=64/\y.all Cw=true:=fun h=>⟨A8 h.len h.small,h.plain⟩;rcases hx with rfl | rfl | rfl | rfl | rfl | rfl
     ·exact⟨by decide,by decide⟩
     ·rw [Lg];exact F hid.1
     ·exact⟨by decide,by decide⟩
     ·rw [Lg];exact F B.1
     ·exact F D
     ·exact F hfr)]
    simp only [CR,List.map_nil,Lg,O,hl,hid.1.text,B.1.text,D.text,hfr.text]
   unfold Gc;rw [if_neg bA,hw];have E:¬300<(D5 ([qN,str (51::qD i),qQ,str (qD n),E2 cur,E2 f].map fun s=>s.data.toList)).length:=by
    have hj:=RX ([qN,str (51::qD i),qQ,str (qD n),E2 cur,E2 f].map fun s=>s.data.toList);have T:=hid.1.len;have U:=B.1.len;have X:=D.len;have Y:=hfr.len;have b5:qN.data.toList.length=3:=bE;have b6:qQ.data.toList.length=4:=bE;simp only [CR,List.map_nil,List.sum_cons,List.sum_nil,Lg] at hj ⊢;omega
   show(match(if 300<_ then Except.error 10 else Except.ok _:Except Int (List UInt8)) with | .ok t=>str t | .error _=>(⟨#[]⟩:ByteArray))=_;rw [if_neg E];unfold qU;simp only [CR,List.map_nil,Lg,D5];have e1:qN.data.toList = [97,110,110]:=bE;have N:qQ.data.toList = [108,105,115,116]:=bE;rw [e1,N];simp
  rw [hp] at hs;rw [hs];simp only [CR,List.map_nil,Lg]
 unfold E1;rw [G];have J:∀s:ByteArray,str s.data.toList=s:=fun s=>by simp [str]
 simp only [CR,List.map_nil,J];exact tV hid.2 B.2 (sK bB bB M.1 M.2) (sK bB bB hf.1 hf.2)
theorem uJ(r:CJ)(c:FW)(now:Int):(Xv r c now).1.seq=r.seq:=by
 unfold Xv;split
 ·unfold Gm
  split
  ·split
   ·rfl
   ·split
    ·rfl
    ·split<;>rfl
  ·rfl
 ·split
  ·rfl
  ·unfold EL
   split
   ·rfl
   ·dsimp only
    split
    ·rfl
    ·split
     ·rfl
     ·split
      ·rfl
      ·split<;>rfl
theorem tE(r:CJ)(B:Int)(c:FW)(now:Int)(h:(pY r B c now).2.err≠150):(pY r B c now).1.seq=r.seq+1/\(pY r B c now).2.seq=r.seq+1:=by
 unfold pY at h ⊢;split
 ·rename_i h1;rw [if_pos h1] at h;simp at h
 ·dsimp only
  split
  ·exact⟨rfl,rfl⟩
  ·split
   ·exact⟨rfl,rfl⟩
   ·exact⟨uJ _ _ _,rfl⟩
structure LI(names:List ByteArray)(count:Nat)(cur now:Int)(i:Nat)(d:BN):Prop where
 ok:Gd d
 ops:d.ops = [⟨qN,3⟩]
 jobs:d.jobs = []
 seq:d.reg.seq≤1000001+2*i
 pool:∃pre,d.pool.l=pre++[(⟨cur,names,now⟩:Sn)]
 met:SP d.pool now
 done:∀a∈d.done,∀j:Nat,i≤j→j<8→a.id≠20+j∧a.id≠30+j
structure LT(names:List ByteArray)(count:Nat)(cur:Int)(i:Nat)(s:ByteArray):Prop where
 text:∃id seq:Int,IC s (([okT,E2 id,E2 seq,E2 cur,if 0≤oW names ((i*count:Nat):Int) count then E2 (oW names ((i*count:Nat):Int) count) else qV]++oV names ((i*count:Nat):Int) count).map fun s=>s.data.toList)
theorem tU:BM [⟨qN,3⟩] qN=(3,0):=bC
theorem sI{l:List IA}{a:IA}(h:a∈Do l):a∈l:=qI h
theorem tA{d:BN}{conn now:Int}{line:ByteArray}(M:Gd d)(G:d.ops = [⟨qN,3⟩])(hj:d.jobs = [])(J:0<=conn/\conn<4)(hn:0<=now/\now<=1000000000000)(hq:(E1 line).2=0)(hw:(E1 line).1.who=qN)
 (hid:∀a∈d.done,a.id≠(E1 line).1.id):
  ∃j:Bq,j.req=(E1 line).1/\j.role=3/\Gn j=true/\pZ d conn line now=((commitC j d now).2,(commitC j d now).1.reply)/\Bf d.done j.req.who j.req.id=none/\Gd (commitC j d now).2:=by
 have hcall:(Fj d conn line).2=0:=by
  unfold Fj;rw [if_pos ((G1 d).2 M),if_neg bB,if_neg (by rw [hj];simp [BF])]
 obtain⟨O,T,U,X,Y,k6⟩:=K6 hcall;have hf:BM d.ops (E1 line).1.who=(3,0):=by rw [G,hw];exact tU
 have D:Gn (comJ conn line d)=true:=by
  have:=N9 hq;exact(Hq _).2 ⟨J.1,J.2,by show(1:Int)<=3;decide,by show(3:Int)<=5;decide,by show(0:Int)<=(E1 line).1.id;omega,by show(E1 line).1.id<=1000000;omega⟩
 have E:Bf d.done (comJ conn line d).req.who (comJ conn line d).req.id=none:=Es.2 (fun a N he=>hid a N he.2);have B:=VK M D now Cp;have F:=Jf (comJ conn line d) d now;refine⟨comJ conn line d,rfl,?_,D,?_,E,⟨?_,?_,B.done,B.ops,B.reg,B.pool⟩⟩
 ·show(BM d.ops (E1 line).1.who).1=3
  rw [hf]
 ·rw [XI hcall hn]
  unfold Mv;rw [if_neg Tb,hf,if_neg bE]
 ·rw [F.1,hj];simp
 ·rw [F.1,hj];simp
theorem LI.create{names:List ByteArray}{count:Nat}{cur now:Int}{i:Nat}{d:BN}(h:LI names count cur now i d)(hi:i<8)(hn:0<=now/\now<=1000000000000):
  Gd (pZ d 1 (qM i) now).1/\(pZ d 1 (qM i) now).1.ops = [⟨qN,3⟩]/\(pZ d 1 (qM i) now).1.jobs = []/\(pZ d 1 (qM i) now).1.reg.seq<=1000001+2*i+1/\(pZ d 1 (qM i) now).1.pool=d.pool/\∀a∈(pZ d 1 (qM i) now).1.done,a∈d.done\/a.id=20+i:=by
 obtain⟨N,O,F,T⟩:=uH i hi;obtain⟨j,E,U,X,G,J,M⟩:=tA (conn:=1) h.ok h.ops h.jobs bE hn N O (fun a D=>by rw [F];exact(h.done a D i (Aw _) hi).1);rw [G];have B:=Jf j d now;refine⟨M,by rw [B.2];exact h.ops,by rw [B.1];exact h.jobs,?_,?_,?_⟩;all_goals
  unfold commitC;rw [J];dsimp only
 ·split
  ·rename_i he
   rw [(tE _ _ _ _ he).1];have:=h.seq;omega
  ·have:=h.seq;omega
 ·rw [E,T]
  split
  ·rfl
  ·rw [if_neg bE]
 ·intro a D
  have:=sI D;rcases AQ.1 this with h1 | h1
  ·exact .inl h1
  ·obtain rfl:=Ag.1 h1
   right;show j.req.id=_;rw [E,F]
theorem sQ{r:CJ}{now:Int}{c:FW}(h:CE r)(hs:r.seq<1000000000000)(hn:0<=now/\now<=1000000000000)(hv:c.verb=9):pY r 3 c now=(⟨r.slots,r.l,r.seq+1⟩,⟨0,r.seq+1,0,0,0,0⟩):=by
 unfold pY;rw [if_neg (by rw [(Z4 _).2 h];simp;omega)];dsimp only;rw [if_neg (by rw [hv];decide)];have B:Xv ⟨r.slots,r.l,r.seq+1⟩ c now=(⟨r.slots,r.l,r.seq+1⟩,IX,0):=by
  unfold Xv;rw [if_neg (by rw [hv];decide),if_pos hv]
 rw [B];rfl
theorem sE{d:BN}{now:Int}{conn id cur f:Int}{n:Nat}{line:ByteArray}(O:Gd d)(D:d.ops = [⟨qN,3⟩])(hj:d.jobs = [])(T:0<=conn/\conn<4)(hn:0<=now/\now<=1000000000000)(hs:d.reg.seq<1000000000000)(hq:E1 line=(qT id n cur f,0))(hid:∀a∈d.done,a.id≠id):
  ∃j:Bq,j.req=qT id n cur f/\(pZ d conn line now).2=(Ft j d.pool (Bz d.reg) (d.reg.seq+1) now).1.reply/\(pZ d conn line now).1.pool=(Ft j d.pool (Bz d.reg) (d.reg.seq+1) now).2/\(pZ d conn line now).1.reg.seq=d.reg.seq+1/\
   Gd (pZ d conn line now).1/\(pZ d conn line now).1.ops = [⟨qN,3⟩]/\(pZ d conn line now).1.jobs = []/\∀a∈(pZ d conn line now).1.done,a∈d.done\/a.id=id:=by
 obtain⟨j,J,U,j3,E,X,Y⟩:=tA (conn:=conn) (line:=line) O D hj T hn (by rw [hq]) (by rw [hq];rfl) (fun a M=>by rw [hq];exact hid a M);rw [hq] at J;have G:=Jf j d now;have M:=sQ (c:=j.req.com) O.reg hs hn (by rw [J];rfl);rw [<- U] at M;have B:commitC j d now=((Ft j d.pool (Bz d.reg) (d.reg.seq+1) now).1,{ d with reg:=⟨d.reg.slots,d.reg.l,d.reg.seq+1⟩,pool:=(Ft j d.pool (Bz d.reg) (d.reg.seq+1) now).2,done:=Do (d.done++[⟨j.req.who,j.req.id,(Ft j d.pool (Bz d.reg) (d.reg.seq+1) now).1.reply⟩]) }):=by
  unfold commitC;rw [X];dsimp only;rw [M];dsimp only;rw [if_pos (show(0:Int)≠150 by decide),if_neg (show ¬(0:Int)≠0 by decide),if_pos (show j.req.com.verb=9 by rw [J];rfl)];rfl
 refine⟨j,J,?_,?_,?_,?_,?_,?_,?_⟩
 ·rw [E,B]
 ·rw [E,B]
 ·rw [E,B]
 ·rw [E];exact Y
 ·rw [E];show(commitC j d now).2.ops=_;rw [G.2];exact D
 ·rw [E];show(commitC j d now).2.jobs=_;rw [G.1];exact hj
 ·rw [E]
  intro a N;have F:a∈(commitC j d now).2.done:=N;rw [B] at F;rcases AQ.1 (sI F) with h1 | h1
  ·exact .inl h1
  ·obtain rfl:=Ag.1 h1
   right;show j.req.id=_;rw [J];rfl
theorem tB(names:List ByteArray)(n:Nat)(f:Nat)(h8:names.length<=8)(hf:f<=names.length):((if 0<=oW names f n then E2 (oW names f n) else qV).data.toList.length<=3/\Kr 14 (if 0<=oW names f n then E2 (oW names f n) else qV).data.toList)/\(oV names f n).length<=n/\∀x∈oV names f n,x∈names:=by
 have hx:oW names f n<=8:=by rw [uA];split<;>omega
 refine⟨?_,?_,?_⟩
 ·split
  ·rename_i h0
   have hb:=CZ h0 bB;have:=KP 3 h0 bB bE bB;rw [hb.text] at this;exact⟨this,hb⟩
  ·exact⟨by decide,Yo⟩
 ·rw [sX _ _ _ hf,Ax];omega
 ·intro x hm
  rw [sX _ _ _ hf] at hm;exact qI (List.mem_of_mem_take hm)
theorem sW{d:BN}{now id cur:Int}{n f:Nat}{j:Bq}{names:List ByteArray}{P:Po}(hid:0<=id/\id<=1000000)(hs:0<=d.reg.seq/\d.reg.seq<1000000000000)(h1:1<=n)(h3:n<=3)(B:0<=cur/\cur<=1000000000000)
 (hj:j.req.id=id)(h8:names.length<=8)(hf:f<=names.length)(hnm:∀x∈names,x.data.toList.length<=40/\x.data.toList.all Cw=true)(hl:(Ft j P (Bz d.reg) (d.reg.seq+1) now).1=j.answers (Ex ([okT,E2 j.req.id,E2 (d.reg.seq+1),E2 cur,if 0<=oW names f n then E2 (oW names f n) else qV]++oV names f n))):
  ∃id seq:Int,IC (Ft j P (Bz d.reg) (d.reg.seq+1) now).1.reply (([okT,E2 id,E2 seq,E2 cur,if 0<=oW names f n then E2 (oW names f n) else qV]++oV names f n).map fun s=>s.data.toList):=by
 obtain⟨hw,E,D⟩:=tB names n f h8 hf;rw [hl];exact⟨j.req.id,d.reg.seq+1,rV (by rw [hj];exact hid) bB B hw bB (fun x hx=>hnm x (D x hx))⟩
theorem LI.step{names:List ByteArray}{count:Nat}{cur now:Int}{i:Nat}{d:BN}(h:LI names count cur now i d)(hi:i<8)(hn:0<=now/\now<=1000000000000)(h1:1<=count)(h3:count<=3)(J:1<=cur/\cur<=1000000000000)(h8:names.length<=8)
 (hnm:∀x∈names,x.data.toList.length<=40/\x.data.toList.all Cw=true)(hf:(i+1)*count<=names.length):
  LI names count cur now (i+1) (pZ (pZ d 1 (qM i) now).1 2 (qU i count (E2 cur).data.toList (E2 (((i+1)*count:Nat):Int)).data.toList) now).1/\
  LT names count cur (i+1) (pZ (pZ d 1 (qM i) now).1 2 (qU i count (E2 cur).data.toList (E2 (((i+1)*count:Nat):Int)).data.toList) now).2:=by
 obtain⟨f,M⟩:=eX ((i+1)*count);rw [M] at hf ⊢;obtain⟨T,c2,c3,c4,c5,U⟩:=h.create hi hn;generalize hd1:(pZ d 1 (qM i) now).1=d1 at T c2 c3 c4 c5 U ⊢;have hq:=tL i count hi h1 h3 cur (f:Int) J bB;have ae:0<=d1.reg.seq:=by have:=T.reg;exact this.seq.1
 obtain⟨j,O,j2,j3,j4,j5,j6,j7,j8⟩:=sE (conn:=2) T c2 c3 bE hn bB hq (fun a X=>by
  rcases U a X with G | G
  ·exact(h.done a G i (Aw _) hi).2
  ·omega)
 obtain⟨D,F⟩:=h.pool;obtain⟨pl,pn⟩:=eX d1.pool;have hP:d1.pool=⟨D++[⟨cur,names,now⟩],d.pool.next⟩:=by
  rw [c5];show d.pool=_;rw [<- F]
 have E:SP (⟨D++[⟨cur,names,now⟩],d.pool.next⟩:Po) now:=by rw [<- F];exact h.met
 have N:=sM (f:=(f:Int)) (n:=(count:Int)) E (by show now - now<1000;omega) bB (by show _<=((names.length:Nat):Int);omega) bB bB;dsimp only at N;have B:Ft j d1.pool (Bz d1.reg) (d1.reg.seq+1) now=(j.answers (Ex ([okT,E2 j.req.id,E2 (d1.reg.seq+1),E2 cur,if 0<=oW names (f:Int) count then E2 (oW names (f:Int) count) else qV]++oV names (f:Int) count)),⟨D++[⟨cur,names,now⟩],d.pool.next⟩):=by
  unfold Ft;have e1:j.req.cursor=cur:=by rw [O];rfl
  have e2:j.req.from_=(f:Int):=by rw [O];rfl
  have e3:j.req.count=(count:Int):=by rw [O];rfl
  have Y:(if j.req.cursor=0 then IV d1.pool (Bz d1.reg) now else(d1.pool,j.req.cursor,0))=(d1.pool,cur,0):=by rw [e1,if_neg bB]
  rw [Y];dsimp only;rw [if_neg (show ¬(0:Int)≠0 by decide),e2,e3,hP,N];dsimp only;rw [if_neg (show ¬(0:Int)≠0 by decide)]
 refine⟨⟨j5,j6,j7,?_,⟨D,?_⟩,?_,?_⟩,⟨?_⟩⟩
 ·rw [j4];omega
 ·rw [j3,B]
 ·rw [j3,B];exact E
 ·intro a X k hk hk8
  rcases j8 a X with G | G
  ·rcases U a G with h6 | h6
   ·exact h.done a h6 k bB hk8
   ·omega
  ·omega
 ·rw [j2,M]
  exact sW (id:=30+(i:Int)) bB bB h1 h3 bB (by rw [O];rfl) h8 hf hnm (by rw [B])
end
end Go.Proofs.YtncebikgoleolaaGreatDoor
