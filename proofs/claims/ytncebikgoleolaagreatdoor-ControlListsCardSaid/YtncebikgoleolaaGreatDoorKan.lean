/- Steps. -/
import Derived.Test.YtncebikgoleolaaGreatDoorK0
import Derived.RowKit
set_option maxRecDepth 100000
set_option maxHeartbeats 8000000
set_option linter.all false
namespace Go.Proofs.YtncebikgoleolaaGreatDoor
open _root_.Bool renaming and_eq_true→Af
open _root_.Classical renaming not_not→BB
open IntKind renaming i64→pK
open _root_.List renaming all_eq_true→Bm,cons_append→AL,drop_zero→BC,findIdx?_eq_some_iff_getElem→Dx,getD_eq_getElem?_getD→AO,getElem?_eq_getElem→Aq,getElem?_eq_some_iff→Ad,getElem_mem→pS,length_append→Al,length_cons→Av,length_map→Bd,length_nil→D4,length_singleton→Bp,map_cons→CR,mem_append→AQ,mem_cons_of_mem→Ca,mem_cons_self→Bo,mem_cons→Ac,mem_map→BO,mem_of_mem_drop→qI,mem_singleton→Ag,nil_append→BH,not_mem_nil→Ab,pairwise_append→BK,range→AC,rel_of_pairwise_cons→qK,replicate→D6
open _root_.Nat renaming le_refl→Aw
open Value renaming bool→pI,int→pE,string→Dz
section
def Cw(b:UInt8):Bool:=decide (32<=b.toNat)&&decide (b.toNat<=126)
inductive WS where
 | bet | bare | quo | shut | esc
 deriving DecidableEq
structure Cm where
 st:WS
 done:List (List UInt8)
 word:List UInt8
def Cm.add(r:Cm)(st:WS)(b:UInt8):Except Int Cm:=if 64<r.word.length+1 then .error 14 else .ok ⟨st,r.done,r.word++[b]⟩
def Cm.shutW(r:Cm)(st:WS):Cm:=⟨st,r.done++[r.word],[]⟩
def Cm.bareS(r:Cm)(b:UInt8)(e:Bool):Except Int Cm:=
 if e=true\/b=32 then .ok (r.shutW .bet) else if b=34 then .error 12 else if b=92 then .error 13 else r.add .bare b
def Cm.step(r:Cm)(b:UInt8)(e:Bool):Except Int Cm:=
 match r.st with
 | .bet=>if e=true\/b=32 then .ok r else if r.done.length=12 then .error 15 else if b=34 then .ok ⟨.quo,r.done,r.word⟩ else r.bareS b false
 | .bare=>r.bareS b e
 | .quo=>if e=true then .error 12 else if b=34 then .ok (r.shutW .shut) else if b=92 then .ok ⟨.esc,r.done,r.word⟩ else r.add .quo b
 | .shut=>if e=false/\b≠32 then .error 12 else .ok ⟨.bet,r.done,r.word⟩
 | .esc=>if e=true\/(b≠34/\b≠92) then .error 13 else r.add .quo b
def Ek:List UInt8->Cm->Except Int Cm
 | [],r=>.ok r
 | b::l,r=>(r.step b false).bind (Ek l)
def Cm.zero:Cm:=⟨.bet,[],[]⟩
def Ce(s:List UInt8):Except Int (List (List UInt8)):=
 if 300<s.length then .error 10 else if s.all Cw=false then .error 11 else
  (Ek s .zero).bind fun r=>(r.step 0 true).bind fun r=>.ok r.done
def G7(s:List UInt8):Bool:=s.isEmpty||s.any (fun b=>b==32||b==34||b==92)
def CM:List UInt8->List UInt8
 | []=>[]
 | b::l=>if b=34 then 92::34::CM l else if b=92 then 92::92::CM l else b::CM l
def textW(s:List UInt8):List UInt8:=if G7 s then 34::(CM s++[34]) else s
def Gj(s:List UInt8):Except Int (List UInt8):=if 64<s.length then .error 14 else if s.all Cw=false then .error 11 else .ok (textW s)
def Dl:List (List UInt8)->Except Int (List (List UInt8))
 | []=>.ok []
 | s::l=>(Gj s).bind fun t=>(Dl l).bind fun m=>.ok (t::m)
def D5:List (List UInt8)->List UInt8
 | []=>[]
 | [s]=>s
 | s::l=>s++32::D5 l
def Gc(l:List (List UInt8)):Except Int (List UInt8):=
 if 12<l.length then .error 15 else(Dl l).bind fun m=>if 300<(D5 m).length then .error 10 else .ok (D5 m)
theorem Mp(a b:List UInt8)(r:Cm):Ek (a++b) r=(Ek a r).bind (Ek b):=by
 induction a generalizing r with
 | nil=>rfl
 | cons x l ih=>
  simp only [AL,Ek];cases r.step x false with
  | error e=>rfl
  | ok y=>exact ih y
theorem Xr{w:List UInt8}(hq:∀b∈w,b≠32/\b≠34/\b≠92):∀(d:List (List UInt8)) (v:List UInt8),v.length+w.length<=64->Ek w ⟨.bare,d,v⟩ = .ok ⟨.bare,d,v++w⟩:=by
 induction w with
 | nil=>intro d v _;simp [Ek]
 | cons b l ih=>
  intro d v hl;obtain⟨h1,h2,h3⟩:=hq b Bo;simp only [Av] at hl;simp only [Ek,Cm.step,Cm.bareS,Cm.add,h1,h2,h3,or_self,if_false,Bool.false_eq_true];rw [if_neg bB];show Ek l _=_;rw [ih (fun c B=>hq c (Ca _ B)) d (v++[b]) bG];simp
theorem aB:∀(w:List UInt8) (d:List (List UInt8)) (v:List UInt8),v.length+w.length<=64->Ek (CM w) ⟨.quo,d,v⟩ = .ok ⟨.quo,d,v++w⟩:=by
 intro w;induction w with
 | nil=>intro d v _;simp [CM,Ek]
 | cons b l ih=>
  intro d v hl;simp only [Av] at hl;have hk:∀c:UInt8,(Cm.mk .quo d v).add .quo c = .ok ⟨.quo,d,v++[c]⟩:=fun c=>by
   unfold Cm.add;rw [if_neg bG]
  have hk2:∀c:UInt8,(Cm.mk .esc d v).add .quo c = .ok ⟨.quo,d,v++[c]⟩:=fun c=>by
   unfold Cm.add;rw [if_neg bG]
  have hi:=ih d (v++[b]) bG;unfold CM;by_cases h1:b=34
  ·subst h1
   rw [if_pos rfl];simp only [Ek,Cm.step];show((Cm.mk .esc d v).step 34 false).bind (Ek (CM l))=_;simp only [Cm.step];rw [if_neg bE,hk2];show Ek (CM l) _=_;rw [hi];simp
  ·rw [if_neg h1]
   by_cases h2:b=92
   ·subst h2
    rw [if_pos rfl];simp only [Ek,Cm.step];show((Cm.mk .esc d v).step 92 false).bind (Ek (CM l))=_;simp only [Cm.step];rw [if_neg bE,hk2];show Ek (CM l) _=_;rw [hi];simp
   ·rw [if_neg h2]
    simp only [Ek,Cm.step];rw [if_neg bE,if_neg h1,if_neg h2,hk];show Ek (CM l) _=_;rw [hi];simp
theorem SN{w:List UInt8}(hl:w.length<=64){d:List (List UInt8)}(D:d.length<12):
  ∃r,Ek (textW w) ⟨.bet,d,[]⟩ = .ok r/\r.step 32 false = .ok ⟨.bet,d++[w],[]⟩/\r.step 0 true = .ok ⟨.bet,d++[w],[]⟩:=by
 unfold textW;by_cases hq:G7 w=true
 ·rw [if_pos hq]
  refine⟨⟨.shut,d++[w],[]⟩,?_,by simp [Cm.step],by simp [Cm.step]⟩;simp only [Ek,Cm.step];rw [if_neg bE,if_neg (show ¬d.length=12 by omega),if_pos trivial];show Ek (CM w++[34]) ⟨.quo,d,[]⟩=_;rw [Mp,aB w d [] bc9];simp [Ek,Cm.step,Cm.shutW,Except.bind]
 ·rw [if_neg hq]
  cases w with
  | nil=>simp [G7] at hq
  | cons b l=>
   have hb:∀c∈b::l,c≠32/\c≠34/\c≠92:=fun c B=>by
    refine⟨fun e=>hq ?_,fun e=>hq ?_,fun e=>hq ?_⟩<;>(subst e;simp only [G7,Bool.or_eq_true,List.any_eq_true];exact .inr ⟨_,B,by decide⟩)
   obtain⟨h1,h2,h3⟩:=hb b Bo;refine⟨⟨.bare,d,b::l⟩,?_,by simp [Cm.step,Cm.bareS,Cm.shutW],by simp [Cm.step,Cm.bareS,Cm.shutW]⟩;have h4:=Xr hb d [] bc9;simp only [Ek,Cm.step,Cm.bareS,h1,h2,h3,or_self,if_false,Bool.false_eq_true] at h4 ⊢;rw [if_neg bB];exact h4
theorem PC:∀(l:List (List UInt8)) (d:List (List UInt8)),(∀w∈l,w.length<=64)->d.length+l.length<=12->
  ∃r,Ek (D5 (l.map textW)) ⟨.bet,d,[]⟩ = .ok r/\r.step 0 true = .ok ⟨.bet,d++l,[]⟩
 | [],d,_,_=>⟨⟨.bet,d,[]⟩,rfl,by simp [Cm.step]⟩
 | [w],d,hw,hd=>by
  obtain⟨r,h1,_,h3⟩:=SN (hw w Bo) (d:=d) (by simp at hd;omega);exact⟨r,h1,h3⟩
 | w::x::l,d,hw,hd=>by
  simp only [Av] at hd;obtain⟨r,h1,h2,_⟩:=SN (hw w Bo) (d:=d) bB;obtain⟨r',h4,h5⟩:=PC (x::l) (d++[w]) (fun y hy=>hw y (Ca _ hy)) bG;refine⟨r',?_,by simpa using h5⟩;show Ek (textW w++32::D5 ((x::l).map textW)) _=_;rw [Mp,h1];show(r.step 32 false).bind _=_;rw [h2];exact h4
theorem Kp:∀ {l m:List (List UInt8)},Dl l = .ok m->m=l.map textW/\∀w∈l,w.length<=64/\w.all Cw=true
 | [],m,h=>by simp only [Dl] at h;cases h;exact⟨rfl,by simp⟩
 | s::l,m,h=>by
  unfold Dl at h;cases h1:Gj s with
  | error e=>rw [h1] at h;cases h
  | ok t=>
   rw [h1] at h;simp only [Except.bind] at h;cases h2:Dl l with
   | error e=>rw [h2] at h;cases h
   | ok n=>
    rw [h2] at h;simp only [Except.ok.injEq] at h;obtain⟨h3,h4⟩:=Kp h2;unfold Gj at h1;split at h1
    ·cases h1
    ·split at h1
     ·cases h1
     ·rename_i ha hb
      cases h1;refine⟨by rw [<- h,h3];rfl,fun w hw=>?_⟩;rcases Ac.1 hw with rfl | h5
      ·exact⟨by omega,by simpa using hb⟩
      ·exact h4 w h5
theorem MY:∀ {w:List UInt8},w.all Cw=true->(CM w).all Cw=true
 | [],_=>rfl
 | b::l,h=>by
  simp only [List.all_cons,Af] at h;have hi:=MY h.2;unfold CM;split
  ·simp [hi];decide
  ·split
   ·simp [hi];decide
   ·simp [hi,h.1]
theorem SG{w:List UInt8}(h:w.all Cw=true):(textW w).all Cw=true:=by
 unfold textW;split
 ·rw [List.all_cons,List.all_append,MY h];decide
 ·exact h
theorem Mi:∀ {l:List (List UInt8)},(∀w∈l,w.all Cw=true)->(D5 l).all Cw=true
 | [],_=>rfl
 | [w],h=>h w Bo
 | w::x::l,h=>by
  show(w++32::D5 (x::l)).all Cw=true;rw [List.all_append,List.all_cons,h w Bo,Mi (fun y hy=>h y (Ca _ hy))];decide
theorem SC{l:List (List UInt8)}{t:List UInt8}(h:Gc l = .ok t):Ce t = .ok l:=by
 unfold Gc at h;split at h
 ·cases h
 ·rename_i h12
  cases hw:Dl l with
  | error e=>rw [hw] at h;cases h
  | ok m=>
   rw [hw] at h;simp only [Except.bind] at h;split at h
   ·cases h
   ·rename_i h300
    simp only [Except.ok.injEq] at h;obtain⟨hm,B⟩:=Kp hw;subst h;obtain⟨r,h1,h2⟩:=PC l [] (fun w hw=>(B w hw).1) bG;unfold Ce;rw [if_neg h300,if_neg (by
     rw [hm,Mi (fun y hy=>by
      obtain⟨w,hw,rfl⟩:=BO.1 hy;exact SG (B w hw).2)];decide)]
    rw [hm];show(Ek _ ⟨.bet,[],[]⟩).bind _=_;rw [h1];show(r.step 0 true).bind _=_;rw [h2];rfl
instance lawfulBytes:LawfulBEq ByteArray where
 eq_of_beq {a b} h:=by
  cases a with
  | mk x=>cases b with
   | mk y=>exact congrArg ByteArray.mk (eq_of_beq (α:=Array UInt8) h)
 rfl {a}:=by
  cases a with
  | mk x=>exact beq_self_eq_true x
def JA(s:ByteArray):Bool:=decide (s.size<=64)&&s.data.toList.all Cw
structure GF where
 name:ByteArray
 role:Int
 deriving DecidableEq
def setsR(r:Int):Nat:=if r=3 then 7 else if r=2 then 3 else if r=1 then 1 else 0
def B7:List (Int×List UInt8×Nat):=
 [(1,[99,114,101,97,116,101],4),(2,[115,117,115,112,101,110,100],2),(3,[114,101,115,117,109,101],2),(4,[100,114,97,105,110],2),(5,[100,101,108,101,116,101],4),(6,[114,111,116,97,116,101],4),(7,[97,99,108],4),(8,[107,105,108,108],2),(9,[108,105,115,116],1),(10,[115,104,111,119],1)]
def verbR(s:ByteArray):Int×Int:=match B7.find? (fun v=>v.2.1==s.data.toList) with
 | some v=>(v.1,0)
 | none=>(0,121)
def LJ(role verb:Int):Bool:=B7.any fun v=>v.1==verb&&(setsR role &&& v.2.2 != 0)
def Cn:List ByteArray->List GF->Bool
 | _,[]=>true
 | met,o::l=>decide (o≠⟨⟨#[]⟩,0⟩)&&!met.contains o.name&&Cn (met++[o.name]) l
def WC(o:GF):Bool:=decide (o.name≠⟨#[]⟩)&&JA o.name&&decide (setsR o.role≠0)
def G9(l:List GF):Bool:=Cn [] l&&decide (l.length<=10)&&l.all WC
def BM(l:List GF)(name:ByteArray):Int×Int:=
 if G9 l then match l.find? (fun o=>o.name==name) with
  | some o=>(o.role,0)
  | none=>(0,120)
 else(0,120)
structure Fz where
 gens:List Int
 used:List Bool
 free:List Int
 deriving DecidableEq
def Ez:Fz:=⟨[],[],[]⟩
def UN(l:List Int):Bool:=l.all fun n=>decide (0<=n)&&decide (n<=1000000000)
def Fk(used:List Bool):List Int->List Int->Bool
 | _,[]=>true
 | met,i::l=>decide (0<=i)&&decide (i<used.length)&&!(used.getD i.toNat true)&&!met.contains i&&Fk used (met++[i]) l
def Dv(s:Fz):Bool:=decide (1<=s.gens.length)&&decide (s.gens.length<=64)&&decide (s.used.length=s.gens.length)&&UN s.gens&&Fk s.used [] s.free&&decide (s.gens.length=s.free.length+s.used.count true)
def usedL:Nat->List Bool->List Int->List (Int×Int)
 | i,true::l,g::m=>((i:Int),g)::usedL (i+1) l m
 | i,false::l,_::m=>usedL (i+1) l m
 | _,_,_=>[]
def Dt(s:Fz):List (Int×Int):=if Dv s then usedL 0 s.used s.gens else []
def IU(n:Int):Fz×Int:=if n<1\/64<n then(Ez,2) else(⟨D6 n.toNat 0,D6 n.toNat false,(AC n.toNat).map fun i:Nat=>n - 1 - (i:Int)⟩,0)
def Bn(s:Fz):Fz×(Int×Int)×Int:=
 if Dv s then
  match s.free.getLast? with
  | none=>(Ez,(0,0),92)
  | some i=>if s.gens.getD i.toNat 0=1000000000 then(Ez,(0,0),92) else
    (⟨s.gens.set i.toNat (s.gens.getD i.toNat 0+1),s.used.set i.toNat true,s.free.dropLast⟩,(i,s.gens.getD i.toNat 0+1),0)
 else(Ez,(0,0),90)
def CW(s:Fz)(h:Int×Int):Fz×Int:=
 if Dv s then if(Dt s).contains h then(⟨s.gens,s.used.set h.1.toNat false,s.free++[h.1]⟩,0) else(Ez,91) else(Ez,90)
structure El where
 id:Int
 key:ByteArray
 from_:Int
 to_:Int
 deriving DecidableEq
def Ns(k:ByteArray):Bool:=decide (1<=k.size)&&decide (k.size<=64)
def CT:List Int->Int->List El->Bool
 | _,_,[]=>true
 | met,last,c::l=>!met.contains c.id&&decide (last<=c.id)&&CT (met++[c.id]) c.id l
def IR(c:El):Bool:=decide (1<=c.id)&&decide (c.id<=1000000000)&&Ns c.key&&decide (0<=c.from_)&&decide (c.from_<c.to_)&&decide (c.to_<=1000000000000)
def DK(l:List El):Bool:=CT [] 0 l&&decide (l.length<=4)&&l.all IR
def Em(n least most:Int):Bool:=decide (least<=n)&&decide (n<=most)
def Cq(l:List El)(now overlap:Int):List El:=l.filterMap fun c=>
 if c.to_<=now then none else if c.from_<(if now+overlap<c.to_ then now+overlap else c.to_) then some { c with to_:=if now+overlap<c.to_ then now+overlap else c.to_ } else none
def DO(l:List El):Int:=(l.getLast?.map (·.id+1)).getD 1
def Bk(l:List El)(key:ByteArray)(now overlap span:Int):List El×Int×Int:=
 if DK l then if Ns key then
  if Em now 0 1000000000000&&Em overlap 0 1000000000&&Em span 1 1000000000&&decide (now+span<=1000000000000) then
   if 4<(Cq l now overlap).length+1\/1000000000<DO l then([],0,92) else(Cq l now overlap++[⟨DO l,key,now,now+span⟩],DO l,0)
  else([],0,2) else([],0,50) else([],0,110)
structure EX where
 allow:Bool
 addr:Int
 bits:Int
 from_:Int
 to_:Int
 deriving DecidableEq
def IW:EX:=⟨false,0,0,0,0⟩
def FI(addr bits:Int):Bool:=decide (0<=bits)&&decide (bits<=32)&&decide (0<=addr)&&decide (addr<=4294967295)&&decide (addr.toNat % 2 ^ (32 - bits.toNat)=0)
def Hd(f t:Int):Bool:=decide (f<=t)&&decide (0<=f)&&decide (t<=65535)
def La(r:EX):Bool:=FI r.addr r.bits&&Hd r.from_ r.to_
def Ew(l:List EX):Bool:=decide (l.length<=16)&&l.all La
def BU(l:List EX)(at_:Int)(r:EX):List EX×Int:=
 if Ew l then if La r then if at_<0\/l.length<at_\/16<=l.length then([],82) else(l.take at_.toNat++r::l.drop at_.toNat,0) else([],80) else([],81)
def Cl(l:List EX)(at_:Int):List EX×Int:=
 if Ew l then if at_<0\/(l.length:Int)<=at_ then([],82) else(l.eraseIdx at_.toNat,0) else([],81)
structure Ten where
 slot:Int
 gen:Int
 name:ByteArray
 state:Int
 version:Int
 rules:List EX
 creds:List El
 deadline:Int
 deriving DecidableEq
def IX:Ten:=⟨0,0,⟨#[]⟩,0,0,[],[],0⟩
structure CJ where
 slots:Fz
 l:List Ten
 seq:Int
 deriving DecidableEq
def WM:CJ:=⟨Ez,[],0⟩
def IK(s:ByteArray):Bool:=decide (s≠⟨#[]⟩)&&decide (s.size<=40)&&JA s
def EM(seq:Int)(t:Ten):Bool:=decide (1<=t.version)&&decide (t.version<=seq)
def FG(t:Ten):Bool:=decide (1<=t.state)&&decide (t.state<=3)&&decide (0<=t.deadline)&&decide (t.deadline<=1000000000000)&&(decide (t.deadline=0)||decide (t.state=3))
def Hf(t:Ten):Bool:=IK t.name&&Ew t.rules&&DK t.creds
def Gq(seq:Int)(t:Ten):Bool:=EM seq t&&FG t&&Hf t
def De(seq:Int):List ByteArray->List (Int×Int)->List Ten->Bool
 | _,[],[]=>true
 | met,h::hs,t::l=>decide ((t.slot,t.gen)=h)&&!met.contains t.name&&Gq seq t&&De seq (met++[t.name]) hs l
 | _,_,_=>false
def I1(r:CJ):Bool:=Dv r.slots&&decide (0<=r.seq)&&decide (r.seq<=1000000000000)&&De r.seq [] (Dt r.slots) r.l
def Qz(n:Int):CJ×Int:=(⟨(IU n).1,[],0⟩,(IU n).2)
def Bz(r:CJ):List ByteArray:=r.l.map (·.name)
def C7(l:List Ten)(name:ByteArray):Option Nat:=l.findIdx? (fun t=>t.name==name)
structure FW where
 verb:Int
 name:ByteArray
 want:Int
 at_:Int
 rule:EX
 key:ByteArray
 n:Int
 m:Int
 deriving DecidableEq
def Yb:FW:=⟨0,⟨#[]⟩,0,0,IW,⟨#[]⟩,0,0⟩
structure lA where
 err:Int
 seq:Int
 slot:Int
 gen:Int
 version:Int
 state:Int
 deriving DecidableEq
def GI(l:List Ten)(t:Ten):List Ten:=
 let k:=(l.takeWhile fun x=>decide (x.slot<t.slot)).length
 let rest:=l.drop k
 l.take k++t::(match rest with
  | x::m=>if x.slot=t.slot then m else x::m
  | []=>[])
def Gm(r:CJ)(c:FW)(now:Int):CJ×Ten×Int:=
 if IK c.name then
  match C7 r.l c.name with
  | some _=>(r,IX,153)
  | none=>if(Bn r.slots).2.2≠0 then(r,IX,(Bn r.slots).2.2) else
   if(Bk [] c.key now 0 c.n).2.2≠0 then(r,IX,(Bk [] c.key now 0 c.n).2.2) else
    let t:Ten:=⟨(Bn r.slots).2.1.1,(Bn r.slots).2.1.2,c.name,1,1,[],(Bk [] c.key now 0 c.n).1,0⟩
    (⟨(Bn r.slots).1,GI r.l t,r.seq⟩,t,0)
 else(r,IX,152)
def Bv(t:Ten)(c:FW)(now:Int):Ten×Int:=
 if c.verb=2 then if t.state≠2 then({ t with state:=2,deadline:=0 },0) else(t,156)
 else if c.verb=3 then if t.state=2 then({ t with state:=1,deadline:=0 },0) else(t,156)
 else if c.verb=4 then if t.state=1 then if c.n<1\/1000000000<c.n\/1000000000000<now+c.n then(t,2) else({ t with state:=3,deadline:=now+c.n },0) else(t,156)
 else if c.verb=6 then if(Bk t.creds c.key now c.n c.m).2.2=0 then({ t with creds:=(Bk t.creds c.key now c.n c.m).1 },0) else(t,(Bk t.creds c.key now c.n c.m).2.2)
 else if c.verb=7 then if 0<=c.at_ then if(BU t.rules c.at_ c.rule).2=0 then({ t with rules:=(BU t.rules c.at_ c.rule).1 },0) else(t,(BU t.rules c.at_ c.rule).2)
  else if(Cl t.rules (-(c.at_+1))).2=0 then({ t with rules:=(Cl t.rules (-(c.at_+1))).1 },0) else(t,(Cl t.rules (-(c.at_+1))).2)
 else(t,0)
def EL(r:CJ)(c:FW)(now:Int):CJ×Ten×Int:=
 match C7 r.l c.name with
 | none=>(r,IX,154)
 | some i=>
  let t:=r.l.getD i IX
  if c.want≠0/\c.want≠t.version then(r,IX,155) else
   if(Bv t c now).2≠0 then(r,IX,(Bv t c now).2) else
    let x:=(Bv t c now).1
    if c.verb=8\/c.verb=10 then(r,t,0)
    else if c.verb=5 then(⟨(CW r.slots (x.slot,x.gen)).1,r.l.eraseIdx i,r.seq⟩,{ x with version:=x.version+1 },0)
    else(⟨r.slots,GI r.l { x with version:=x.version+1 },r.seq⟩,{ x with version:=x.version+1 },0)
def Xv(r:CJ)(c:FW)(now:Int):CJ×Ten×Int:=
 if c.verb=1 then Gm r c now else if c.verb=9 then(r,IX,0) else EL r c now
def pY(r:CJ)(role:Int)(c:FW)(now:Int):CJ×lA:=
 if I1 r=false\/1000000000000<=r.seq\/now<0\/1000000000000<now then(WM,⟨150,0,0,0,0,0⟩) else
  let r1:CJ:=⟨r.slots,r.l,r.seq+1⟩
  if LJ role c.verb=false then(r1,⟨151,r.seq+1,0,0,0,0⟩) else
   let d:=Xv r1 c now
   if d.2.2≠0 then(r1,⟨d.2.2,r.seq+1,0,0,0,0⟩) else(d.1,⟨0,r.seq+1,d.2.1.slot,d.2.1.gen,d.2.1.version,d.2.1.state⟩)
def GS(now:Int)(r:CJ)(t:Ten):CJ:=
 if t.state≠3\/now<t.deadline\/1000000000000<=r.seq then r else⟨r.slots,GI r.l { t with state:=2,deadline:=0,version:=t.version+1 },r.seq+1⟩
def Hx(r:CJ)(now:Int):CJ:=if I1 r then r.l.foldl (GS now) r else r
inductive oN|mk (A:FW)
abbrev K_:=oN.mk
instance(A:FW):CoeDep oN (K_ A) (Array Value):=⟨#[pE pK A.verb,Dz A.name,pE pK A.want,pE pK A.at_,pI A.rule.allow,pE pK A.rule.addr,pE pK A.rule.bits,pE pK A.rule.from_,pE pK A.rule.to_,Dz A.key,pE pK A.n,pE pK A.m]⟩
inductive oO|mk (A:EX)
abbrev L_:=oO.mk
instance(A:EX):CoeDep oO (L_ A) (Array Value):=⟨#[pI A.allow,pE pK A.addr,pE pK A.bits,pE pK A.from_,pE pK A.to_]⟩
def IZ(s:List UInt8):Prop:=s.length<=64/\s.all Cw=true
def Cm.Good(r:Cm):Prop:=(∀s∈r.done,IZ s)/\IZ r.word
theorem Cm.Good.add{r B:Cm}{st:WS}{b:UInt8}(h:r.Good)(hb:Cw b=true)(he:r.add st b = .ok B):B.Good:=by
 unfold Cm.add at he;split at he
 ·cases he
 ·cases he
  exact⟨h.1,by simp;omega,by simp [h.2.2,hb]⟩
theorem Cm.Good.shutW{r:Cm}(h:r.Good)(st:WS):(r.shutW st).Good:=⟨fun s hs=>by
 simp only [Cm.shutW,AQ,Ag] at hs;rcases hs with h1 | h1
 ·exact h.1 s h1
 ·subst h1;exact h.2,by simp [Cm.shutW,IZ]⟩
theorem Cm.Good.bareS{r B:Cm}{b:UInt8}{e:Bool}(h:r.Good)(hb:Cw b=true\/e=true)(he:r.bareS b e = .ok B):B.Good:=by
 unfold Cm.bareS at he;split at he
 ·cases he;exact h.shutW _
 ·rename_i hn
  split at he
  ·cases he
  ·split at he
   ·cases he
   ·rcases hb with hb | hb
    ·exact h.add hb he
    ·exact absurd (.inl hb) hn
theorem Cm.Good.step{r B:Cm}{b:UInt8}{e:Bool}(h:r.Good)(hb:Cw b=true\/e=true)(he:r.step b e = .ok B):B.Good:=by
 unfold Cm.step at he;split at he
 ·split at he
  ·cases he;exact h
  ·rename_i hn
   split at he
   ·cases he
   ·split at he
    ·cases he;exact h
    ·refine h.bareS (.inl ?_) he
     rcases hb with hb | hb
     ·exact hb
     ·exact absurd (.inl hb) hn
 ·exact h.bareS hb he
 ·split at he
  ·cases he
  ·rename_i hn
   split at he
   ·cases he;exact h.shutW _
   ·split at he
    ·cases he;exact h
    ·rcases hb with hb | hb
     ·exact h.add hb he
     ·exact absurd hb hn
 ·split at he
  ·cases he
  ·cases he;exact h
 ·split at he
  ·cases he
  ·rename_i hn
   rcases hb with hb | hb
   ·exact h.add hb he
   ·exact absurd (.inl hb) hn
theorem S4:∀ {l:List UInt8} {r r':Cm},r.Good->l.all Cw=true->Ek l r = .ok r'->r'.Good
 | [],r,r',h,_,he=>by cases he;exact h
 | b::l,r,r',h,hl,he=>by
  rw [List.all_cons,Af] at hl;rw [Ek] at he;cases hs:r.step b false with
  | error e=>rw [hs] at he;cases he
  | ok r1=>
   rw [hs] at he;exact S4 (h.step (.inl hl.1) hs) hl.2 he
theorem NU{s:List UInt8}{l:List (List UInt8)}(h:Ce s = .ok l):∀w∈l,IZ w:=by
 unfold Ce at h;split at h
 ·cases h
 ·split at h
  ·cases h
  ·rename_i hp
   cases hr:Ek s .zero with
   | error e=>rw [hr] at h;cases h
   | ok r=>
    rw [hr] at h;have g:=S4 (r:=.zero) ⟨fun s hs=>by simp [Cm.zero] at hs,by simp [Cm.zero,IZ]⟩ kD hr;have h:((r.step 0 true).bind fun r=>.ok r.done)=Except.ok l:=h;cases hs:r.step 0 true with
    | error e=>rw [hs] at h;cases h
    | ok r1=>
     rw [hs] at h;injection h with h
     subst h;exact(g.step (.inr rfl) hs).1
def GH{α:Type}(f:α->Int)(t:α):List α->List α
 | []=>[t]
 | x::l=>if f x<f t then x::GH f t l else if f x=f t then t::l else t::x::l
theorem KX(t:Ten):∀(l:List Ten),GI l t=GH (·.slot) t l
 | []=>rfl
 | x::l=>by
  have hi:=KX t l;unfold GI at hi ⊢;unfold GH;by_cases h:x.slot<t.slot
  ·rw [if_pos h]
   simp only [List.takeWhile_cons,h,decide_true,if_true,Av,List.take_succ_cons,List.drop_succ_cons,AL];rw [<- hi]
  ·rw [if_neg h]
   simp only [List.takeWhile_cons,h,decide_false,Bool.false_eq_true,if_false,D4,List.take_zero,BC,BH];split<;>rfl
theorem St{α β:Type}(g:α->β)(f:β->Int)(t:α):∀(l:List α),(GH (fun x=>f (g x)) t l).map g=GH f (g t) (l.map g)
 | []=>rfl
 | x::l=>by
  unfold GH;simp only [CR];split
  ·rw [CR,St g f t l]
  ·split<;>rfl
theorem Su{α:Type}{f:α->Int}{t:α}: ∀ {l:List α} {i:Nat} (h:i<l.length),l.Pairwise (fun a b=>f a<f b)->f l[i]=f t->GH f t l=l.set i t
 | x::l,0,_,_,he=>by
  unfold GH;have he:f x=f t:=he;rw [if_neg bB,if_pos he];rfl
 | x::l,i+1,h,hp,he=>by
  unfold GH;have he:f (l[i]' bK)=f t:=he;have h1:=qK hp (pS (by simpa using h:i<l.length));rw [if_pos bB,Su bK hp.of_cons he];rfl
theorem Px{α:Type}{f:α->Int}{t:α}: ∀ {l:List α},(∀x∈l,f x≠f t)->(GH f t l).Perm (t::l)
 | [],_=>List.Perm.refl _
 | x::l,h=>by
  unfold GH;split
  ·exact((Px (fun y hy=>h y (Ca _ hy))).cons x).trans (List.Perm.swap t x l)
  ·rw [if_neg (h x Bo)]
theorem J1:∀(k:Nat) (u:List Bool) (g:List Int),∀x∈usedL k u g,(k:Int)<=x.1
 | k,true::l,g::m,x,hx=>by
  unfold usedL at hx;rcases Ac.1 hx with rfl | h
  ·exact Int.le_refl _
  ·have:=J1 (k+1) l m x h;push_cast at this;omega
 | k,false::l,_::m,x,hx=>by
  unfold usedL at hx;have:=J1 (k+1) l m x hx;push_cast at this;omega
 | _,[],_,x,hx=>by simp [usedL] at hx
 | _,true::_,[],x,hx=>by simp [usedL] at hx
 | _,false::_,[],x,hx=>by simp [usedL] at hx
theorem Oc:∀(k:Nat) (u:List Bool) (g:List Int),(usedL k u g).Pairwise (fun a b=>a.1<b.1)
 | k,true::l,g::m=>by
  unfold usedL;exact List.Pairwise.cons (fun x hx=>by have:=J1 (k+1) l m x hx;dsimp only;push_cast at this;omega) (Oc (k+1) l m)
 | k,false::l,_::m=>by unfold usedL;exact Oc (k+1) l m
 | _,[],_=>by simp [usedL]
 | _,true::_,[]=>by simp [usedL]
 | _,false::_,[]=>by simp [usedL]
theorem WK{α:Type}{f:α->Int}{t:α}{l:List α}(h:∀x∈l,f t<f x):GH f t l=t::l:=by
 cases l with
 | nil=>rfl
 | cons x l=>
  have:=h x Bo;unfold GH;rw [if_neg bB,if_neg bB]
theorem PA:∀(k:Nat) (u:List Bool) (g:List Int) (m:Nat) (z:Int),m<u.length->u.length=g.length->usedL k (u.set m true) (g.set m z)=GH (fun x:Int×Int=>x.1) (((k+m:Nat):Int),z) (usedL k u g)
 | k,b::l,x::n,0,z,_,_=>by
  show usedL k (true::l) (z::n)=_;have hge:=J1 (k+1) l n;cases b with
  | true=>
   unfold usedL GH;dsimp only;rw [if_neg bA,if_pos bA];simp
  | false=>
   show _=GH _ _ (usedL (k+1) l n);rw [WK (fun y hy=>by have:=hge y hy;dsimp only;push_cast at this ⊢;omega)];show((k:Int),z)::usedL (k+1) l n=_;simp
 | k,b::l,x::n,m+1,z,hm,hl=>by
  have hi:=PA (k+1) l n m z bT bc9;have he:k+1+m=k+(m+1):=bB;rw [he] at hi;cases b with
  | true=>
   show((k:Int),x)::usedL (k+1) (l.set m true) (n.set m z)=GH _ _ (((k:Int),x)::usedL (k+1) l n);rw [hi]
   conv=>rhs;unfold GH
   dsimp only;rw [if_pos (by push_cast;omega)]
  | false=>exact hi
 | _,[],_,m,_,hm,_=>by simp at hm
 | _,_::_,[],m,_,_,hl=>by simp at hl
theorem P9:∀(k:Nat) (u:List Bool) (g:List Int) (m:Nat),u.length=g.length->usedL k (u.set m false) g=(usedL k u g).filter (fun x=>decide (x.1≠((k+m:Nat):Int)))
 | k,b::l,x::n,0,_=>by
  have hge:=J1 (k+1) l n;have hf:(usedL (k+1) l n).filter (fun x=>decide (x.1≠((k+0:Nat):Int)))=usedL (k+1) l n:=List.filter_eq_self.2 (fun y hy=>by
   have:=hge y hy;push_cast at this;simp;omega)
  show usedL (k+1) l n=_;cases b with
  | true=>
   show _=(((k:Int),x)::usedL (k+1) l n).filter _;rw [List.filter_cons_of_neg bA,hf]
  | false=>exact hf.symm
 | k,b::l,x::n,m+1,hl=>by
  have hi:=P9 (k+1) l n m bc9;have he:k+1+m=k+(m+1):=bB;rw [he] at hi;cases b with
  | true=>
   show((k:Int),x)::usedL (k+1) (l.set m false) n=(((k:Int),x)::usedL (k+1) l n).filter _;rw [hi,List.filter_cons_of_pos bG]
  | false=>exact hi
 | _,[],_,m,_=>by simp [usedL]
 | _,_::_,[],m,hl=>by simp at hl
theorem GC:∀(k:Nat) (u:List Bool) (g:List Int) (x:Int×Int),u.length=g.length->(x∈usedL k u g↔∃m:Nat,x.1=((k+m:Nat):Int)/\u[m]? = some true/\g[m]? = some x.2)
 | k,b::l,y::n,x,hl=>by
  have hi:=GC (k+1) l n x bc9;have key:(x∈usedL k (b::l) (y::n))↔((b=true/\x=((k:Int),y))\/x∈usedL (k+1) l n):=by
   cases b with
   | true=>show x∈(((k:Int),y)::usedL (k+1) l n)↔_;simp
   | false=>show x∈usedL (k+1) l n↔_;simp
  rw [key,hi];constructor
  ·rintro(⟨rfl,rfl⟩ | ⟨m,h1,h2,h3⟩)
   ·exact⟨0,by simp,rfl,rfl⟩
   ·exact⟨m+1,by rw [h1];push_cast;omega,by simpa using h2,by simpa using h3⟩
  ·rintro⟨m,h1,h2,h3⟩
   cases m with
   | zero=>left;simp at h2 h3;exact⟨h2,Prod.ext bR h3.symm⟩
   | succ m=>right;exact⟨m,by rw [h1];push_cast;omega,by simpa using h2,by simpa using h3⟩
 | _,[],_,x,_=>by simp [usedL]
 | _,_::_,[],x,hl=>by simp at hl
theorem OY(used:List Bool):∀(l:List Int) (met:List Int),Fk used met l=true↔(∀i∈l,0<=i/\i<used.length/\used.getD i.toNat true=false/\i∉met)/\l.Nodup
 | [],met=>by simp [Fk]
 | i::l,met=>by
  unfold Fk;simp only [Af,decide_eq_true_eq,Bool.not_eq_true',OY used l (met++[i]),AQ,not_or,List.nodup_cons,Ac,List.contains_eq_mem,decide_eq_false_iff_not];constructor
  ·rintro⟨⟨⟨⟨h1,h2⟩,h3⟩,h4⟩,h5,h6⟩
   refine⟨fun j hj=>?_,fun hm=>(h5 i hm).2.2.2.2.1 rfl,h6⟩;rcases hj with rfl | hj
   ·exact⟨h1,h2,h3,h4⟩
   ·obtain⟨a,b,c,d,_⟩:=h5 j hj
    exact⟨a,b,c,d⟩
  ·rintro⟨h1,h2,h3⟩
   obtain⟨a,b,c,d⟩:=h1 i (.inl rfl);refine⟨⟨⟨⟨a,b⟩,c⟩,d⟩,fun j hj=>?_,h3⟩;obtain⟨a,b,c,d⟩:=h1 j (.inr hj);exact⟨a,b,c,d,fun e=>h2 (e▸hj),by simp⟩
structure LS(s:Fz):Prop where
 one:1≤s.gens.length
 most:s.gens.length≤64
 len:s.used.length=s.gens.length
 gens:∀g∈s.gens,0≤g∧g≤1000000000
 free:∀i∈s.free,0≤i∧i<s.used.length∧s.used.getD i.toNat true=false
 nodup:s.free.Nodup
 count:s.gens.length=s.free.length+s.used.count true
theorem Fl(s:Fz):Dv s=true↔LS s:=by
 unfold Dv UN;simp only [Af,decide_eq_true_eq,OY,Bm,Ab,not_false_eq_true,and_true];constructor
 ·rintro⟨⟨⟨⟨⟨h1,h2⟩,h3⟩,h4⟩,B,D⟩,E⟩
  exact⟨h1,h2,h3,h4,B,D,E⟩
 ·rintro⟨h1,h2,h3,h4,B,D,E⟩
  exact⟨⟨⟨⟨⟨h1,h2⟩,h3⟩,h4⟩,B,D⟩,E⟩
theorem Rf:∀ {l:List Bool} {m:Nat},l.getD m true=false->(l.set m true).count true=l.count true+1
 | [],m,h=>by simp at h
 | b::l,0,h=>by
  have:b=false:=bK;subst this;simp
 | b::l,m+1,h=>by
  have hi:=Rf (l:=l) (m:=m) bK;show(b::l.set m true).count true=_;rw [List.count_cons,List.count_cons,hi];omega
theorem OM:∀ {l:List Bool} {m:Nat},l[m]? = some true->(l.set m false).count true+1=l.count true
 | [],m,h=>by simp at h
 | b::l,0,h=>by
  have:b=true:=bK;subst this;simp
 | b::l,m+1,h=>by
  have hi:=OM (l:=l) (m:=m) bK;show(b::l.set m false).count true+1=_;rw [List.count_cons,List.count_cons,<- hi];omega
theorem VU{α:Type}{l:List α}{i:α}(h:l.getLast? = some i):l=l.dropLast++[i]:=by
 rcases List.eq_nil_or_concat l with rfl | ⟨m,x,rfl⟩
 ·simp at h
 ·simp at h;subst h;simp
theorem Vg{s:Fz}(h:LS s)(he:(Bn s).2.2=0):
  LS (Bn s).1/\Dt (Bn s).1=GH (fun x:Int×Int=>x.1) (Bn s).2.1 (Dt s)/\∀x∈Dt s,x.1≠(Bn s).2.1.1:=by
 have hb:=(Fl s).2 h;unfold Bn at he ⊢;rw [if_pos hb] at he ⊢;cases hl:s.free.getLast? with
 | none=>rw [hl] at he;simp at he
 | some i=>
  rw [hl] at he;dsimp only at he ⊢;split at he
  ·simp at he
  ·rename_i hg
   rw [if_neg hg];have hi:=List.mem_of_getLast? hl;obtain⟨h0,h1,h2⟩:=h.free i hi;have hm:i.toNat<s.used.length:=bB;have hfr:s.free=s.free.dropLast++[i]:=VU hl;have B:=h.nodup;rw [hfr,List.nodup_append] at B;have F:s.gens.getD i.toNat 0∈s.gens:=by
    rw [AO,Aq (by rw [<- h.len];exact hm)];exact pS _
   have D:LS ⟨s.gens.set i.toNat (s.gens.getD i.toNat 0+1),s.used.set i.toNat true,s.free.dropLast⟩:=by
    refine⟨by simpa using h.one,by simpa using h.most,by simpa using h.len,fun g E=>?_,fun j hj=>?_,B.1,?_⟩
    ·rcases List.mem_or_eq_of_mem_set E with h3 | rfl
     ·exact h.gens g h3
     ·have:=h.gens _ F;omega
    ·obtain⟨a,b,c⟩:=h.free j (by rw [hfr];exact List.mem_append_left _ hj)
     refine⟨a,by simpa using b,?_⟩;have hne:j≠i:=B.2.2 j hj i (Ag.2 rfl);rw [AO,List.getElem?_set_ne bB,<- AO];exact c
    ·have G:=Rf h2
     have J:s.free.length=s.free.dropLast.length+1:=by
      have h9:=congrArg List.length hfr;rw [Al] at h9;exact h9
     simp only [List.length_set];rw [G];have:=h.count;omega
   refine⟨D,?_,fun x hx e=>?_⟩
   ·unfold Dt
    rw [if_pos ((Fl _).2 D),if_pos hb];have:=PA 0 s.used s.gens i.toNat (s.gens.getD i.toNat 0+1) hm h.len;rw [this]
    congr 2
    simp;omega
   ·unfold Dt at hx
    rw [if_pos hb] at hx;obtain⟨m,h3,h4,M⟩:=(GC 0 _ _ x h.len).1 hx;have:m=i.toNat:=by rw [e] at h3;simp at h3;omega
    subst this;rw [AO,h4] at h2;simp at h2
theorem cN{s:Fz}(h:LS s){x:Int×Int}(hx:x∈Dt s):LS (CW s x).1/\Dt (CW s x).1=(Dt s).filter (fun y=>decide (y.1≠x.1)):=by
 have hb:=(Fl s).2 h;unfold CW;rw [if_pos hb,if_pos iY];have D:=hx;unfold Dt at D;rw [if_pos hb] at D;obtain⟨m,h3,h4,M⟩:=(GC 0 _ _ x h.len).1 D;have hm:m<s.used.length:=(Ad.1 h4).1;have B:x.1.toNat=m:=by rw [h3];simp
 have F:LS ⟨s.gens,s.used.set x.1.toNat false,s.free++[x.1]⟩:=by
  rw [B];refine⟨h.one,h.most,by simpa using h.len,h.gens,fun j hj=>?_,?_,?_⟩
  ·rcases AQ.1 hj with G | G
   ·obtain⟨a,b,c⟩:=h.free j G
    refine⟨a,by simpa using b,?_⟩;have hne:m≠j.toNat:=fun e=>by
     rw [<- e,AO,h4] at c;simp at c
    rw [AO,List.getElem?_set_ne hne,<- AO];exact c
   ·simp only [Ag] at G
    subst G;refine⟨by rw [h3];simp,by rw [h3];simp;exact hm,?_⟩;rw [B,AO,List.getElem?_set_self hm];rfl
  ·rw [List.nodup_append]
   refine⟨h.nodup,List.nodup_cons.2 ⟨by simp,List.nodup_nil⟩,fun a J b E e=>?_⟩;simp only [Ag] at E;subst e;subst E;obtain⟨_,_,c⟩:=h.free _ J;rw [B,AO,h4] at c;simp at c
  ·have N:=OM h4
   rw [Al];have:=h.count;simp only [Bp];omega
 refine⟨F,?_⟩;unfold Dt;rw [if_pos ((Fl _).2 F),if_pos hb];dsimp only;rw [P9 0 _ _ _ h.len,B,h3]
theorem LY:∀(l:List El) (met:List Int) (last:Int),(∀i∈met,i<=last)->(CT met last l=true↔(∀c∈l,c.id∉met/\last<=c.id)/\l.Pairwise (fun a b=>a.id<b.id))
 | [],met,last,_=>by simp [CT]
 | c::l,met,last,hm=>by
  unfold CT;by_cases h:last<=c.id
  ·have hi:=LY l (met++[c.id]) c.id (fun i hi=>by
    rcases AQ.1 hi with h1 | h1
    ·have:=hm i h1;omega
    ·simp only [Ag] at h1;omega)
   simp only [Af,Bool.not_eq_true',List.contains_eq_mem,decide_eq_false_iff_not,decide_eq_true_eq,hi,AQ,not_or,List.pairwise_cons,Ac];constructor
   ·rintro⟨⟨h1,h2⟩,h3,h4⟩
    refine⟨fun x hx=>?_,fun x hx=>?_,h4⟩
    ·rcases hx with rfl | hx
     ·exact⟨h1,h2⟩
     ·obtain⟨⟨a1,a2,_⟩,a3⟩:=h3 x hx;exact⟨a1,by omega⟩
    ·obtain⟨⟨a1,a2,_⟩,a3⟩:=h3 x hx;omega
   ·rintro⟨h1,h2,h3⟩
    refine⟨h1 c (.inl rfl),fun x hx=>⟨⟨(h1 x (.inr hx)).1,by have:=h2 x hx;omega,by simp⟩,by have:=h2 x hx;omega⟩,h3⟩
  ·simp only [Af,decide_eq_true_eq,h,and_false,false_and,false_iff,not_and]
   intro h1;exact absurd (h1 c Bo).2 h
theorem MR(l:List El):DK l=true↔l.Pairwise (fun a b=>a.id<b.id)/\l.length<=4/\∀c∈l,IR c=true:=by
 unfold DK;simp only [Af,decide_eq_true_eq,LY l [] 0 bA,Bm];constructor
 ·rintro⟨⟨⟨h1,h2⟩,h3⟩,h4⟩;exact⟨h2,h3,h4⟩
 ·rintro⟨h1,h2,h3⟩
  refine⟨⟨⟨fun c B=>⟨by simp,?_⟩,h1⟩,h2⟩,h3⟩;have:=h3 c B;simp only [IR,Af,decide_eq_true_eq] at this;omega
theorem WB{l:List El}{now ov:Int}(h:∀c∈l,IR c=true)(hn:0<=now)(hp:l.Pairwise (fun a b=>a.id<b.id)):
  (Cq l now ov).Pairwise (fun a b=>a.id<b.id)/\(∀c∈Cq l now ov,IR c=true/\∃d∈l,d.id=c.id):=by
 induction l with
 | nil=>simp [Cq]
 | cons c l ih=>
  obtain⟨h1,h2⟩:=ih (fun x hx=>h x (Ca _ hx)) hp.of_cons;have E:=h c Bo;have B:∀x∈Cq l now ov,IR x=true/\∃d∈c::l,d.id=x.id:=fun x hx=>by
   obtain⟨a,d,D,e⟩:=h2 x hx;exact⟨a,d,Ca _ D,e⟩
  unfold Cq at h1 h2 B ⊢;rw [List.filterMap_cons];by_cases ht:c.to_<=now
  ·rw [if_pos ht];exact⟨h1,B⟩
  ·rw [if_neg ht]
   by_cases hf:c.from_<(if now+ov<c.to_ then now+ov else c.to_)
   ·rw [if_pos hf]
    refine⟨List.Pairwise.cons (fun x hx=>?_) h1,fun x hx=>?_⟩
    ·obtain⟨_,d,D,e⟩:=h2 x hx
     have:=qK hp D;dsimp only;omega
    ·rcases Ac.1 hx with rfl | hx
     ·refine⟨?_,c,Bo,rfl⟩
      simp only [IR,Af,decide_eq_true_eq] at E ⊢;obtain⟨⟨⟨⟨⟨F,G⟩,J⟩,M⟩,N⟩,O⟩:=E;exact⟨⟨⟨⟨⟨F,G⟩,J⟩,M⟩,hf⟩,by split<;>omega⟩
     ·exact B x hx
   ·rw [if_neg hf];exact⟨h1,B⟩
theorem W7{l:List El}(hp:l.Pairwise (fun a b=>a.id<b.id)){c:El}(B:c∈l):c.id<DO l:=by
 unfold DO;rcases List.eq_nil_or_concat l with rfl | ⟨m,x,rfl⟩
 ·simp at B
 ·simp only [List.concat_eq_append,List.getLast?_append,List.getLast?_singleton,Option.some_or,Option.map_some,Option.getD_some] at hp B ⊢
  rcases AQ.1 B with h | h
  ·have:=(BK.1 hp).2.2 c h x (Ag.2 rfl);omega
  ·simp only [Ag] at h;subst h;omega
theorem TQ{l:List El}(h:∀c∈l,IR c=true):1<=DO l:=by
 unfold DO;rcases List.eq_nil_or_concat l with rfl | ⟨m,x,rfl⟩
 ·simp
 ·simp only [List.concat_eq_append,List.getLast?_append,List.getLast?_singleton,Option.some_or,Option.map_some,Option.getD_some]
  have:=h x bA;simp only [IR,Af,decide_eq_true_eq] at this;omega
theorem NK{l:List El}{key:ByteArray}{now ov B:Int}(he:(Bk l key now ov B).2.2=0):DK (Bk l key now ov B).1=true:=by
 unfold Bk at he ⊢;split at he
 ·rename_i h1
  split at he
  ·rename_i h2
   split at he
   ·rename_i h3
    split at he
    ·simp at he
    ·rename_i h4
     rw [if_pos h1,if_pos h2,if_pos h3,if_neg h4];simp only [Em,Af,decide_eq_true_eq] at h3;obtain⟨hp,hl,E⟩:=(MR l).1 h1;obtain⟨F,D⟩:=WB (ov:=ov) (now:=now) E bB hp;have G:∀c∈Cq l now ov,c.id<DO l:=fun c hc'=>by
      obtain⟨_,d,M,e⟩:=D c hc';rw [<- e];exact W7 hp M
     have h8:=TQ E;refine(MR _).2 ⟨BK.2 ⟨F,List.pairwise_singleton _ _,fun a J b hb=>?_⟩,by simp;omega,fun c hc'=>?_⟩
     ·simp only [Ag] at hb;subst hb;exact G a J
     ·rcases AQ.1 hc' with h9 | h9
      ·exact(D c h9).1
      ·simp only [Ag] at h9
       subst h9;simp only [IR,Af,decide_eq_true_eq];exact⟨⟨⟨⟨⟨by omega,by omega⟩,h2⟩,by omega⟩,by omega⟩,by omega⟩
   ·simp at he
  ·simp at he
 ·simp at he
theorem Wj{l:List EX}{a:Int}{r:EX}(he:(BU l a r).2=0):Ew (BU l a r).1=true:=by
 unfold BU at he ⊢;split at he
 ·rename_i h1
  split at he
  ·rename_i h2
   split at he
   ·simp at he
   ·rename_i h3
    rw [if_pos h1,if_pos h2,if_neg h3];simp only [Ew,Af,decide_eq_true_eq,Bm] at h1 ⊢;refine⟨by simp;omega,fun x hx=>?_⟩;rcases AQ.1 hx with h | h
    ·exact h1.2 x (List.mem_of_mem_take h)
    ·rcases Ac.1 h with rfl | h
     ·exact h2
     ·exact h1.2 x (qI h)
  ·simp at he
 ·simp at he
theorem WN{l:List EX}{a:Int}(he:(Cl l a).2=0):Ew (Cl l a).1=true:=by
 unfold Cl at he ⊢;split at he
 ·rename_i h1
  split at he
  ·simp at he
  ·rename_i h3
   rw [if_pos h1,if_neg h3];simp only [Ew,Af,decide_eq_true_eq,Bm] at h1 ⊢;refine⟨?_,fun x hx=>h1.2 x (List.mem_of_mem_eraseIdx hx)⟩;rw [List.length_eraseIdx];split<;>omega
 ·simp at he
def Ten.h(t:Ten):Int×Int:=(t.slot,t.gen)
theorem P7(seq:Int):∀(l:List Ten) (met:List ByteArray) (hs:List (Int×Int)),De seq met hs l=true↔l.map Ten.h=hs/\(∀t∈l,t.name∉met/\Gq seq t=true)/\l.Pairwise (fun a b=>a.name≠b.name)
 | [],met,[]=>by simp [De]
 | [],met,h::hs=>by simp [De]
 | t::l,met,[]=>by simp [De]
 | t::l,met,h::hs=>by
  unfold De;simp only [Af,decide_eq_true_eq,Bool.not_eq_true',List.contains_eq_mem,decide_eq_false_iff_not,P7 seq l (met++[t.name]) hs,CR,List.cons.injEq,AQ,not_or,Ac,List.pairwise_cons];constructor
  ·rintro⟨⟨⟨h1,h2⟩,h3⟩,h4,h5,h6⟩
   refine⟨⟨h1,h4⟩,fun x hx=>?_,fun x hx=>?_,h6⟩
   ·rcases hx with rfl | hx
    ·exact⟨h2,h3⟩
    ·exact⟨(h5 x hx).1.1,(h5 x hx).2⟩
   ·exact fun e=>(h5 x hx).1.2.1 e.symm
  ·rintro⟨⟨h1,h4⟩,h5,h6,h7⟩
   obtain⟨h2,h3⟩:=h5 t (.inl rfl);exact⟨⟨⟨h1,h2⟩,h3⟩,h4,fun x hx=>⟨⟨(h5 x (.inr hx)).1,fun e=>h6 x hx e.symm,by simp⟩,(h5 x (.inr hx)).2⟩,h7⟩
structure CE(r:CJ):Prop where
 slo:LS r.slots
 seq:0≤r.seq∧r.seq≤1000000000000
 hs:r.l.map Ten.h=Dt r.slots
 ten:∀t∈r.l,Gq r.seq t=true
 names:r.l.Pairwise (fun a b=>a.name≠b.name)
theorem Z4(r:CJ):I1 r=true↔CE r:=by
 unfold I1;simp only [Af,decide_eq_true_eq,Fl,P7,Ab,not_false_eq_true,true_and];constructor
 ·rintro⟨⟨⟨h1,h2⟩,h3⟩,h4,B,D⟩;exact⟨h1,⟨h2,h3⟩,h4,B,D⟩
 ·rintro⟨h1,⟨h2,h3⟩,h4,B,D⟩;exact⟨⟨⟨h1,h2⟩,h3⟩,h4,B,D⟩
theorem CE.up{r:CJ}(h:CE r):r.l.Pairwise (fun a b=>a.slot<b.slot):=by
 have h1:(r.l.map Ten.h).Pairwise (fun a b=>a.1<b.1):=by
  rw [h.hs];unfold Dt;rw [if_pos ((Fl _).2 h.slo)];exact Oc _ _ _
 rw [List.pairwise_map] at h1;exact h1
theorem CE.len{r:CJ}(h:CE r):r.l.length<=64:=by
 have h1:r.l.length=(Dt r.slots).length:=by rw [<- h.hs,Bd]
 have h2:∀(u:List Bool) (k:Nat) (g:List Int),(usedL k u g).length<=u.length:=by
  intro u;induction u with
  | nil=>intro k g;simp [usedL]
  | cons b l ih=>
   intro k g;cases g with
   | nil=>cases b<;>simp [usedL]
   | cons x m=>
    have:=ih (k+1) m;cases b with
    | true=>show(usedL (k+1) l m).length+1<=l.length+1;omega
    | false=>show(usedL (k+1) l m).length<=l.length+1;omega
 have h3:(Dt r.slots).length<=r.slots.used.length:=by
  unfold Dt;split
  ·exact h2 _ _ _
  ·simp
 have:=h.slo.len;have:=h.slo.most;omega
theorem Xg{s B:Int}{t:Ten}(h:Gq s t=true)(hs:s<=B):Gq B t=true:=by
 simp only [Gq,EM,Af,decide_eq_true_eq] at h ⊢;exact⟨⟨⟨h.1.1.1,by omega⟩,h.1.2⟩,h.2⟩
theorem CE.more{r:CJ}(h:CE r)(hs:r.seq<1000000000000):CE ⟨r.slots,r.l,r.seq+1⟩:=
 ⟨h.slo,⟨by have:=h.seq;dsimp only;omega,by dsimp only;omega⟩,h.hs,fun t ht=>Xg (h.ten t ht) bH,h.names⟩
theorem CE.set{r:CJ}(h:CE r){i:Nat}(hi:i<r.l.length){x:Ten}(D:x.h=r.l[i].h)(hn:x.name=r.l[i].name)(hx:Gq r.seq x=true):CE ⟨r.slots,GI r.l x,r.seq⟩/\GI r.l x=r.l.set i x:=by
 have he:r.l[i].slot=x.slot:=by have:=congrArg Prod.fst D;exact this.symm
 have hp:GI r.l x=r.l.set i x:=by rw [KX];exact Su hi h.up he
 refine⟨⟨h.slo,h.seq,?_,fun t B=>?_,?_⟩,hp⟩
 ·dsimp only
  rw [hp,List.map_set,D,<- h.hs];have:(r.l.map Ten.h)[i]'(by simpa using hi)=r.l[i].h:=bA;rw [<- this,List.set_getElem_self]
 ·dsimp only at B
  rw [hp] at B;rcases List.mem_or_eq_of_mem_set B with h1 | rfl
  ·exact h.ten t h1
  ·exact hx
 ·dsimp only
  rw [hp];have h1:(r.l.map Ten.name).Pairwise (fun a b=>a≠b):=(List.pairwise_map).2 h.names;have h2:(r.l.set i x).map Ten.name=r.l.map Ten.name:=by
   rw [List.map_set,hn];have:(r.l.map Ten.name)[i]'(by simpa using hi)=r.l[i].name:=bA;rw [<- this,List.set_getElem_self]
  rw [<- h2] at h1;exact(List.pairwise_map).1 h1
theorem NB{l:List Ten}{B:ByteArray}{i:Nat}(h:C7 l B=some i):∃hi:i<l.length,l[i].name=B:=by
 obtain⟨hi,h1,_⟩:=Dx.1 h;exact⟨hi,by simpa using h1⟩
theorem Sq{l:List Ten}{B:ByteArray}(h:C7 l B=none):∀t∈l,t.name≠B:=by
 intro t D e;have h1:=List.findIdx?_eq_none_iff.1 h t D;simp [e] at h1
theorem VN{r:CJ}(h:CE r)(c:FW)(now:Int)(hs:1<=r.seq)(he:(Gm r c now).2.2=0):CE (Gm r c now).1:=by
 unfold Gm at he ⊢;split at he
 ·rename_i hn
  rw [if_pos hn];cases hp:C7 r.l c.name with
  | some i=>rw [hp] at he;simp at he
  | none=>
   rw [hp] at he;dsimp only at he ⊢;split at he
   ·rename_i h1;exact absurd he h1
   ·rename_i h1
    rw [if_neg h1];split at he
    ·rename_i h2;exact absurd he h2
    ·rename_i h2
     rw [if_neg h2];obtain⟨G,J,M⟩:=Vg h.slo (BB.1 h1);have E:=Sq hp;have hne:∀x∈r.l,x.slot≠(Bn r.slots).2.1.1:=fun x hx=>by
      have:x.h∈Dt r.slots:=by rw [<- h.hs];exact List.mem_map_of_mem hx
      exact M _ this
     have B:=Px (f:=fun t:Ten=>t.slot) (t:=(⟨(Bn r.slots).2.1.1,(Bn r.slots).2.1.2,c.name,1,1,[],(Bk [] c.key now 0 c.n).1,0⟩:Ten)) hne;have D:=NK (BB.1 h2);refine⟨G,h.seq,?_,fun t F=>?_,?_⟩
     ·dsimp only
      rw [J,<- h.hs,KX];exact St Ten.h (fun x:Int×Int=>x.1) _ r.l
     ·dsimp only at F
      rw [KX] at F;rcases Ac.1 (B.mem_iff.1 F) with rfl | h3
      ·simp only [Gq,EM,FG,Hf,hn,D,Ew,Af,decide_eq_true_eq,Bool.or_eq_true]
       exact⟨⟨⟨by omega,hs⟩,by simp⟩,by simp⟩
      ·exact h.ten t h3
     ·dsimp only
      rw [KX];refine(B.pairwise_iff (fun {a b} hab=>fun e=>hab e.symm)).2 (List.Pairwise.cons (fun x hx=>?_) h.names);exact fun e=>E x hx e.symm
 ·simp at he
theorem Vk{t:Ten}{c:FW}{now seq:Int}(F:Gq seq t=true)(E:0<=now)(he:(Bv t c now).2=0):
  (Bv t c now).1.h=t.h/\(Bv t c now).1.name=t.name/\(Bv t c now).1.version=t.version/\FG (Bv t c now).1=true/\Hf (Bv t c now).1=true:=by
 simp only [Gq,Af] at F;obtain⟨⟨h1,h2⟩,h3⟩:=F;have D:=h2;have B:=h3;simp only [FG,Af,decide_eq_true_eq,Bool.or_eq_true] at D;simp only [Hf,Af] at B;unfold Bv at he ⊢;split at he
 ·rename_i a0;rw [if_pos a0]
  split at he
  ·rename_i a1;rw [if_pos a1];exact⟨rfl,rfl,rfl,by simp [FG],h3⟩
  ·simp at he
 ·rename_i a0;rw [if_neg a0]
  split at he
  ·rename_i a1;rw [if_pos a1]
   split at he
   ·rename_i a2;rw [if_pos a2];exact⟨rfl,rfl,rfl,by simp [FG],h3⟩
   ·simp at he
  ·rename_i a1;rw [if_neg a1]
   split at he
   ·rename_i a2;rw [if_pos a2]
    split at he
    ·rename_i a3;rw [if_pos a3]
     split at he
     ·simp at he
     ·rename_i a4;rw [if_neg a4]
      refine⟨rfl,rfl,rfl,?_,h3⟩;simp only [FG,Af,decide_eq_true_eq,Bool.or_eq_true];exact⟨⟨⟨⟨by omega,by omega⟩,by omega⟩,by omega⟩,.inr trivial⟩
    ·simp at he
   ·rename_i a2;rw [if_neg a2]
    split at he
    ·rename_i a3;rw [if_pos a3]
     split at he
     ·rename_i a4;rw [if_pos a4]
      refine⟨rfl,rfl,rfl,h2,?_⟩;simp only [Hf,Af];exact⟨B.1,NK a4⟩
     ·rename_i a4;exact absurd he a4
    ·rename_i a3;rw [if_neg a3]
     split at he
     ·rename_i a4;rw [if_pos a4]
      split at he
      ·rename_i a5;rw [if_pos a5]
       split at he
       ·rename_i a6;rw [if_pos a6]
        refine⟨rfl,rfl,rfl,h2,?_⟩;simp only [Hf,Af];exact⟨⟨B.1.1,Wj a6⟩,B.2⟩
       ·rename_i a6;exact absurd he a6
      ·rename_i a5;rw [if_neg a5]
       split at he
       ·rename_i a6;rw [if_pos a6]
        refine⟨rfl,rfl,rfl,h2,?_⟩;simp only [Hf,Af];exact⟨⟨B.1.1,WN a6⟩,B.2⟩
       ·rename_i a6;exact absurd he a6
     ·rename_i a4;rw [if_neg a4]
      exact⟨rfl,rfl,rfl,h2,h3⟩
theorem CE.erase{r:CJ}(h:CE r){i:Nat}(hi:i<r.l.length):CE ⟨(CW r.slots r.l[i].h).1,r.l.eraseIdx i,r.seq⟩:=by
 have hm:r.l[i].h∈Dt r.slots:=by rw [<- h.hs];exact List.mem_map_of_mem (pS hi)
 obtain⟨F,G⟩:=cN h.slo hm;refine⟨F,h.seq,?_,fun t E=>h.ten t (List.mem_of_mem_eraseIdx E),h.names.sublist (List.eraseIdx_sublist ..)⟩;dsimp only;rw [G,<- h.hs];have B:=h.up;clear F G hm h;generalize r.l=l at hi B ⊢;induction l generalizing i with
 | nil=>simp at hi
 | cons x l ih=>
  cases i with
  | zero=>
   show l.map Ten.h=((x::l).map Ten.h).filter _;rw [CR,List.filter_cons_of_neg bA];refine(List.filter_eq_self.2 fun y hy=>?_).symm;obtain⟨t,E,rfl⟩:=BO.1 hy;have:=qK B E;simp only [List.getElem_cons_zero,Ten.h];exact decide_eq_true bB
  | succ i=>
   have D:i<l.length:=by simpa using hi
   have:=qK B (pS D);show(x::l.eraseIdx i).map Ten.h=((x::l).map Ten.h).filter _;rw [CR,CR,List.filter_cons_of_pos (by simp only [List.getElem_cons_succ,Ten.h];exact decide_eq_true bB),ih D B.of_cons];rfl
theorem Tj{r:CJ}(h:CE r)(c:FW)(now:Int)(D:0<=now)(hv:∀t∈r.l,t.version+1<=r.seq)(he:(EL r c now).2.2=0):CE (EL r c now).1:=by
 unfold EL at he ⊢;cases hp:C7 r.l c.name with
 | none=>exact h
 | some i=>
  rw [hp] at he;obtain⟨hi,hnm⟩:=NB hp;have hg:r.l.getD i IX=r.l[i]:=by rw [AO,Aq hi];rfl
  dsimp only at he ⊢;rw [hg] at he ⊢;split at he
  ·rename_i h1;simp at he
  ·rename_i h1;rw [if_neg h1]
   split at he
   ·rename_i h2;exact absurd he h2
   ·rename_i h2;rw [if_neg h2]
    have B:=pS hi;obtain⟨e1,E,F,G,J⟩:=Vk (h.ten _ B) D (BB.1 h2);split at he
    ·rename_i h3;rw [if_pos h3];exact h
    ·rename_i h3;rw [if_neg h3]
     split at he
     ·rename_i h4;rw [if_pos h4]
      have:((Bv r.l[i] c now).1.slot,(Bv r.l[i] c now).1.gen)=r.l[i].h:=e1;rw [this];exact h.erase hi
     ·rename_i h4;rw [if_neg h4]
      refine(h.set hi (x:={ (Bv r.l[i] c now).1 with version:=(Bv r.l[i] c now).1.version+1 }) e1 E ?_).1;have M:=h.ten _ B;simp only [Gq,EM,Af,decide_eq_true_eq] at M ⊢;refine⟨⟨⟨?_,?_⟩,G⟩,J⟩
      ·omega
      ·rw [F];exact hv _ B
theorem MI{r:CJ}(h:CE r)(B:Int)(c:FW)(now:Int)(he:(pY r B c now).2.err≠150):CE (pY r B c now).1:=by
 unfold pY at he ⊢;split at he
 ·simp at he
 ·rename_i h1
  rw [if_neg h1];have hs:r.seq<1000000000000:=by
   by_cases h2:r.seq<1000000000000
   ·exact h2
   ·exact absurd (.inr (.inl bB)) h1
  have hn:0<=now:=by
   by_cases h2:0<=now
   ·exact h2
   ·exact absurd (.inr (.inr (.inl bB))) h1
  have hm:=h.more hs;dsimp only;split
  ·exact hm
  ·split
   ·exact hm
   ·rename_i h3
    have h4:=BB.1 h3;unfold Xv at h4 ⊢;split at h4
    ·rename_i h5;rw [if_pos h5];exact VN hm c now (by have:=h.seq;dsimp only;omega) h4
    ·rename_i h5;rw [if_neg h5]
     split at h4
     ·rename_i h6;rw [if_pos h6];exact hm
     ·rename_i h6;rw [if_neg h6]
      refine Tj hm c now hn (fun t D=>?_) h4;have:=h.ten t D;simp only [Gq,EM,Af,decide_eq_true_eq] at this;dsimp only;omega
structure X8(r:CJ)(k:Nat)(c:CJ):Prop where
 ok:CE c
 hs:c.l.map Ten.h=r.l.map Ten.h
 names:c.l.map Ten.name=r.l.map Ten.name
 rest:∀j,k≤j→c.l[j]? = r.l[j]?
 slots:c.slots=r.slots
 seq:r.seq≤c.seq
theorem X8.step{r c:CJ}{k:Nat}(h:X8 r k c)(hk:k<r.l.length)(now:Int):X8 r (k+1) (GS now c r.l[k]):=by
 unfold GS;split
 ·exact⟨h.ok,h.hs,h.names,fun j hj=>h.rest j bB,h.slots,h.seq⟩
 ·rename_i hc
  have hl:c.l.length=r.l.length:=by have:=congrArg List.length h.hs;simpa using this
  have B:k<c.l.length:=bB;have he:c.l[k]=r.l[k]:=by
   have:=h.rest k (Aw _);rw [Aq B,Aq hk] at this;exact Option.some.inj this
  have hsq:c.seq<1000000000000:=by
   by_cases h2:c.seq<1000000000000
   ·exact h2
   ·exact absurd (.inr (.inr bB)) hc
  have hm:=h.ok.more hsq;have D:=h.ok.ten _ (pS B);rw [he] at D;simp only [Gq,EM,FG,Af,decide_eq_true_eq,Bool.or_eq_true] at D;obtain⟨h1,h2⟩:=hm.set (i:=k) (x:={ r.l[k] with state:=2,deadline:=0,version:=r.l[k].version+1 }) B (by dsimp only;rw [he];rfl) (by dsimp only;rw [he]) (by
   simp only [Gq,EM,FG,Af,decide_eq_true_eq,Bool.or_eq_true];exact⟨⟨⟨by omega,by omega⟩,by simp⟩,D.2⟩)
  dsimp only at h1 h2;have e1:(c.l.map Ten.h)[k]'(by simpa using B)=r.l[k].h:=by simp [he]
  have E:(c.l.map Ten.name)[k]'(by simpa using B)=r.l[k].name:=by simp [he]
  refine⟨h1,?_,?_,fun j hj=>?_,h.slots,by have:=h.seq;dsimp only;omega⟩
  ·rw [h2,List.map_set,<- h.hs]
   show(c.l.map Ten.h).set k (r.l[k].h)=_;rw [<- e1,List.set_getElem_self]
  ·rw [h2,List.map_set,<- h.names]
   show(c.l.map Ten.name).set k (r.l[k].name)=_;rw [<- E,List.set_getElem_self]
  ·rw [h2,List.getElem?_set_ne bB]
   exact h.rest j bB
end
end Go.Proofs.YtncebikgoleolaaGreatDoor
