/- Steps of the proof: WordP, RegP, WordL, RegQ, RegW. -/
import Derived.Test.YtcjdkbgdahgjbaaGreatDoorK0
import Derived.RowKit
set_option maxRecDepth 100000
set_option maxHeartbeats 8000000
set_option linter.all false
namespace Go.Proofs.YtcjdkbgdahgjbaaGreatDoor
open _root_.Bool renaming and_eq_true→Af
open _root_.Classical renaming not_not→B3
open IntKind renaming i64→dN
open _root_.List renaming all_eq_true→BB,cons_append→A6,findIdx?_eq_some_iff_getElem→CF,getD_eq_getElem?_getD→AE,getElem?_eq_getElem→Au,getElem?_eq_some_iff→Ad,length_append→Ag,length_cons→Ao,length_map→BX,length_nil→Eh,length_singleton→AW,map_cons→Cn,mem_append→AF,mem_cons_of_mem→Ci,mem_cons_self→Bf,mem_cons→Ac,mem_map→Ee,mem_singleton→Am,nil_append→AX,not_mem_nil→Ab,range→A0,rel_of_pairwise_cons→Ei,replicate→CL
open Value renaming bool→dL,int→dH,string→CZ
section
def Cs(b:UInt8):Bool:=decide (32≤b.toNat)&&decide (b.toNat≤126)
inductive WS where
 | bet | bare | quo | shut | esc
 deriving DecidableEq
structure Bw where
 st:WS
 done:List (List UInt8)
 word:List UInt8
def Bw.add(r:Bw)(st:WS)(b:UInt8):Except Int Bw:=if 64<r.word.length+1 then .error 14 else .ok ⟨st,r.done,r.word++[b]⟩
def Bw.shutW(r:Bw)(st:WS):Bw:=⟨st,r.done++[r.word],[]⟩
def Bw.bareS(r:Bw)(b:UInt8)(e:Bool):Except Int Bw:=
 if e=true∨b=32 then .ok (r.shutW .bet) else if b=34 then .error 12 else if b=92 then .error 13 else r.add .bare b
def Bw.step(r:Bw)(b:UInt8)(e:Bool):Except Int Bw:=
 match r.st with
 | .bet=>if e=true∨b=32 then .ok r else if r.done.length=12 then .error 15 else if b=34 then .ok ⟨.quo,r.done,r.word⟩ else r.bareS b false
 | .bare=>r.bareS b e
 | .quo=>if e=true then .error 12 else if b=34 then .ok (r.shutW .shut) else if b=92 then .ok ⟨.esc,r.done,r.word⟩ else r.add .quo b
 | .shut=>if e=false∧b≠32 then .error 12 else .ok ⟨.bet,r.done,r.word⟩
 | .esc=>if e=true∨(b≠34∧b≠92) then .error 13 else r.add .quo b
def Da:List UInt8→Bw→Except Int Bw
 | [],r=>.ok r
 | b::l,r=>(r.step b false).bind (Da l)
def Bw.zero:Bw:=⟨.bet,[],[]⟩
def BG(s:List UInt8):Except Int (List (List UInt8)):=
 if 300<s.length then .error 10 else if s.all Cs=false then .error 11 else
  (Da s .zero).bind fun r=>(r.step 0 true).bind fun r=>.ok r.done
def Gz(s:List UInt8):Bool:=s.isEmpty||s.any (fun b=>b==32||b==34||b==92)
def Cj:List UInt8→List UInt8
 | []=>[]
 | b::l=>if b=34 then 92::34::Cj l else if b=92 then 92::92::Cj l else b::Cj l
def textW(s:List UInt8):List UInt8:=if Gz s then 34::(Cj s++[34]) else s
def EV(s:List UInt8):Except Int (List UInt8):=if 64<s.length then .error 14 else if s.all Cs=false then .error 11 else .ok (textW s)
def Cd:List (List UInt8)→Except Int (List (List UInt8))
 | []=>.ok []
 | s::l=>(EV s).bind fun t=>(Cd l).bind fun m=>.ok (t::m)
def DR:List (List UInt8)→List UInt8
 | []=>[]
 | [s]=>s
 | s::l=>s++32::DR l
def DB(l:List (List UInt8)):Except Int (List UInt8):=
 if 12<l.length then .error 15 else(Cd l).bind fun m=>if 300<(DR m).length then .error 10 else .ok (DR m)
theorem Kd(a b:List UInt8)(r:Bw):Da (a++b) r=(Da a r).bind (Da b):=by
 induction a generalizing r with
 | nil=>rfl
 | cons x l ih=>
  simp only [A6,Da];cases r.step x false with
  | error e=>rfl
  | ok y=>exact ih y
theorem Tw{w:List UInt8}(hq:∀b∈w,b≠32∧b≠34∧b≠92):∀(d:List (List UInt8)) (v:List UInt8),v.length+w.length≤64→Da w ⟨.bare,d,v⟩ = .ok ⟨.bare,d,v++w⟩:=by
 induction w with
 | nil=>intro d v _;simp [Da]
 | cons b l ih=>
  intro d v hl;obtain⟨h1,h2,h3⟩:=hq b Bf;simp only [Ao] at hl;simp only [Da,Bw.step,Bw.bareS,Bw.add,h1,h2,h3,or_self,if_false,Bool.false_eq_true];rw [if_neg bB];show Da l _=_;rw [ih (fun c hc=>hq c (Ci _ hc)) d (v++[b]) bG];simp
theorem VS:∀(w:List UInt8) (d:List (List UInt8)) (v:List UInt8),v.length+w.length≤64→Da (Cj w) ⟨.quo,d,v⟩ = .ok ⟨.quo,d,v++w⟩:=by
 intro w;induction w with
 | nil=>intro d v _;simp [Cj,Da]
 | cons b l ih=>
  intro d v hl;simp only [Ao] at hl;have hk:∀c:UInt8,(Bw.mk .quo d v).add .quo c = .ok ⟨.quo,d,v++[c]⟩:=fun c=>by
   unfold Bw.add;rw [if_neg bG]
  have hk2:∀c:UInt8,(Bw.mk .esc d v).add .quo c = .ok ⟨.quo,d,v++[c]⟩:=fun c=>by
   unfold Bw.add;rw [if_neg bG]
  have hi:=ih d (v++[b]) bG;unfold Cj;by_cases h1:b=34
  ·subst h1
   rw [if_pos rfl];simp only [Da,Bw.step];show((Bw.mk .esc d v).step 34 false).bind (Da (Cj l))=_;simp only [Bw.step];rw [if_neg bE,hk2];show Da (Cj l) _=_;rw [hi];simp
  ·rw [if_neg h1]
   by_cases h2:b=92
   ·subst h2
    rw [if_pos rfl];simp only [Da,Bw.step];show((Bw.mk .esc d v).step 92 false).bind (Da (Cj l))=_;simp only [Bw.step];rw [if_neg bE,hk2];show Da (Cj l) _=_;rw [hi];simp
   ·rw [if_neg h2]
    simp only [Da,Bw.step];rw [if_neg bE,if_neg h1,if_neg h2,hk];show Da (Cj l) _=_;rw [hi];simp
theorem PA{w:List UInt8}(hl:w.length≤64){d:List (List UInt8)}(hd:d.length<12):
  ∃r,Da (textW w) ⟨.bet,d,[]⟩ = .ok r∧r.step 32 false = .ok ⟨.bet,d++[w],[]⟩∧r.step 0 true = .ok ⟨.bet,d++[w],[]⟩:=by
 unfold textW;by_cases hq:Gz w=true
 ·rw [if_pos hq]
  refine⟨⟨.shut,d++[w],[]⟩,?_,by simp [Bw.step],by simp [Bw.step]⟩;simp only [Da,Bw.step];rw [if_neg bE,if_neg (show ¬d.length=12 by omega),if_pos trivial];show Da (Cj w++[34]) ⟨.quo,d,[]⟩=_;rw [Kd,VS w d [] bb6];simp [Da,Bw.step,Bw.shutW,Except.bind]
 ·rw [if_neg hq]
  cases w with
  | nil=>simp [Gz] at hq
  | cons b l=>
   have hb:∀c∈b::l,c≠32∧c≠34∧c≠92:=fun c hc=>by
    refine⟨fun e=>hq ?_,fun e=>hq ?_,fun e=>hq ?_⟩<;>(subst e;simp only [Gz,Bool.or_eq_true,List.any_eq_true];exact .inr ⟨_,hc,by decide⟩)
   obtain⟨h1,h2,h3⟩:=hb b Bf;refine⟨⟨.bare,d,b::l⟩,?_,by simp [Bw.step,Bw.bareS,Bw.shutW],by simp [Bw.step,Bw.bareS,Bw.shutW]⟩;have h4:=Tw hb d [] bb6;simp only [Da,Bw.step,Bw.bareS,h1,h2,h3,or_self,if_false,Bool.false_eq_true] at h4 ⊢;rw [if_neg bB];exact h4
theorem MZ:∀(l:List (List UInt8)) (d:List (List UInt8)),(∀w∈l,w.length≤64)→d.length+l.length≤12→
  ∃r,Da (DR (l.map textW)) ⟨.bet,d,[]⟩ = .ok r∧r.step 0 true = .ok ⟨.bet,d++l,[]⟩
 | [],d,_,_=>⟨⟨.bet,d,[]⟩,rfl,by simp [Bw.step]⟩
 | [w],d,hw,hd=>by
  obtain⟨r,h1,_,h3⟩:=PA (hw w Bf) (d:=d) (by simp at hd;omega);exact⟨r,h1,h3⟩
 | w::x::l,d,hw,hd=>by
  simp only [Ao] at hd;obtain⟨r,h1,h2,_⟩:=PA (hw w Bf) (d:=d) bB;obtain⟨r',h4,h5⟩:=MZ (x::l) (d++[w]) (fun y hy=>hw y (Ci _ hy)) bG;refine⟨r',?_,by simpa using h5⟩;show Da (textW w++32::DR ((x::l).map textW)) _=_;rw [Kd,h1];show(r.step 32 false).bind _=_;rw [h2];exact h4
theorem IC:∀ {l m:List (List UInt8)},Cd l = .ok m→m=l.map textW∧∀w∈l,w.length≤64∧w.all Cs=true
 | [],m,h=>by simp only [Cd] at h;cases h;exact⟨rfl,by simp⟩
 | s::l,m,h=>by
  unfold Cd at h;cases h1:EV s with
  | error e=>rw [h1] at h;cases h
  | ok t=>
   rw [h1] at h;simp only [Except.bind] at h;cases h2:Cd l with
   | error e=>rw [h2] at h;cases h
   | ok n=>
    rw [h2] at h;simp only [Except.ok.injEq] at h;obtain⟨h3,h4⟩:=IC h2;unfold EV at h1;split at h1
    ·cases h1
    ·split at h1
     ·cases h1
     ·rename_i ha hb
      cases h1;refine⟨by rw [← h,h3];rfl,fun w hw=>?_⟩;rcases Ac.1 hw with rfl | h5
      ·exact⟨by omega,by simpa using hb⟩
      ·exact h4 w h5
theorem KQ:∀ {w:List UInt8},w.all Cs=true→(Cj w).all Cs=true
 | [],_=>rfl
 | b::l,h=>by
  simp only [List.all_cons,Af] at h;have hi:=KQ h.2;unfold Cj;split
  ·simp [hi];decide
  ·split
   ·simp [hi];decide
   ·simp [hi,h.1]
theorem P4{w:List UInt8}(h:w.all Cs=true):(textW w).all Cs=true:=by
 unfold textW;split
 ·rw [List.all_cons,List.all_append,KQ h];decide
 ·exact h
theorem JX:∀ {l:List (List UInt8)},(∀w∈l,w.all Cs=true)→(DR l).all Cs=true
 | [],_=>rfl
 | [w],h=>h w Bf
 | w::x::l,h=>by
  show(w++32::DR (x::l)).all Cs=true;rw [List.all_append,List.all_cons,h w Bf,JX (fun y hy=>h y (Ci _ hy))];decide
theorem Pz{l:List (List UInt8)}{t:List UInt8}(h:DB l = .ok t):BG t = .ok l:=by
 unfold DB at h;split at h
 ·cases h
 ·rename_i h12
  cases hw:Cd l with
  | error e=>rw [hw] at h;cases h
  | ok m=>
   rw [hw] at h;simp only [Except.bind] at h;split at h
   ·cases h
   ·rename_i h300
    simp only [Except.ok.injEq] at h;obtain⟨hm,hw2⟩:=IC hw;subst h;obtain⟨r,h1,h2⟩:=MZ l [] (fun w hw=>(hw2 w hw).1) bG;unfold BG;rw [if_neg h300,if_neg (by
     rw [hm,JX (fun y hy=>by
      obtain⟨w,hw,rfl⟩:=Ee.1 hy;exact P4 (hw2 w hw).2)];decide)]
    rw [hm];show(Da _ ⟨.bet,[],[]⟩).bind _=_;rw [h1];show(r.step 0 true).bind _=_;rw [h2];rfl
instance lawfulBytes:LawfulBEq ByteArray where
 eq_of_beq {a b} h:=by
  cases a with
  | mk x=>cases b with
   | mk y=>exact congrArg ByteArray.mk (eq_of_beq (α:=Array UInt8) h)
 rfl {a}:=by
  cases a with
  | mk x=>exact beq_self_eq_true x
def Hz(s:ByteArray):Bool:=decide (s.size≤64)&&s.data.toList.all Cs
structure Kp where
 name:ByteArray
 role:Int
 deriving DecidableEq
def setsR(r:Int):Nat:=if r=3 then 7 else if r=2 then 3 else if r=1 then 1 else 0
def Bb:List (Int×List UInt8×Nat):=
 [(1,[99,114,101,97,116,101],4),(2,[115,117,115,112,101,110,100],2),(3,[114,101,115,117,109,101],2),(4,[100,114,97,105,110],2),(5,[100,101,108,101,116,101],4),(6,[114,111,116,97,116,101],4),(7,[97,99,108],4),(8,[107,105,108,108],2),(9,[108,105,115,116],1),(10,[115,104,111,119],1)]
def verbR(s:ByteArray):Int×Int:=match Bb.find? (fun v=>v.2.1==s.data.toList) with
 | some v=>(v.1,0)
 | none=>(0,121)
def Q3(role verb:Int):Bool:=Bb.any fun v=>v.1==verb&&(setsR role &&& v.2.2 != 0)
def BT:List ByteArray→List Kp→Bool
 | _,[]=>true
 | met,o::l=>decide (o≠⟨⟨#[]⟩,0⟩)&&!met.contains o.name&&BT (met++[o.name]) l
def SJ(o:Kp):Bool:=decide (o.name≠⟨#[]⟩)&&Hz o.name&&decide (setsR o.role≠0)
def He(l:List Kp):Bool:=BT [] l&&decide (l.length≤10)&&l.all SJ
def Fh(l:List Kp)(name:ByteArray):Int×Int:=
 if He l then match l.find? (fun o=>o.name==name) with
  | some o=>(o.role,0)
  | none=>(0,120)
 else(0,120)
structure Ff where
 gens:List Int
 used:List Bool
 free:List Int
 deriving DecidableEq
def DF:Ff:=⟨[],[],[]⟩
def Rt(l:List Int):Bool:=l.all fun n=>decide (0≤n)&&decide (n≤1000000000)
def Es(used:List Bool):List Int→List Int→Bool
 | _,[]=>true
 | met,i::l=>decide (0≤i)&&decide (i<used.length)&&!(used.getD i.toNat true)&&!met.contains i&&Es used (met++[i]) l
def CA(s:Ff):Bool:=decide (1≤s.gens.length)&&decide (s.gens.length≤64)&&decide (s.used.length=s.gens.length)&&Rt s.gens&&Es s.used [] s.free&&decide (s.gens.length=s.free.length+s.used.count true)
def usedL:Nat→List Bool→List Int→List (Int×Int)
 | i,true::l,g::m=>((i:Int),g)::usedL (i+1) l m
 | i,false::l,_::m=>usedL (i+1) l m
 | _,_,_=>[]
def C6(s:Ff):List (Int×Int):=if CA s then usedL 0 s.used s.gens else []
def GQ(n:Int):Ff×Int:=if n<1∨64<n then(DF,2) else(⟨CL n.toNat 0,CL n.toNat false,(A0 n.toNat).map fun i:Nat=>n - 1 - (i:Int)⟩,0)
def AO(s:Ff):Ff×(Int×Int)×Int:=
 if CA s then
  match s.free.getLast? with
  | none=>(DF,(0,0),92)
  | some i=>if s.gens.getD i.toNat 0=1000000000 then(DF,(0,0),92) else
    (⟨s.gens.set i.toNat (s.gens.getD i.toNat 0+1),s.used.set i.toNat true,s.free.dropLast⟩,(i,s.gens.getD i.toNat 0+1),0)
 else(DF,(0,0),90)
def Cf(s:Ff)(h:Int×Int):Ff×Int:=
 if CA s then if(C6 s).contains h then(⟨s.gens,s.used.set h.1.toNat false,s.free++[h.1]⟩,0) else(DF,91) else(DF,90)
structure Ey where
 id:Int
 key:ByteArray
 from_:Int
 to_:Int
 deriving DecidableEq
def Lg(k:ByteArray):Bool:=decide (1≤k.size)&&decide (k.size≤64)
def Cb:List Int→Int→List Ey→Bool
 | _,_,[]=>true
 | met,last,c::l=>!met.contains c.id&&decide (last≤c.id)&&Cb (met++[c.id]) c.id l
def GO(c:Ey):Bool:=decide (1≤c.id)&&decide (c.id≤1000000000)&&Lg c.key&&decide (0≤c.from_)&&decide (c.from_<c.to_)&&decide (c.to_≤1000000000000)
def Dg(l:List Ey):Bool:=Cb [] 0 l&&decide (l.length≤4)&&l.all GO
def D1(n least most:Int):Bool:=decide (least≤n)&&decide (n≤most)
def BE(l:List Ey)(now overlap:Int):List Ey:=l.filterMap fun c=>
 if c.to_≤now then none else if c.from_<(if now+overlap<c.to_ then now+overlap else c.to_) then some { c with to_:=if now+overlap<c.to_ then now+overlap else c.to_ } else none
def Dm(l:List Ey):Int:=(l.getLast?.map (·.id+1)).getD 1
def AN(l:List Ey)(key:ByteArray)(now overlap span:Int):List Ey×Int×Int:=
 if Dg l then if Lg key then
  if D1 now 0 1000000000000&&D1 overlap 0 1000000000&&D1 span 1 1000000000&&decide (now+span≤1000000000000) then
   if 4<(BE l now overlap).length+1∨1000000000<Dm l then([],0,92) else(BE l now overlap++[⟨Dm l,key,now,now+span⟩],Dm l,0)
  else([],0,2) else([],0,50) else([],0,110)
structure EW where
 allow:Bool
 addr:Int
 bits:Int
 from_:Int
 to_:Int
 deriving DecidableEq
def Hn:EW:=⟨false,0,0,0,0⟩
def EL(addr bits:Int):Bool:=decide (0≤bits)&&decide (bits≤32)&&decide (0≤addr)&&decide (addr≤4294967295)&&decide (addr.toNat % 2 ^ (32 - bits.toNat)=0)
def FR(f t:Int):Bool:=decide (f≤t)&&decide (0≤f)&&decide (t≤65535)
def Jj(r:EW):Bool:=EL r.addr r.bits&&FR r.from_ r.to_
def DD(l:List EW):Bool:=decide (l.length≤16)&&l.all Jj
def Bp(l:List EW)(at_:Int)(r:EW):List EW×Int:=
 if DD l then if Jj r then if at_<0∨l.length<at_∨16≤l.length then([],82) else(l.take at_.toNat++r::l.drop at_.toNat,0) else([],80) else([],81)
def B8(l:List EW)(at_:Int):List EW×Int:=
 if DD l then if at_<0∨(l.length:Int)≤at_ then([],82) else(l.eraseIdx at_.toNat,0) else([],81)
structure Ten where
 slot:Int
 gen:Int
 name:ByteArray
 state:Int
 version:Int
 rules:List EW
 creds:List Ey
 deadline:Int
 deriving DecidableEq
def Hp:Ten:=⟨0,0,⟨#[]⟩,0,0,[],[],0⟩
structure CE where
 slots:Ff
 l:List Ten
 seq:Int
 deriving DecidableEq
def ST:CE:=⟨DF,[],0⟩
def GG(s:ByteArray):Bool:=decide (s≠⟨#[]⟩)&&decide (s.size≤40)&&Hz s
def EQ(seq:Int)(t:Ten):Bool:=decide (1≤t.version)&&decide (t.version≤seq)
def F8(t:Ten):Bool:=decide (1≤t.state)&&decide (t.state≤3)&&decide (0≤t.deadline)&&decide (t.deadline≤1000000000000)&&(decide (t.deadline=0)||decide (t.state=3))
def FU(t:Ten):Bool:=GG t.name&&DD t.rules&&Dg t.creds
def FE(seq:Int)(t:Ten):Bool:=EQ seq t&&F8 t&&FU t
def Ck(seq:Int):List ByteArray→List (Int×Int)→List Ten→Bool
 | _,[],[]=>true
 | met,h::hs,t::l=>decide ((t.slot,t.gen)=h)&&!met.contains t.name&&FE seq t&&Ck seq (met++[t.name]) hs l
 | _,_,_=>false
def G1(r:CE):Bool:=CA r.slots&&decide (0≤r.seq)&&decide (r.seq≤1000000000000)&&Ck r.seq [] (C6 r.slots) r.l
def N2(n:Int):CE×Int:=(⟨(GQ n).1,[],0⟩,(GQ n).2)
def BN(r:CE):List ByteArray:=r.l.map (·.name)
def BO(l:List Ten)(name:ByteArray):Option Nat:=l.findIdx? (fun t=>t.name==name)
structure FF where
 verb:Int
 name:ByteArray
 want:Int
 at_:Int
 rule:EW
 key:ByteArray
 n:Int
 m:Int
 deriving DecidableEq
def Uf:FF:=⟨0,⟨#[]⟩,0,0,Hn,⟨#[]⟩,0,0⟩
structure ZB where
 err:Int
 seq:Int
 slot:Int
 gen:Int
 version:Int
 state:Int
 deriving DecidableEq
def FD(l:List Ten)(t:Ten):List Ten:=
 let k:=(l.takeWhile fun x=>decide (x.slot<t.slot)).length
 let rest:=l.drop k
 l.take k++t::(match rest with
  | x::m=>if x.slot=t.slot then m else x::m
  | []=>[])
def Fn(r:CE)(c:FF)(now:Int):CE×Ten×Int:=
 if GG c.name then
  match BO r.l c.name with
  | some _=>(r,Hp,153)
  | none=>if(AO r.slots).2.2≠0 then(r,Hp,(AO r.slots).2.2) else
   if(AN [] c.key now 0 c.n).2.2≠0 then(r,Hp,(AN [] c.key now 0 c.n).2.2) else
    let t:Ten:=⟨(AO r.slots).2.1.1,(AO r.slots).2.1.2,c.name,1,1,[],(AN [] c.key now 0 c.n).1,0⟩
    (⟨(AO r.slots).1,FD r.l t,r.seq⟩,t,0)
 else(r,Hp,152)
def AS(t:Ten)(c:FF)(now:Int):Ten×Int:=
 if c.verb=2 then if t.state≠2 then({ t with state:=2,deadline:=0 },0) else(t,156)
 else if c.verb=3 then if t.state=2 then({ t with state:=1,deadline:=0 },0) else(t,156)
 else if c.verb=4 then if t.state=1 then if c.n<1∨1000000000<c.n∨1000000000000<now+c.n then(t,2) else({ t with state:=3,deadline:=now+c.n },0) else(t,156)
 else if c.verb=6 then if(AN t.creds c.key now c.n c.m).2.2=0 then({ t with creds:=(AN t.creds c.key now c.n c.m).1 },0) else(t,(AN t.creds c.key now c.n c.m).2.2)
 else if c.verb=7 then if 0≤c.at_ then if(Bp t.rules c.at_ c.rule).2=0 then({ t with rules:=(Bp t.rules c.at_ c.rule).1 },0) else(t,(Bp t.rules c.at_ c.rule).2)
  else if(B8 t.rules (-(c.at_+1))).2=0 then({ t with rules:=(B8 t.rules (-(c.at_+1))).1 },0) else(t,(B8 t.rules (-(c.at_+1))).2)
 else(t,0)
def DY(r:CE)(c:FF)(now:Int):CE×Ten×Int:=
 match BO r.l c.name with
 | none=>(r,Hp,154)
 | some i=>
  let t:=r.l.getD i Hp
  if c.want≠0∧c.want≠t.version then(r,Hp,155) else
   if(AS t c now).2≠0 then(r,Hp,(AS t c now).2) else
    let x:=(AS t c now).1
    if c.verb=8∨c.verb=10 then(r,t,0)
    else if c.verb=5 then(⟨(Cf r.slots (x.slot,x.gen)).1,r.l.eraseIdx i,r.seq⟩,{ x with version:=x.version+1 },0)
    else(⟨r.slots,FD r.l { x with version:=x.version+1 },r.seq⟩,{ x with version:=x.version+1 },0)
def T0(r:CE)(c:FF)(now:Int):CE×Ten×Int:=
 if c.verb=1 then Fn r c now else if c.verb=9 then(r,Hp,0) else DY r c now
def Bu(r:CE)(role:Int)(c:FF)(now:Int):CE×ZB:=
 if G1 r=false∨1000000000000≤r.seq∨now<0∨1000000000000<now then(ST,⟨150,0,0,0,0,0⟩) else
  let r1:CE:=⟨r.slots,r.l,r.seq+1⟩
  if Q3 role c.verb=false then(r1,⟨151,r.seq+1,0,0,0,0⟩) else
   let d:=T0 r1 c now
   if d.2.2≠0 then(r1,⟨d.2.2,r.seq+1,0,0,0,0⟩) else(d.1,⟨0,r.seq+1,d.2.1.slot,d.2.1.gen,d.2.1.version,d.2.1.state⟩)
def GK(now:Int)(r:CE)(t:Ten):CE:=
 if t.state≠3∨now<t.deadline∨1000000000000≤r.seq then r else⟨r.slots,FD r.l { t with state:=2,deadline:=0,version:=t.version+1 },r.seq+1⟩
def Gi(r:CE)(now:Int):CE:=if G1 r then r.l.foldl (GK now) r else r
inductive cO|mk (A:FF)
abbrev K_:=cO.mk
instance(A:FF):CoeDep cO (K_ A) (Array Value):=⟨#[dH dN A.verb,CZ A.name,dH dN A.want,dH dN A.at_,dL A.rule.allow,dH dN A.rule.addr,dH dN A.rule.bits,dH dN A.rule.from_,dH dN A.rule.to_,CZ A.key,dH dN A.n,dH dN A.m]⟩
inductive cP|mk (A:EW)
abbrev L_:=cP.mk
instance(A:EW):CoeDep cP (L_ A) (Array Value):=⟨#[dL A.allow,dH dN A.addr,dH dN A.bits,dH dN A.from_,dH dN A.to_]⟩
def GR(s:List UInt8):Prop:=s.length≤64∧s.all Cs=true
def Bw.Good(r:Bw):Prop:=(∀s∈r.done,GR s)∧GR r.word
theorem Bw.Good.add{r r':Bw}{st:WS}{b:UInt8}(h:r.Good)(hb:Cs b=true)(he:r.add st b = .ok r'):r'.Good:=by
 unfold Bw.add at he;split at he
 ·cases he
 ·cases he
  exact⟨h.1,by simp;omega,by simp [h.2.2,hb]⟩
theorem Bw.Good.shutW{r:Bw}(h:r.Good)(st:WS):(r.shutW st).Good:=⟨fun s hs=>by
 simp only [Bw.shutW,AF,Am] at hs;rcases hs with h1 | h1
 ·exact h.1 s h1
 ·subst h1;exact h.2,by simp [Bw.shutW,GR]⟩
theorem Bw.Good.bareS{r r':Bw}{b:UInt8}{e:Bool}(h:r.Good)(hb:Cs b=true∨e=true)(he:r.bareS b e = .ok r'):r'.Good:=by
 unfold Bw.bareS at he;split at he
 ·cases he;exact h.shutW _
 ·rename_i hn
  split at he
  ·cases he
  ·split at he
   ·cases he
   ·rcases hb with hb | hb
    ·exact h.add hb he
    ·exact absurd (.inl hb) hn
theorem Bw.Good.step{r r':Bw}{b:UInt8}{e:Bool}(h:r.Good)(hb:Cs b=true∨e=true)(he:r.step b e = .ok r'):r'.Good:=by
 unfold Bw.step at he;split at he
 ·split at he
  ·cases he;exact h
  ·rename_i hn
   split at he
   ·cases he
   ·split at he
    ·cases he;exact h
    ·refine h.bareS (.inl ?_) he
     rcases hb with hb | hb
     ·exact hb
     ·exact absurd (.inl hb) hn
 ·exact h.bareS hb he
 ·split at he
  ·cases he
  ·rename_i hn
   split at he
   ·cases he;exact h.shutW _
   ·split at he
    ·cases he;exact h
    ·rcases hb with hb | hb
     ·exact h.add hb he
     ·exact absurd hb hn
 ·split at he
  ·cases he
  ·cases he;exact h
 ·split at he
  ·cases he
  ·rename_i hn
   rcases hb with hb | hb
   ·exact h.add hb he
   ·exact absurd (.inl hb) hn
theorem Pp:∀ {l:List UInt8} {r r':Bw},r.Good→l.all Cs=true→Da l r = .ok r'→r'.Good
 | [],r,r',h,_,he=>by cases he;exact h
 | b::l,r,r',h,hl,he=>by
  rw [List.all_cons,Af] at hl;rw [Da] at he;cases hs:r.step b false with
  | error e=>rw [hs] at he;cases he
  | ok r1=>
   rw [hs] at he;exact Pp (h.step (.inl hl.1) hs) hl.2 he
theorem LF{s:List UInt8}{l:List (List UInt8)}(h:BG s = .ok l):∀w∈l,GR w:=by
 unfold BG at h;split at h
 ·cases h
 ·split at h
  ·cases h
  ·rename_i hp
   cases hr:Da s .zero with
   | error e=>rw [hr] at h;cases h
   | ok r=>
    rw [hr] at h;have g:=Pp (r:=.zero) ⟨fun s hs=>by simp [Bw.zero] at hs,by simp [Bw.zero,GR]⟩ YH hr;have h:((r.step 0 true).bind fun r=>.ok r.done)=Except.ok l:=h;cases hs:r.step 0 true with
    | error e=>rw [hs] at h;cases h
    | ok r1=>
     rw [hs] at h;injection h with h
     subst h;exact(g.step (.inr rfl) hs).1
def FC{α:Type}(f:α→Int)(t:α):List α→List α
 | []=>[t]
 | x::l=>if f x<f t then x::FC f t l else if f x=f t then t::l else t::x::l
theorem Jg(t:Ten):∀(l:List Ten),FD l t=FC (·.slot) t l
 | []=>rfl
 | x::l=>by
  have hi:=Jg t l;unfold FD at hi ⊢;unfold FC;by_cases h:x.slot<t.slot
  ·rw [if_pos h]
   simp only [List.takeWhile_cons,h,decide_true,if_true,Ao,List.take_succ_cons,List.drop_succ_cons,A6];rw [← hi]
  ·rw [if_neg h]
   simp only [List.takeWhile_cons,h,decide_false,Bool.false_eq_true,if_false,Eh,List.take_zero,List.drop_zero,AX];split<;>rfl
theorem Pd{α β:Type}(g:α→β)(f:β→Int)(t:α):∀(l:List α),(FC (fun x=>f (g x)) t l).map g=FC f (g t) (l.map g)
 | []=>rfl
 | x::l=>by
  unfold FC;simp only [Cn];split
  ·rw [Cn,Pd g f t l]
  ·split<;>rfl
theorem Pe{α:Type}{f:α→Int}{t:α}: ∀ {l:List α} {i:Nat} (h:i<l.length),l.Pairwise (fun a b=>f a<f b)→f l[i]=f t→FC f t l=l.set i t
 | x::l,0,_,_,he=>by
  unfold FC;have he:f x=f t:=he;rw [if_neg bB,if_pos he];rfl
 | x::l,i+1,h,hp,he=>by
  unfold FC;have he:f (l[i]' bK)=f t:=he;have h1:=Ei hp (List.getElem_mem (by simpa using h:i<l.length));rw [if_pos bB,Pe bK hp.of_cons he];rfl
theorem MM{α:Type}{f:α→Int}{t:α}: ∀ {l:List α},(∀x∈l,f x≠f t)→(FC f t l).Perm (t::l)
 | [],_=>List.Perm.refl _
 | x::l,h=>by
  unfold FC;split
  ·exact((MM (fun y hy=>h y (Ci _ hy))).cons x).trans (List.Perm.swap t x l)
  ·rw [if_neg (h x Bf)]
theorem Hq:∀(k:Nat) (u:List Bool) (g:List Int),∀x∈usedL k u g,(k:Int)≤x.1
 | k,true::l,g::m,x,hx=>by
  unfold usedL at hx;rcases Ac.1 hx with rfl | h
  ·exact Int.le_refl _
  ·have:=Hq (k+1) l m x h;push_cast at this;omega
 | k,false::l,_::m,x,hx=>by
  unfold usedL at hx;have:=Hq (k+1) l m x hx;push_cast at this;omega
 | _,[],_,x,hx=>by simp [usedL] at hx
 | _,true::_,[],x,hx=>by simp [usedL] at hx
 | _,false::_,[],x,hx=>by simp [usedL] at hx
theorem LL:∀(k:Nat) (u:List Bool) (g:List Int),(usedL k u g).Pairwise (fun a b=>a.1<b.1)
 | k,true::l,g::m=>by
  unfold usedL;exact List.Pairwise.cons (fun x hx=>by have:=Hq (k+1) l m x hx;dsimp only;push_cast at this;omega) (LL (k+1) l m)
 | k,false::l,_::m=>by unfold usedL;exact LL (k+1) l m
 | _,[],_=>by simp [usedL]
 | _,true::_,[]=>by simp [usedL]
 | _,false::_,[]=>by simp [usedL]
theorem SS{α:Type}{f:α→Int}{t:α}{l:List α}(h:∀x∈l,f t<f x):FC f t l=t::l:=by
 cases l with
 | nil=>rfl
 | cons x l=>
  have:=h x Bf;unfold FC;rw [if_neg bB,if_neg bB]
theorem MW:∀(k:Nat) (u:List Bool) (g:List Int) (m:Nat) (z:Int),m<u.length→u.length=g.length→usedL k (u.set m true) (g.set m z)=FC (fun x:Int×Int=>x.1) (((k+m:Nat):Int),z) (usedL k u g)
 | k,b::l,x::n,0,z,_,_=>by
  show usedL k (true::l) (z::n)=_;have hge:=Hq (k+1) l n;cases b with
  | true=>
   unfold usedL FC;dsimp only;rw [if_neg bA,if_pos bA];simp
  | false=>
   show _=FC _ _ (usedL (k+1) l n);rw [SS (fun y hy=>by have:=hge y hy;dsimp only;push_cast at this ⊢;omega)];show((k:Int),z)::usedL (k+1) l n=_;simp
 | k,b::l,x::n,m+1,z,hm,hl=>by
  have hi:=MW (k+1) l n m z bT bb6;have he:k+1+m=k+(m+1):=by omega
  rw [he] at hi;cases b with
  | true=>
   show((k:Int),x)::usedL (k+1) (l.set m true) (n.set m z)=FC _ _ (((k:Int),x)::usedL (k+1) l n);rw [hi]
   conv=>rhs;unfold FC
   dsimp only;rw [if_pos (by push_cast;omega)]
  | false=>exact hi
 | _,[],_,m,_,hm,_=>by simp at hm
 | _,_::_,[],m,_,_,hl=>by simp at hl
theorem MV:∀(k:Nat) (u:List Bool) (g:List Int) (m:Nat),u.length=g.length→usedL k (u.set m false) g=(usedL k u g).filter (fun x=>decide (x.1≠((k+m:Nat):Int)))
 | k,b::l,x::n,0,_=>by
  have hge:=Hq (k+1) l n;have hf:(usedL (k+1) l n).filter (fun x=>decide (x.1≠((k+0:Nat):Int)))=usedL (k+1) l n:=List.filter_eq_self.2 (fun y hy=>by
   have:=hge y hy;push_cast at this;simp;omega)
  show usedL (k+1) l n=_;cases b with
  | true=>
   show _=(((k:Int),x)::usedL (k+1) l n).filter _;rw [List.filter_cons_of_neg bA,hf]
  | false=>exact hf.symm
 | k,b::l,x::n,m+1,hl=>by
  have hi:=MV (k+1) l n m bb6;have he:k+1+m=k+(m+1):=by omega
  rw [he] at hi;cases b with
  | true=>
   show((k:Int),x)::usedL (k+1) (l.set m false) n=(((k:Int),x)::usedL (k+1) l n).filter _;rw [hi,List.filter_cons_of_pos bG]
  | false=>exact hi
 | _,[],_,m,_=>by simp [usedL]
 | _,_::_,[],m,hl=>by simp at hl
theorem F9:∀(k:Nat) (u:List Bool) (g:List Int) (x:Int×Int),u.length=g.length→(x∈usedL k u g↔∃m:Nat,x.1=((k+m:Nat):Int)∧u[m]? = some true∧g[m]? = some x.2)
 | k,b::l,y::n,x,hl=>by
  have hi:=F9 (k+1) l n x bb6;have key:(x∈usedL k (b::l) (y::n))↔((b=true∧x=((k:Int),y))∨x∈usedL (k+1) l n):=by
   cases b with
   | true=>show x∈(((k:Int),y)::usedL (k+1) l n)↔_;simp
   | false=>show x∈usedL (k+1) l n↔_;simp
  rw [key,hi];constructor
  ·rintro(⟨rfl,rfl⟩ | ⟨m,h1,h2,h3⟩)
   ·exact⟨0,by simp,rfl,rfl⟩
   ·exact⟨m+1,by rw [h1];push_cast;omega,by simpa using h2,by simpa using h3⟩
  ·rintro⟨m,h1,h2,h3⟩
   cases m with
   | zero=>left;simp at h2 h3;exact⟨h2,Prod.ext bR h3.symm⟩
   | succ m=>right;exact⟨m,by rw [h1];push_cast;omega,by simpa using h2,by simpa using h3⟩
 | _,[],_,x,_=>by simp [usedL]
 | _,_::_,[],x,hl=>by simp at hl
theorem M5(used:List Bool):∀(l:List Int) (met:List Int),Es used met l=true↔(∀i∈l,0≤i∧i<used.length∧used.getD i.toNat true=false∧i∉met)∧l.Nodup
 | [],met=>by simp [Es]
 | i::l,met=>by
  unfold Es;simp only [Af,decide_eq_true_eq,Bool.not_eq_true',M5 used l (met++[i]),AF,not_or,List.nodup_cons,Ac,List.contains_eq_mem,decide_eq_false_iff_not];constructor
  ·rintro⟨⟨⟨⟨h1,h2⟩,h3⟩,h4⟩,h5,h6⟩
   refine⟨fun j hj=>?_,fun hm=>(h5 i hm).2.2.2.2.1 rfl,h6⟩;rcases hj with rfl | hj
   ·exact⟨h1,h2,h3,h4⟩
   ·obtain⟨a,b,c,d,_⟩:=h5 j hj
    exact⟨a,b,c,d⟩
  ·rintro⟨h1,h2,h3⟩
   obtain⟨a,b,c,d⟩:=h1 i (.inl rfl);refine⟨⟨⟨⟨a,b⟩,c⟩,d⟩,fun j hj=>?_,h3⟩;obtain⟨a,b,c,d⟩:=h1 j (.inr hj);exact⟨a,b,c,d,fun e=>h2 (e▸hj),by simp⟩
structure JK(s:Ff):Prop where
 one:1≤s.gens.length
 most:s.gens.length≤64
 len:s.used.length=s.gens.length
 gens:∀g∈s.gens,0≤g∧g≤1000000000
 free:∀i∈s.free,0≤i∧i<s.used.length∧s.used.getD i.toNat true=false
 nodup:s.free.Nodup
 count:s.gens.length=s.free.length+s.used.count true
theorem Eu(s:Ff):CA s=true↔JK s:=by
 unfold CA Rt;simp only [Af,decide_eq_true_eq,M5,BB,Ab,not_false_eq_true,and_true];constructor
 ·rintro⟨⟨⟨⟨⟨h1,h2⟩,h3⟩,h4⟩,h5,h6⟩,h7⟩
  exact⟨h1,h2,h3,h4,h5,h6,h7⟩
 ·rintro⟨h1,h2,h3,h4,h5,h6,h7⟩
  exact⟨⟨⟨⟨⟨h1,h2⟩,h3⟩,h4⟩,h5,h6⟩,h7⟩
theorem Oj:∀ {l:List Bool} {m:Nat},l.getD m true=false→(l.set m true).count true=l.count true+1
 | [],m,h=>by simp at h
 | b::l,0,h=>by
  have:b=false:=by simpa using h
  subst this;simp
 | b::l,m+1,h=>by
  have hi:=Oj (l:=l) (m:=m) bK;show(b::l.set m true).count true=_;rw [List.count_cons,List.count_cons,hi];omega
theorem My:∀ {l:List Bool} {m:Nat},l[m]? = some true→(l.set m false).count true+1=l.count true
 | [],m,h=>by simp at h
 | b::l,0,h=>by
  have:b=true:=by simpa using h
  subst this;simp
 | b::l,m+1,h=>by
  have hi:=My (l:=l) (m:=m) bK;show(b::l.set m false).count true+1=_;rw [List.count_cons,List.count_cons,← hi];omega
theorem Sl{α:Type}{l:List α}{i:α}(h:l.getLast? = some i):l=l.dropLast++[i]:=by
 rcases List.eq_nil_or_concat l with rfl | ⟨m,x,rfl⟩
 ·simp at h
 ·simp at h;subst h;simp
theorem R8{s:Ff}(h:JK s)(he:(AO s).2.2=0):
  JK (AO s).1∧C6 (AO s).1=FC (fun x:Int×Int=>x.1) (AO s).2.1 (C6 s)∧∀x∈C6 s,x.1≠(AO s).2.1.1:=by
 have hb:=(Eu s).2 h;unfold AO at he ⊢;rw [if_pos hb] at he ⊢;cases hl:s.free.getLast? with
 | none=>rw [hl] at he;simp at he
 | some i=>
  rw [hl] at he;dsimp only at he ⊢;split at he
  ·simp at he
  ·rename_i hg
   rw [if_neg hg];have hi:=List.mem_of_getLast? hl;obtain⟨h0,h1,h2⟩:=h.free i hi;have hm:i.toNat<s.used.length:=by omega
   have hfr:s.free=s.free.dropLast++[i]:=Sl hl;have hnd:=h.nodup;rw [hfr,List.nodup_append] at hnd;have hgi:s.gens.getD i.toNat 0∈s.gens:=by
    rw [AE,Au (by rw [← h.len];exact hm)];exact List.getElem_mem _
   have hok:JK ⟨s.gens.set i.toNat (s.gens.getD i.toNat 0+1),s.used.set i.toNat true,s.free.dropLast⟩:=by
    refine⟨by simpa using h.one,by simpa using h.most,by simpa using h.len,fun g hg'=>?_,fun j hj=>?_,hnd.1,?_⟩
    ·rcases List.mem_or_eq_of_mem_set hg' with h3 | rfl
     ·exact h.gens g h3
     ·have:=h.gens _ hgi;omega
    ·obtain⟨a,b,c⟩:=h.free j (by rw [hfr];exact List.mem_append_left _ hj)
     refine⟨a,by simpa using b,?_⟩;have hne:j≠i:=hnd.2.2 j hj i (Am.2 rfl);rw [AE,List.getElem?_set_ne bB,← AE];exact c
    ·have hc:=Oj h2
     have hl2:s.free.length=s.free.dropLast.length+1:=by
      have h9:=congrArg List.length hfr;rw [Ag] at h9;exact h9
     simp only [List.length_set];rw [hc];have:=h.count;omega
   refine⟨hok,?_,fun x hx e=>?_⟩
   ·unfold C6
    rw [if_pos ((Eu _).2 hok),if_pos hb];have:=MW 0 s.used s.gens i.toNat (s.gens.getD i.toNat 0+1) hm h.len;rw [this]
    congr 2
    simp;omega
   ·unfold C6 at hx
    rw [if_pos hb] at hx;obtain⟨m,h3,h4,h5⟩:=(F9 0 _ _ x h.len).1 hx;have:m=i.toNat:=by rw [e] at h3;simp at h3;omega
    subst this;rw [AE,h4] at h2;simp at h2
theorem Wt{s:Ff}(h:JK s){x:Int×Int}(hx:x∈C6 s):JK (Cf s x).1∧C6 (Cf s x).1=(C6 s).filter (fun y=>decide (y.1≠x.1)):=by
 have hb:=(Eu s).2 h;unfold Cf;rw [if_pos hb,if_pos Yh];have hx':=hx;unfold C6 at hx';rw [if_pos hb] at hx';obtain⟨m,h3,h4,h5⟩:=(F9 0 _ _ x h.len).1 hx';have hm:m<s.used.length:=(Ad.1 h4).1;have hxm:x.1.toNat=m:=by rw [h3];simp
 have hok:JK ⟨s.gens,s.used.set x.1.toNat false,s.free++[x.1]⟩:=by
  rw [hxm];refine⟨h.one,h.most,by simpa using h.len,h.gens,fun j hj=>?_,?_,?_⟩
  ·rcases AF.1 hj with h6 | h6
   ·obtain⟨a,b,c⟩:=h.free j h6
    refine⟨a,by simpa using b,?_⟩;have hne:m≠j.toNat:=fun e=>by
     rw [← e,AE,h4] at c;simp at c
    rw [AE,List.getElem?_set_ne hne,← AE];exact c
   ·simp only [Am] at h6
    subst h6;refine⟨by rw [h3];simp,by rw [h3];simp;exact hm,?_⟩;rw [hxm,AE,List.getElem?_set_self hm];rfl
  ·rw [List.nodup_append]
   refine⟨h.nodup,List.nodup_cons.2 ⟨by simp,List.nodup_nil⟩,fun a ha b hb' e=>?_⟩;simp only [Am] at hb';subst e;subst hb';obtain⟨_,_,c⟩:=h.free _ ha;rw [hxm,AE,h4] at c;simp at c
  ·have hc:=My h4
   rw [Ag];have:=h.count;simp only [AW];omega
 refine⟨hok,?_⟩;unfold C6;rw [if_pos ((Eu _).2 hok),if_pos hb];dsimp only;rw [MV 0 _ _ _ h.len,hxm,h3]
theorem JO:∀(l:List Ey) (met:List Int) (last:Int),(∀i∈met,i≤last)→(Cb met last l=true↔(∀c∈l,c.id∉met∧last≤c.id)∧l.Pairwise (fun a b=>a.id<b.id))
 | [],met,last,_=>by simp [Cb]
 | c::l,met,last,hm=>by
  unfold Cb;by_cases h:last≤c.id
  ·have hi:=JO l (met++[c.id]) c.id (fun i hi=>by
    rcases AF.1 hi with h1 | h1
    ·have:=hm i h1;omega
    ·simp only [Am] at h1;omega)
   simp only [Af,Bool.not_eq_true',List.contains_eq_mem,decide_eq_false_iff_not,decide_eq_true_eq,hi,AF,not_or,List.pairwise_cons,Ac];constructor
   ·rintro⟨⟨h1,h2⟩,h3,h4⟩
    refine⟨fun x hx=>?_,fun x hx=>?_,h4⟩
    ·rcases hx with rfl | hx
     ·exact⟨h1,h2⟩
     ·obtain⟨⟨a1,a2,_⟩,a3⟩:=h3 x hx;exact⟨a1,by omega⟩
    ·obtain⟨⟨a1,a2,_⟩,a3⟩:=h3 x hx;omega
   ·rintro⟨h1,h2,h3⟩
    refine⟨h1 c (.inl rfl),fun x hx=>⟨⟨(h1 x (.inr hx)).1,by have:=h2 x hx;omega,by simp⟩,by have:=h2 x hx;omega⟩,h3⟩
  ·simp only [Af,decide_eq_true_eq,h,and_false,false_and,false_iff,not_and]
   intro h1;exact absurd (h1 c Bf).2 h
theorem KK(l:List Ey):Dg l=true↔l.Pairwise (fun a b=>a.id<b.id)∧l.length≤4∧∀c∈l,GO c=true:=by
 unfold Dg;simp only [Af,decide_eq_true_eq,JO l [] 0 bA,BB];constructor
 ·rintro⟨⟨⟨h1,h2⟩,h3⟩,h4⟩;exact⟨h2,h3,h4⟩
 ·rintro⟨h1,h2,h3⟩
  refine⟨⟨⟨fun c hc=>⟨by simp,?_⟩,h1⟩,h2⟩,h3⟩;have:=h3 c hc;simp only [GO,Af,decide_eq_true_eq] at this;omega
theorem SH{l:List Ey}{now ov:Int}(h:∀c∈l,GO c=true)(hn:0≤now)(hp:l.Pairwise (fun a b=>a.id<b.id)):
  (BE l now ov).Pairwise (fun a b=>a.id<b.id)∧(∀c∈BE l now ov,GO c=true∧∃d∈l,d.id=c.id):=by
 induction l with
 | nil=>simp [BE]
 | cons c l ih=>
  obtain⟨h1,h2⟩:=ih (fun x hx=>h x (Ci _ hx)) hp.of_cons;have hc:=h c Bf;have h2':∀x∈BE l now ov,GO x=true∧∃d∈c::l,d.id=x.id:=fun x hx=>by
   obtain⟨a,d,hd,e⟩:=h2 x hx;exact⟨a,d,Ci _ hd,e⟩
  unfold BE at h1 h2 h2' ⊢;rw [List.filterMap_cons];by_cases ht:c.to_≤now
  ·rw [if_pos ht];exact⟨h1,h2'⟩
  ·rw [if_neg ht]
   by_cases hf:c.from_<(if now+ov<c.to_ then now+ov else c.to_)
   ·rw [if_pos hf]
    refine⟨List.Pairwise.cons (fun x hx=>?_) h1,fun x hx=>?_⟩
    ·obtain⟨_,d,hd,e⟩:=h2 x hx
     have:=Ei hp hd;dsimp only;omega
    ·rcases Ac.1 hx with rfl | hx
     ·refine⟨?_,c,Bf,rfl⟩
      simp only [GO,Af,decide_eq_true_eq] at hc ⊢;obtain⟨⟨⟨⟨⟨a1,a2⟩,a3⟩,a4⟩,a5⟩,a6⟩:=hc;exact⟨⟨⟨⟨⟨a1,a2⟩,a3⟩,a4⟩,hf⟩,by split<;>omega⟩
     ·exact h2' x hx
   ·rw [if_neg hf];exact⟨h1,h2'⟩
theorem SD{l:List Ey}(hp:l.Pairwise (fun a b=>a.id<b.id)){c:Ey}(hc:c∈l):c.id<Dm l:=by
 unfold Dm;rcases List.eq_nil_or_concat l with rfl | ⟨m,x,rfl⟩
 ·simp at hc
 ·simp only [List.concat_eq_append,List.getLast?_append,List.getLast?_singleton,Option.some_or,Option.map_some,Option.getD_some] at hp hc ⊢
  rcases AF.1 hc with h | h
  ·have:=(List.pairwise_append.1 hp).2.2 c h x (Am.2 rfl);omega
  ·simp only [Am] at h;subst h;omega
theorem Q4{l:List Ey}(h:∀c∈l,GO c=true):1≤Dm l:=by
 unfold Dm;rcases List.eq_nil_or_concat l with rfl | ⟨m,x,rfl⟩
 ·simp
 ·simp only [List.concat_eq_append,List.getLast?_append,List.getLast?_singleton,Option.some_or,Option.map_some,Option.getD_some]
  have:=h x bA;simp only [GO,Af,decide_eq_true_eq] at this;omega
theorem L0{l:List Ey}{key:ByteArray}{now ov span:Int}(he:(AN l key now ov span).2.2=0):Dg (AN l key now ov span).1=true:=by
 unfold AN at he ⊢;split at he
 ·rename_i h1
  split at he
  ·rename_i h2
   split at he
   ·rename_i h3
    split at he
    ·simp at he
    ·rename_i h4
     rw [if_pos h1,if_pos h2,if_pos h3,if_neg h4];simp only [D1,Af,decide_eq_true_eq] at h3;obtain⟨hp,hl,hc⟩:=(KK l).1 h1;obtain⟨h5,h6⟩:=SH (ov:=ov) (now:=now) hc bB hp;have h7:∀c∈BE l now ov,c.id<Dm l:=fun c hc'=>by
      obtain⟨_,d,hd,e⟩:=h6 c hc';rw [← e];exact SD hp hd
     have h8:=Q4 hc;refine(KK _).2 ⟨List.pairwise_append.2 ⟨h5,List.pairwise_singleton _ _,fun a ha b hb=>?_⟩,by simp;omega,fun c hc'=>?_⟩
     ·simp only [Am] at hb;subst hb;exact h7 a ha
     ·rcases AF.1 hc' with h9 | h9
      ·exact(h6 c h9).1
      ·simp only [Am] at h9
       subst h9;simp only [GO,Af,decide_eq_true_eq];exact⟨⟨⟨⟨⟨by omega,by omega⟩,h2⟩,by omega⟩,by omega⟩,by omega⟩
   ·simp at he
  ·simp at he
 ·simp at he
theorem Sy{l:List EW}{a:Int}{r:EW}(he:(Bp l a r).2=0):DD (Bp l a r).1=true:=by
 unfold Bp at he ⊢;split at he
 ·rename_i h1
  split at he
  ·rename_i h2
   split at he
   ·simp at he
   ·rename_i h3
    rw [if_pos h1,if_pos h2,if_neg h3];simp only [DD,Af,decide_eq_true_eq,BB] at h1 ⊢;refine⟨by simp;omega,fun x hx=>?_⟩;rcases AF.1 hx with h | h
    ·exact h1.2 x (List.mem_of_mem_take h)
    ·rcases Ac.1 h with rfl | h
     ·exact h2
     ·exact h1.2 x (List.mem_of_mem_drop h)
  ·simp at he
 ·simp at he
theorem SU{l:List EW}{a:Int}(he:(B8 l a).2=0):DD (B8 l a).1=true:=by
 unfold B8 at he ⊢;split at he
 ·rename_i h1
  split at he
  ·simp at he
  ·rename_i h3
   rw [if_pos h1,if_neg h3];simp only [DD,Af,decide_eq_true_eq,BB] at h1 ⊢;refine⟨?_,fun x hx=>h1.2 x (List.mem_of_mem_eraseIdx hx)⟩;rw [List.length_eraseIdx];split<;>omega
 ·simp at he
def Ten.h(t:Ten):Int×Int:=(t.slot,t.gen)
theorem MT(seq:Int):∀(l:List Ten) (met:List ByteArray) (hs:List (Int×Int)),Ck seq met hs l=true↔l.map Ten.h=hs∧(∀t∈l,t.name∉met∧FE seq t=true)∧l.Pairwise (fun a b=>a.name≠b.name)
 | [],met,[]=>by simp [Ck]
 | [],met,h::hs=>by simp [Ck]
 | t::l,met,[]=>by simp [Ck]
 | t::l,met,h::hs=>by
  unfold Ck;simp only [Af,decide_eq_true_eq,Bool.not_eq_true',List.contains_eq_mem,decide_eq_false_iff_not,MT seq l (met++[t.name]) hs,Cn,List.cons.injEq,AF,not_or,Ac,List.pairwise_cons];constructor
  ·rintro⟨⟨⟨h1,h2⟩,h3⟩,h4,h5,h6⟩
   refine⟨⟨h1,h4⟩,fun x hx=>?_,fun x hx=>?_,h6⟩
   ·rcases hx with rfl | hx
    ·exact⟨h2,h3⟩
    ·exact⟨(h5 x hx).1.1,(h5 x hx).2⟩
   ·exact fun e=>(h5 x hx).1.2.1 e.symm
  ·rintro⟨⟨h1,h4⟩,h5,h6,h7⟩
   obtain⟨h2,h3⟩:=h5 t (.inl rfl);exact⟨⟨⟨h1,h2⟩,h3⟩,h4,fun x hx=>⟨⟨(h5 x (.inr hx)).1,fun e=>h6 x hx e.symm,by simp⟩,(h5 x (.inr hx)).2⟩,h7⟩
structure Cz(r:CE):Prop where
 slo:JK r.slots
 seq:0≤r.seq∧r.seq≤1000000000000
 hs:r.l.map Ten.h=C6 r.slots
 ten:∀t∈r.l,FE r.seq t=true
 names:r.l.Pairwise (fun a b=>a.name≠b.name)
theorem Vm(r:CE):G1 r=true↔Cz r:=by
 unfold G1;simp only [Af,decide_eq_true_eq,Eu,MT,Ab,not_false_eq_true,true_and];constructor
 ·rintro⟨⟨⟨h1,h2⟩,h3⟩,h4,h5,h6⟩;exact⟨h1,⟨h2,h3⟩,h4,h5,h6⟩
 ·rintro⟨h1,⟨h2,h3⟩,h4,h5,h6⟩;exact⟨⟨⟨h1,h2⟩,h3⟩,h4,h5,h6⟩
theorem Cz.up{r:CE}(h:Cz r):r.l.Pairwise (fun a b=>a.slot<b.slot):=by
 have h1:(r.l.map Ten.h).Pairwise (fun a b=>a.1<b.1):=by
  rw [h.hs];unfold C6;rw [if_pos ((Eu _).2 h.slo)];exact LL _ _ _
 rw [List.pairwise_map] at h1;exact h1
theorem Cz.len{r:CE}(h:Cz r):r.l.length≤64:=by
 have h1:r.l.length=(C6 r.slots).length:=by rw [← h.hs,BX]
 have h2:∀(u:List Bool) (k:Nat) (g:List Int),(usedL k u g).length≤u.length:=by
  intro u;induction u with
  | nil=>intro k g;simp [usedL]
  | cons b l ih=>
   intro k g;cases g with
   | nil=>cases b<;>simp [usedL]
   | cons x m=>
    have:=ih (k+1) m;cases b with
    | true=>show(usedL (k+1) l m).length+1≤l.length+1;omega
    | false=>show(usedL (k+1) l m).length≤l.length+1;omega
 have h3:(C6 r.slots).length≤r.slots.used.length:=by
  unfold C6;split
  ·exact h2 _ _ _
  ·simp
 have:=h.slo.len;have:=h.slo.most;omega
theorem Tk{s s':Int}{t:Ten}(h:FE s t=true)(hs:s≤s'):FE s' t=true:=by
 simp only [FE,EQ,Af,decide_eq_true_eq] at h ⊢;exact⟨⟨⟨h.1.1.1,by omega⟩,h.1.2⟩,h.2⟩
theorem Cz.more{r:CE}(h:Cz r)(hs:r.seq<1000000000000):Cz ⟨r.slots,r.l,r.seq+1⟩:=
 ⟨h.slo,⟨by have:=h.seq;dsimp only;omega,by dsimp only;omega⟩,h.hs,fun t ht=>Tk (h.ten t ht) bH,h.names⟩
theorem Cz.set{r:CE}(h:Cz r){i:Nat}(hi:i<r.l.length){x:Ten}(hh:x.h=r.l[i].h)(hn:x.name=r.l[i].name)(hx:FE r.seq x=true):Cz ⟨r.slots,FD r.l x,r.seq⟩∧FD r.l x=r.l.set i x:=by
 have he:r.l[i].slot=x.slot:=by have:=congrArg Prod.fst hh;exact this.symm
 have hp:FD r.l x=r.l.set i x:=by rw [Jg];exact Pe hi h.up he
 refine⟨⟨h.slo,h.seq,?_,fun t ht=>?_,?_⟩,hp⟩
 ·dsimp only
  rw [hp,List.map_set,hh,← h.hs];have:(r.l.map Ten.h)[i]'(by simpa using hi)=r.l[i].h:=by simp
  rw [← this,List.set_getElem_self]
 ·dsimp only at ht
  rw [hp] at ht;rcases List.mem_or_eq_of_mem_set ht with h1 | rfl
  ·exact h.ten t h1
  ·exact hx
 ·dsimp only
  rw [hp];have h1:(r.l.map Ten.name).Pairwise (fun a b=>a≠b):=(List.pairwise_map).2 h.names;have h2:(r.l.set i x).map Ten.name=r.l.map Ten.name:=by
   rw [List.map_set,hn];have:(r.l.map Ten.name)[i]'(by simpa using hi)=r.l[i].name:=by simp
   rw [← this,List.set_getElem_self]
  rw [← h2] at h1;exact(List.pairwise_map).1 h1
theorem Lv{l:List Ten}{name:ByteArray}{i:Nat}(h:BO l name=some i):∃hi:i<l.length,l[i].name=name:=by
 obtain⟨hi,h1,_⟩:=CF.1 h;exact⟨hi,by simpa using h1⟩
theorem OZ{l:List Ten}{name:ByteArray}(h:BO l name=none):∀t∈l,t.name≠name:=by
 intro t ht e;have h1:=List.findIdx?_eq_none_iff.1 h t ht;simp [e] at h1
theorem Si{r:CE}(h:Cz r)(c:FF)(now:Int)(hs:1≤r.seq)(he:(Fn r c now).2.2=0):Cz (Fn r c now).1:=by
 unfold Fn at he ⊢;split at he
 ·rename_i hn
  rw [if_pos hn];cases hp:BO r.l c.name with
  | some i=>rw [hp] at he;simp at he
  | none=>
   rw [hp] at he;dsimp only at he ⊢;split at he
   ·rename_i h1;exact absurd he h1
   ·rename_i h1
    rw [if_neg h1];split at he
    ·rename_i h2;exact absurd he h2
    ·rename_i h2
     rw [if_neg h2];obtain⟨k1,k2,k3⟩:=R8 h.slo (B3.1 h1);have hpn:=OZ hp;have hne:∀x∈r.l,x.slot≠(AO r.slots).2.1.1:=fun x hx=>by
      have:x.h∈C6 r.slots:=by rw [← h.hs];exact List.mem_map_of_mem hx
      exact k3 _ this
     have hperm:=MM (f:=fun t:Ten=>t.slot) (t:=(⟨(AO r.slots).2.1.1,(AO r.slots).2.1.2,c.name,1,1,[],(AN [] c.key now 0 c.n).1,0⟩:Ten)) hne;have hcr:=L0 (B3.1 h2);refine⟨k1,h.seq,?_,fun t ht=>?_,?_⟩
     ·dsimp only
      rw [k2,← h.hs,Jg];exact Pd Ten.h (fun x:Int×Int=>x.1) _ r.l
     ·dsimp only at ht
      rw [Jg] at ht;rcases Ac.1 (hperm.mem_iff.1 ht) with rfl | h3
      ·simp only [FE,EQ,F8,FU,hn,hcr,DD,Af,decide_eq_true_eq,Bool.or_eq_true]
       exact⟨⟨⟨by omega,hs⟩,by simp⟩,by simp⟩
      ·exact h.ten t h3
     ·dsimp only
      rw [Jg];refine(hperm.pairwise_iff (fun {a b} hab=>fun e=>hab e.symm)).2 (List.Pairwise.cons (fun x hx=>?_) h.names);exact fun e=>hpn x hx e.symm
 ·simp at he
theorem RB{t:Ten}{c:FF}{now seq:Int}(ht:FE seq t=true)(hnow:0≤now)(he:(AS t c now).2=0):
  (AS t c now).1.h=t.h∧(AS t c now).1.name=t.name∧(AS t c now).1.version=t.version∧F8 (AS t c now).1=true∧FU (AS t c now).1=true:=by
 simp only [FE,Af] at ht;obtain⟨⟨h1,h2⟩,h3⟩:=ht;have h2':=h2;have h3':=h3;simp only [F8,Af,decide_eq_true_eq,Bool.or_eq_true] at h2';simp only [FU,Af] at h3';unfold AS at he ⊢;split at he
 ·rename_i a0;rw [if_pos a0]
  split at he
  ·rename_i a1;rw [if_pos a1];exact⟨rfl,rfl,rfl,by simp [F8],h3⟩
  ·simp at he
 ·rename_i a0;rw [if_neg a0]
  split at he
  ·rename_i a1;rw [if_pos a1]
   split at he
   ·rename_i a2;rw [if_pos a2];exact⟨rfl,rfl,rfl,by simp [F8],h3⟩
   ·simp at he
  ·rename_i a1;rw [if_neg a1]
   split at he
   ·rename_i a2;rw [if_pos a2]
    split at he
    ·rename_i a3;rw [if_pos a3]
     split at he
     ·simp at he
     ·rename_i a4;rw [if_neg a4]
      refine⟨rfl,rfl,rfl,?_,h3⟩;simp only [F8,Af,decide_eq_true_eq,Bool.or_eq_true];exact⟨⟨⟨⟨by omega,by omega⟩,by omega⟩,by omega⟩,.inr trivial⟩
    ·simp at he
   ·rename_i a2;rw [if_neg a2]
    split at he
    ·rename_i a3;rw [if_pos a3]
     split at he
     ·rename_i a4;rw [if_pos a4]
      refine⟨rfl,rfl,rfl,h2,?_⟩;simp only [FU,Af];exact⟨h3'.1,L0 a4⟩
     ·rename_i a4;exact absurd he a4
    ·rename_i a3;rw [if_neg a3]
     split at he
     ·rename_i a4;rw [if_pos a4]
      split at he
      ·rename_i a5;rw [if_pos a5]
       split at he
       ·rename_i a6;rw [if_pos a6]
        refine⟨rfl,rfl,rfl,h2,?_⟩;simp only [FU,Af];exact⟨⟨h3'.1.1,Sy a6⟩,h3'.2⟩
       ·rename_i a6;exact absurd he a6
      ·rename_i a5;rw [if_neg a5]
       split at he
       ·rename_i a6;rw [if_pos a6]
        refine⟨rfl,rfl,rfl,h2,?_⟩;simp only [FU,Af];exact⟨⟨h3'.1.1,SU a6⟩,h3'.2⟩
       ·rename_i a6;exact absurd he a6
     ·rename_i a4;rw [if_neg a4]
      exact⟨rfl,rfl,rfl,h2,h3⟩
theorem Cz.erase{r:CE}(h:Cz r){i:Nat}(hi:i<r.l.length):Cz ⟨(Cf r.slots r.l[i].h).1,r.l.eraseIdx i,r.seq⟩:=by
 have hm:r.l[i].h∈C6 r.slots:=by rw [← h.hs];exact List.mem_map_of_mem (List.getElem_mem hi)
 obtain⟨k1,k2⟩:=Wt h.slo hm;refine⟨k1,h.seq,?_,fun t ht=>h.ten t (List.mem_of_mem_eraseIdx ht),h.names.sublist (List.eraseIdx_sublist ..)⟩;dsimp only;rw [k2,← h.hs];have hup:=h.up;clear k1 k2 hm h;generalize r.l=l at hi hup ⊢;induction l generalizing i with
 | nil=>simp at hi
 | cons x l ih=>
  cases i with
  | zero=>
   show l.map Ten.h=((x::l).map Ten.h).filter _;rw [Cn,List.filter_cons_of_neg bA];refine(List.filter_eq_self.2 fun y hy=>?_).symm;obtain⟨t,ht,rfl⟩:=Ee.1 hy;have:=Ei hup ht;simp only [List.getElem_cons_zero,Ten.h];exact decide_eq_true bB
  | succ i=>
   have hi':i<l.length:=by simpa using hi
   have:=Ei hup (List.getElem_mem hi');show(x::l.eraseIdx i).map Ten.h=((x::l).map Ten.h).filter _;rw [Cn,Cn,List.filter_cons_of_pos (by simp only [List.getElem_cons_succ,Ten.h];exact decide_eq_true bB),ih hi' hup.of_cons];rfl
theorem PT{r:CE}(h:Cz r)(c:FF)(now:Int)(hnow:0≤now)(hv:∀t∈r.l,t.version+1≤r.seq)(he:(DY r c now).2.2=0):Cz (DY r c now).1:=by
 unfold DY at he ⊢;cases hp:BO r.l c.name with
 | none=>exact h
 | some i=>
  rw [hp] at he;obtain⟨hi,hnm⟩:=Lv hp;have hg:r.l.getD i Hp=r.l[i]:=by rw [AE,Au hi];rfl
  dsimp only at he ⊢;rw [hg] at he ⊢;split at he
  ·rename_i h1;simp at he
  ·rename_i h1;rw [if_neg h1]
   split at he
   ·rename_i h2;exact absurd he h2
   ·rename_i h2;rw [if_neg h2]
    have htm:=List.getElem_mem hi;obtain⟨e1,e2,e3,e4,e5⟩:=RB (h.ten _ htm) hnow (B3.1 h2);split at he
    ·rename_i h3;rw [if_pos h3];exact h
    ·rename_i h3;rw [if_neg h3]
     split at he
     ·rename_i h4;rw [if_pos h4]
      have:((AS r.l[i] c now).1.slot,(AS r.l[i] c now).1.gen)=r.l[i].h:=e1;rw [this];exact h.erase hi
     ·rename_i h4;rw [if_neg h4]
      refine(h.set hi (x:={ (AS r.l[i] c now).1 with version:=(AS r.l[i] c now).1.version+1 }) e1 e2 ?_).1;have h5:=h.ten _ htm;simp only [FE,EQ,Af,decide_eq_true_eq] at h5 ⊢;refine⟨⟨⟨?_,?_⟩,e4⟩,e5⟩
      ·omega
      ·rw [e3];exact hv _ htm
theorem TK{r:CE}(h:Cz r)(role:Int)(c:FF)(now:Int)(he:(Bu r role c now).2.err≠150):Cz (Bu r role c now).1:=by
 unfold Bu at he ⊢;split at he
 ·simp at he
 ·rename_i h1
  rw [if_neg h1];have hs:r.seq<1000000000000:=by
   by_cases h2:r.seq<1000000000000
   ·exact h2
   ·exact absurd (.inr (.inl bB)) h1
  have hn:0≤now:=by
   by_cases h2:0≤now
   ·exact h2
   ·exact absurd (.inr (.inr (.inl bB))) h1
  have hm:=h.more hs;dsimp only;split
  ·exact hm
  ·split
   ·exact hm
   ·rename_i h3
    have h4:=B3.1 h3;unfold T0 at h4 ⊢;split at h4
    ·rename_i h5;rw [if_pos h5];exact Si hm c now (by have:=h.seq;dsimp only;omega) h4
    ·rename_i h5;rw [if_neg h5]
     split at h4
     ·rename_i h6;rw [if_pos h6];exact hm
     ·rename_i h6;rw [if_neg h6]
      refine PT hm c now hn (fun t ht=>?_) h4;have:=h.ten t ht;simp only [FE,EQ,Af,decide_eq_true_eq] at this;dsimp only;omega
end
end Go.Proofs.YtcjdkbgdahgjbaaGreatDoor
