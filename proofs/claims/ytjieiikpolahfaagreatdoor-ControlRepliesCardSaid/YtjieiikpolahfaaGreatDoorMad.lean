/- Steps. -/
import Derived.Test.YtjieiikpolahfaaGreatDoorMac
set_option maxRecDepth 100000
set_option maxHeartbeats 8000000
set_option linter.all false
namespace Go.Proofs.YtjieiikpolahfaaGreatDoor
open _root_.Bool renaming and_eq_true→Af
open _root_.List renaming cons_append→AL,length_cons→Av,mem_cons_of_mem→Ca,mem_cons_self→Bo,mem_map→BO
section
theorem Mp(a b:List UInt8)(r:Cm):Ek (a++b) r=(Ek a r).bind (Ek b):=by
 induction a generalizing r with
 | nil=>rfl
 | cons x l ih=>
  simp only [AL,Ek];cases r.step x false with
  | error e=>rfl
  | ok y=>exact ih y
theorem Xr{w:List UInt8}(hq:∀b∈w,b≠32/\b≠34/\b≠92):∀(d:List (List UInt8)) (v:List UInt8),v.length+w.length<=64->Ek w ⟨.bare,d,v⟩ = .ok ⟨.bare,d,v++w⟩:=by
 induction w with
 | nil=>intro d v _;simp [Ek]
 | cons b l ih=>
  intro d v hl;obtain⟨h1,h2,h3⟩:=hq b Bo;simp only [Av] at hl;simp only [Ek,Cm.step,Cm.bareS,Cm.add,h1,h2,h3,or_self,if_false,Bool.false_eq_true];rw [if_neg bB];show Ek l _=_;rw [ih (fun c B=>hq c (Ca _ B)) d (v++[b]) bG];simp
theorem aB:∀(w:List UInt8) (d:List (List UInt8)) (v:List UInt8),v.length+w.length<=64->Ek (CM w) ⟨.quo,d,v⟩ = .ok ⟨.quo,d,v++w⟩:=by
 intro w;induction w with
 | nil=>intro d v _;simp [CM,Ek]
 | cons b l ih=>
  intro d v hl;simp only [Av] at hl;have hk:∀c:UInt8,(Cm.mk .quo d v).add .quo c = .ok ⟨.quo,d,v++[c]⟩:=fun c=>by
   unfold Cm.add;rw [if_neg bG]
  have hk2:∀c:UInt8,(Cm.mk .esc d v).add .quo c = .ok ⟨.quo,d,v++[c]⟩:=fun c=>by
   unfold Cm.add;rw [if_neg bG]
  have hi:=ih d (v++[b]) bG;unfold CM;by_cases h1:b=34
  ·subst h1
   rw [if_pos rfl];simp only [Ek,Cm.step];show((Cm.mk .esc d v).step 34 false).bind (Ek (CM l))=_;simp only [Cm.step];rw [if_neg bE,hk2];show Ek (CM l) _=_;rw [hi];simp
  ·rw [if_neg h1]
   by_cases h2:b=92
   ·subst h2
    rw [if_pos rfl];simp only [Ek,Cm.step];show((Cm.mk .esc d v).step 92 false).bind (Ek (CM l))=_;simp only [Cm.step];rw [if_neg bE,hk2];show Ek (CM l) _=_;rw [hi];simp
   ·rw [if_neg h2]
    simp only [Ek,Cm.step];rw [if_neg bE,if_neg h1,if_neg h2,hk];show Ek (CM l) _=_;rw [hi];simp
theorem SN{w:List UInt8}(hl:w.length<=64){d:List (List UInt8)}(D:d.length<12):
  ∃r,Ek (textW w) ⟨.bet,d,[]⟩ = .ok r/\r.step 32 false = .ok ⟨.bet,d++[w],[]⟩/\r.step 0 true = .ok ⟨.bet,d++[w],[]⟩:=by
 unfold textW;by_cases hq:G7 w=true
 ·rw [if_pos hq]
  refine⟨⟨.shut,d++[w],[]⟩,?_,by simp [Cm.step],by simp [Cm.step]⟩;simp only [Ek,Cm.step];rw [if_neg bE,if_neg (show ¬d.length=12 by omega),if_pos trivial];show Ek (CM w++[34]) ⟨.quo,d,[]⟩=_;rw [Mp,aB w d [] bc9];simp [Ek,Cm.step,Cm.shutW,Except.bind]
 ·rw [if_neg hq]
  cases w with
  | nil=>simp [G7] at hq
  | cons b l=>
   have hb:∀c∈b::l,c≠32/\c≠34/\c≠92:=fun c B=>by
    refine⟨fun e=>hq ?_,fun e=>hq ?_,fun e=>hq ?_⟩<;>(subst e;simp only [G7,Bool.or_eq_true,List.any_eq_true];exact .inr ⟨_,B,by decide⟩)
   obtain⟨h1,h2,h3⟩:=hb b Bo;refine⟨⟨.bare,d,b::l⟩,?_,by simp [Cm.step,Cm.bareS,Cm.shutW],by simp [Cm.step,Cm.bareS,Cm.shutW]⟩;have h4:=Xr hb d [] bc9;simp only [Ek,Cm.step,Cm.bareS,h1,h2,h3,or_self,if_false,Bool.false_eq_true] at h4 ⊢;rw [if_neg bB];exact h4
theorem PC:∀(l:List (List UInt8)) (d:List (List UInt8)),(∀w∈l,w.length<=64)->d.length+l.length<=12->
  ∃r,Ek (D5 (l.map textW)) ⟨.bet,d,[]⟩ = .ok r/\r.step 0 true = .ok ⟨.bet,d++l,[]⟩
 | [],d,_,_=>⟨⟨.bet,d,[]⟩,rfl,by simp [Cm.step]⟩
 | [w],d,hw,hd=>by
  obtain⟨r,h1,_,h3⟩:=SN (hw w Bo) (d:=d) (by simp at hd;omega);exact⟨r,h1,h3⟩
 | w::x::l,d,hw,hd=>by
  simp only [Av] at hd;obtain⟨r,h1,h2,_⟩:=SN (hw w Bo) (d:=d) bB;obtain⟨r',h4,h5⟩:=PC (x::l) (d++[w]) (fun y hy=>hw y (Ca _ hy)) bG;refine⟨r',?_,by simpa using h5⟩;show Ek (textW w++32::D5 ((x::l).map textW)) _=_;rw [Mp,h1];show(r.step 32 false).bind _=_;rw [h2];exact h4
theorem MY:∀ {w:List UInt8},w.all Cw=true->(CM w).all Cw=true
 | [],_=>rfl
 | b::l,h=>by
  simp only [List.all_cons,Af] at h;have hi:=MY h.2;unfold CM;split
  ·simp [hi];decide
  ·split
   ·simp [hi];decide
   ·simp [hi,h.1]
theorem SG{w:List UInt8}(h:w.all Cw=true):(textW w).all Cw=true:=by
 unfold textW;split
 ·rw [List.all_cons,List.all_append,MY h];decide
 ·exact h
theorem Mi:∀ {l:List (List UInt8)},(∀w∈l,w.all Cw=true)->(D5 l).all Cw=true
 | [],_=>rfl
 | [w],h=>h w Bo
 | w::x::l,h=>by
  show(w++32::D5 (x::l)).all Cw=true;rw [List.all_append,List.all_cons,h w Bo,Mi (fun y hy=>h y (Ca _ hy))];decide
theorem SC{l:List (List UInt8)}{t:List UInt8}(h:Gc l = .ok t):Ce t = .ok l:=by
 unfold Gc at h;split at h
 ·cases h
 ·rename_i h12
  cases hw:Dl l with
  | error e=>rw [hw] at h;cases h
  | ok m=>
   rw [hw] at h;simp only [Except.bind] at h;split at h
   ·cases h
   ·rename_i h300
    simp only [Except.ok.injEq] at h;obtain⟨hm,B⟩:=Kp hw;subst h;obtain⟨r,h1,h2⟩:=PC l [] (fun w hw=>(B w hw).1) bG;unfold Ce;rw [if_neg h300,if_neg (by
     rw [hm,Mi (fun y hy=>by
      obtain⟨w,hw,rfl⟩:=BO.1 hy;exact SG (B w hw).2)];decide)]
    rw [hm];show(Ek _ ⟨.bet,[],[]⟩).bind _=_;rw [h1];show(r.step 0 true).bind _=_;rw [h2];rfl
end
end Go.Proofs.YtjieiikpolahfaaGreatDoor
