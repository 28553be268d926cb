/- Steps. -/
import Derived.Test.YtncebikgoleolaaGreatDoorK0
import Derived.Deep.RegionHeld
set_option maxRecDepth 100000
set_option maxHeartbeats 8000000
set_option linter.all false
namespace Go.Proofs.YtncebikgoleolaaGreatDoor
open _root_.Go renaming undef→UD
open _root_.Bool renaming and_eq_true→Af
open _root_.List renaming mem_cons→Ac
open _root_.Nat renaming lt_or_ge→pP
open Region renaming ready→Bi,wanted→CQ
section
section
variable {P:Program} {ops:Array Oper} {Q:Exit->Act->World->Prop} {md:Region.Mode} {S:World->Prop} {b:Nat}
def D3(P:Program)(md:Region.Mode)(ops:Array Oper)(Q:Exit->Act->World->Prop)(S:World->Prop)(b:Nat):Nat->Array Bool->Act->World->Prop
 | 0,listed,a,w=>Bi md ops listed = []/\Q .normal a w
 | fuel+1,listed,a,w=>
  (Bi md ops listed = []->Q .normal a w)/\
  ∀i∈Bi md ops listed,wpOp P ops Q i (fun a' w'=>if i=b then wpAnyH P md ops Q (fun _=>True) fuel (listed.setIfInBounds i true) a' w' else S w'/\D3 P md ops Q S b fuel (listed.setIfInBounds i true) a' w') a w
theorem Of:∀(fuel:Nat) (listed:Array Bool) (a:Act) (w:World),D3 P md ops Q S b fuel listed a w->wpAny P md ops Q fuel listed a w
 | 0,_,_,_,h=>h
 | fuel+1,_,_,_,h=>⟨h.1,fun i hi=>wpOp_mono (fun a' w' h'=>by
   by_cases hb:i=b
   ·rw [if_pos hb] at h';exact wpAny_of_held fuel _ a' w' h'
   ·rw [if_neg hb] at h';exact Of fuel _ a' w' h'.2) (h.2 i hi)⟩
def PB(md:Region.Mode)(ops:Array Oper)(b i:Nat):Bool:=match ops[b]? with
 | some o=>o.after.any fun e=>Region.binds md e&&(e.on==i)
 | none=>false
theorem G8{listed:Array Bool}{i:Nat}(hw:PB md ops b i=true)(hi:listed.getD i true=false):b∉Bi md ops listed:=fun hm=>by
 obtain⟨_,o,ho,hall⟩:=mem_ready.1 hm;unfold PB at hw;rw [ho] at hw;obtain⟨e,he,hb⟩:=Array.any_eq_true'.1 hw;simp only [Af,beq_iff_eq] at hb;have h1:=hall e he hb.1;rw [hb.2] at h1;rcases pP i listed.size with h' | h'
 ·simp [h'] at hi h1;rw [hi] at h1;cases h1
 ·simp [Array.getElem?_eq_none h'] at h1
theorem QH{i:Nat}{oi:Oper}{v:Value}(hi:ops[i]? = some oi)(F:∀(j:Nat) (o:Oper) cs d,ops[j]? = some o->o.op≠.select cs d)(T:PB md ops b i=true)
 (hQ:∀c a w,Q (.panic c) (a.put oi.dst v) w->Q (.panic c) a w):
  ∀(fuel:Nat) (listed:Array Bool) (a:Act) (w:World),
   (∀j oj,ops[j]? = some oj->j≠i->listed.getD j true=false->(∀e∈oj.after,Region.binds md e=true->e.on≠i)->oi.apart ops oj=true)->
   i∈Bi md ops listed->YieldsIf P ops S oi v a->S w->
   D3 P md ops Q S b fuel (listed.setIfInBounds i true) (a.put oi.dst v) w->D3 P md ops Q S b (fuel+1) listed a w:=by
 intro fuel;induction fuel with
 | zero=>
  intro listed a w _ hr hy hS H;have G:b∉Bi md ops listed:=G8 T (mem_ready.1 hr).1;refine⟨fun h=>(by rw [h] at hr;cases hr),fun j hj=>?_⟩;have hjb:j≠b:=fun e=>G (e▸hj);by_cases hji:j=i
  ·subst hji;exact hy.wpOp hi hS (by rw [if_neg hjb];exact⟨hS,H⟩)
  ·have:=ready_mono hj hji
   rw [H.1] at this;cases this
 | succ fuel ih=>
  intro listed a w B hr hy hS H;have G:b∉Bi md ops listed:=G8 T (mem_ready.1 hr).1;refine⟨fun h=>(by rw [h] at hr;cases hr),fun j hj=>?_⟩;have hjb:j≠b:=fun e=>G (e▸hj);by_cases hji:j=i
  ·subst hji;exact hy.wpOp hi hS (by rw [if_neg hjb];exact⟨hS,H⟩)
  ·have h1:=H.2 j (ready_mono hj hji)
   simp only [if_neg hjb] at h1 ⊢;obtain⟨E,oj,J,M⟩:=mem_ready.1 hj;have N:∀e∈oj.after,Region.binds md e=true->e.on≠i:=fun e he hb X=>by
    have h1:=M e he hb;have h0:=(mem_ready.1 hr).1;rw [X] at h1;rcases pP i listed.size with U | U
    ·simp [U] at h0 h1;rw [h0] at h1;cases h1
    ·simp [Array.getElem?_eq_none U] at h1
   have h2:=wpOp_putIf J (B j oj J hji E N) (fun cs d=>F i oi cs d hi) (fun cs d=>F j oj cs d J) hQ hy h1;have D:∀k ok,ops[k]? = some ok->k≠i->(listed.setIfInBounds j true).getD k true=false->
     (∀e∈ok.after,Region.binds md e=true->e.on≠i)->oi.apart ops ok=true:=fun k ok hk Y O hno=>by
    refine B k ok hk Y ?_ hno;by_cases hjk:j=k
    ·subst hjk;exact E
    ·rw [getD_set_ne true hjk] at O;exact O
   refine wpOp_mono (fun a' w' h3=>⟨h3.2.1,ih (listed.setIfInBounds j true) a' w' D (ready_mono hr (Ne.symm hji)) h3.1 h3.2.1 ?_⟩) h2;rw [Array.setIfInBounds_comm _ _ hji];exact h3.2.2
theorem Mu{i:Nat}{oi:Oper}{v:Value}{fuel:Nat}{listed:Array Bool}{a:Act}{w:World}(hi:ops[i]? = some oi)
 (hs:Region.noSelect ops=true)(hf:Region.free md ops listed i=true)(hr:(Bi md ops listed).contains i=true)(hwt:PB md ops b i=true)
 (hQ:∀c a w,Q (.panic c) (a.put oi.dst v) w->Q (.panic c) a w)(hy:YieldsIf P ops S oi v a)(hS:S w)
 (h:D3 P md ops Q S b fuel (listed.setIfInBounds i true) (a.put oi.dst v) w):D3 P md ops Q S b (fuel+1) listed a w:=
 QH hi (Region.noSelect_spec hs) hwt hQ fuel listed a w (Region.free_spec hi hf) (by simpa using hr) hy hS h
def Dm(P:Program)(md:Region.Mode)(ops:Array Oper)(Q:Exit->Act->World->Prop)(S:World->Prop)(b:Nat)(fuel:Nat)(listed:Array Bool)(a:Act)(w:World)(rs:List Nat):Prop:=
 ∀i∈rs,wpOp P ops Q i (fun a' w'=>if i=b then wpAnyH P md ops Q (fun _=>True) fuel (listed.setIfInBounds i true) a' w' else S w'/\D3 P md ops Q S b fuel (listed.setIfInBounds i true) a' w') a w
theorem Dm.nil{fuel:Nat}{listed:Array Bool}{a:Act}{w:World}: Dm P md ops Q S b fuel listed a w []:=fun _ h=>by cases h
theorem Dm.cons{fuel:Nat}{listed:Array Bool}{a:Act}{w:World}{i:Nat}{o:Oper}{rs:List Nat}(ho:ops[i]? = some o)(B:(i==b)=false)
 (h:∀K':Act->World->Prop,Shut (∀a w,S w->(S w->D3 P md ops Q S b fuel (listed.setIfInBounds i true) a w)->K' a w)->if CQ o (yielded ops a.tmps)=true then Oper.wp P o a w K' Q else K' (a.put o.dst UD) w)
 (hs:Dm P md ops Q S b fuel listed a w rs):Dm P md ops Q S b fuel listed a w (i::rs):=fun j hj=>by
 rcases Ac.1 hj with rfl | hj
 ·have hne:j≠b:=by simpa using B
  simp only [if_neg hne];exact wpOp_step ho (fun K' hK=>h K' (fun a w hS hW=>hK a w ⟨hS,hW hS⟩))
 ·exact hs j hj
theorem Dm.turn{fuel:Nat}{listed:Array Bool}{a:Act}{w:World}{o:Oper}{rs:List Nat}(ho:ops[b]? = some o)
 (h:∀K':Act->World->Prop,Shut (∀a w,(True->wpAnyH P md ops Q (fun _=>True) fuel (listed.setIfInBounds b true) a w)->K' a w)->if CQ o (yielded ops a.tmps)=true then Oper.wp P o a w K' Q else K' (a.put o.dst UD) w)
 (hs:Dm P md ops Q S b fuel listed a w rs):Dm P md ops Q S b fuel listed a w (b::rs):=fun j hj=>by
 rcases Ac.1 hj with rfl | hj
 ·simp only [if_true]
  exact wpOp_step ho (fun K' hK=>h K' (fun a w hW=>hK a w (hW trivial)))
 ·exact hs j hj
theorem I5{rs:List Nat}{fuel:Nat}{listed:Array Bool}{a:Act}{w:World}(hr:Bi md ops listed=rs)(hne:rs≠[])
 (h:Dm P md ops Q S b fuel listed a w rs):D3 P md ops Q S b (fuel+1) listed a w:=⟨fun h0=>absurd (hr▸h0) hne,hr▸h⟩
theorem C8{id:Nat}{a:Act}{w:World}(hm:P.follows .mixedOrders=true)(hS:S w.drew)
 (h:S w.drew->D3 P .any ops Q S b ops.size (Array.replicate ops.size false) a w.drew):(Code.region id ops true).wp P Q a w:=
 wp_region_any hm (Of _ _ _ _ (h hS))
end
end
end Go.Proofs.YtncebikgoleolaaGreatDoor
