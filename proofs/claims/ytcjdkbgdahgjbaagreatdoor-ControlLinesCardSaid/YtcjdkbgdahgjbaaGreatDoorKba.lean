/- Steps of the proof: Phase. -/
import Derived.Test.YtcjdkbgdahgjbaaGreatDoorK0
import Derived.Deep.RegionHeld
set_option maxRecDepth 100000
set_option maxHeartbeats 8000000
set_option linter.all false
namespace Go.Proofs.YtcjdkbgdahgjbaaGreatDoor
open _root_.Bool renaming and_eq_true→Af
open _root_.List renaming mem_cons→Ac
open Region renaming ready→AK,wanted→BY
section
section
variable {P:Program} {ops:Array Oper} {Q:Exit→Act→World→Prop} {md:Region.Mode} {S:World→Prop} {b:Nat}
def CI(P:Program)(md:Region.Mode)(ops:Array Oper)(Q:Exit→Act→World→Prop)(S:World→Prop)(b:Nat):Nat→Array Bool→Act→World→Prop
 | 0,listed,a,w=>AK md ops listed = []∧Q .normal a w
 | fuel+1,listed,a,w=>
  (AK md ops listed = []→Q .normal a w)∧
  ∀i∈AK md ops listed,wpOp P ops Q i (fun a' w'=>if i=b then wpAnyH P md ops Q (fun _=>True) fuel (listed.setIfInBounds i true) a' w' else S w'∧CI P md ops Q S b fuel (listed.setIfInBounds i true) a' w') a w
theorem LO:∀(fuel:Nat) (listed:Array Bool) (a:Act) (w:World),CI P md ops Q S b fuel listed a w→wpAny P md ops Q fuel listed a w
 | 0,_,_,_,h=>h
 | fuel+1,_,_,_,h=>⟨h.1,fun i hi=>wpOp_mono (fun a' w' h'=>by
   by_cases hb:i=b
   ·rw [if_pos hb] at h';exact wpAny_of_held fuel _ a' w' h'
   ·rw [if_neg hb] at h';exact LO fuel _ a' w' h'.2) (h.2 i hi)⟩
def MX(md:Region.Mode)(ops:Array Oper)(b i:Nat):Bool:=match ops[b]? with
 | some o=>o.after.any fun e=>Region.binds md e&&(e.on==i)
 | none=>false
theorem F5{listed:Array Bool}{i:Nat}(hw:MX md ops b i=true)(hi:listed.getD i true=false):b∉AK md ops listed:=fun hm=>by
 obtain⟨_,o,ho,hall⟩:=mem_ready.1 hm;unfold MX at hw;rw [ho] at hw;obtain⟨e,he,hb⟩:=Array.any_eq_true'.1 hw;simp only [Af,beq_iff_eq] at hb;have h1:=hall e he hb.1;rw [hb.2] at h1;rcases Nat.lt_or_ge i listed.size with h' | h'
 ·simp [h'] at hi h1;rw [hi] at h1;cases h1
 ·simp [Array.getElem?_eq_none h'] at h1
theorem NK{i:Nat}{oi:Oper}{v:Value}(hi:ops[i]? = some oi)(hsel:∀(j:Nat) (o:Oper) cs d,ops[j]? = some o→o.op≠.select cs d)(hwt:MX md ops b i=true)
 (hQ:∀c a w,Q (.panic c) (a.put oi.dst v) w→Q (.panic c) a w):
  ∀(fuel:Nat) (listed:Array Bool) (a:Act) (w:World),
   (∀j oj,ops[j]? = some oj→j≠i→listed.getD j true=false→(∀e∈oj.after,Region.binds md e=true→e.on≠i)→oi.apart ops oj=true)→
   i∈AK md ops listed→YieldsIf P ops S oi v a→S w→
   CI P md ops Q S b fuel (listed.setIfInBounds i true) (a.put oi.dst v) w→CI P md ops Q S b (fuel+1) listed a w:=by
 intro fuel;induction fuel with
 | zero=>
  intro listed a w _ hr hy hS H;have hib:b∉AK md ops listed:=F5 hwt (mem_ready.1 hr).1;refine⟨fun h=>(by rw [h] at hr;cases hr),fun j hj=>?_⟩;have hjb:j≠b:=fun e=>hib (e▸hj);by_cases hji:j=i
  ·subst hji;exact hy.wpOp hi hS (by rw [if_neg hjb];exact⟨hS,H⟩)
  ·have:=ready_mono hj hji
   rw [H.1] at this;cases this
 | succ fuel ih=>
  intro listed a w hfree hr hy hS H;have hib:b∉AK md ops listed:=F5 hwt (mem_ready.1 hr).1;refine⟨fun h=>(by rw [h] at hr;cases hr),fun j hj=>?_⟩;have hjb:j≠b:=fun e=>hib (e▸hj);by_cases hji:j=i
  ·subst hji;exact hy.wpOp hi hS (by rw [if_neg hjb];exact⟨hS,H⟩)
  ·have h1:=H.2 j (ready_mono hj hji)
   simp only [if_neg hjb] at h1 ⊢;obtain⟨hjun,oj,hoj,hall⟩:=mem_ready.1 hj;have hnot:∀e∈oj.after,Region.binds md e=true→e.on≠i:=fun e he hb heq=>by
    have h1:=hall e he hb;have h0:=(mem_ready.1 hr).1;rw [heq] at h1;rcases Nat.lt_or_ge i listed.size with h' | h'
    ·simp [h'] at h0 h1;rw [h0] at h1;cases h1
    ·simp [Array.getElem?_eq_none h'] at h1
   have h2:=wpOp_putIf hoj (hfree j oj hoj hji hjun hnot) (fun cs d=>hsel i oi cs d hi) (fun cs d=>hsel j oj cs d hoj) hQ hy h1;have hfree':∀k ok,ops[k]? = some ok→k≠i→(listed.setIfInBounds j true).getD k true=false→
     (∀e∈ok.after,Region.binds md e=true→e.on≠i)→oi.apart ops ok=true:=fun k ok hk hki hun hno=>by
    refine hfree k ok hk hki ?_ hno;by_cases hjk:j=k
    ·subst hjk;exact hjun
    ·rw [getD_set_ne true hjk] at hun;exact hun
   refine wpOp_mono (fun a' w' h3=>⟨h3.2.1,ih (listed.setIfInBounds j true) a' w' hfree' (ready_mono hr (Ne.symm hji)) h3.1 h3.2.1 ?_⟩) h2;rw [Array.setIfInBounds_comm _ _ hji];exact h3.2.2
theorem Kh{i:Nat}{oi:Oper}{v:Value}{fuel:Nat}{listed:Array Bool}{a:Act}{w:World}(hi:ops[i]? = some oi)
 (hs:Region.noSelect ops=true)(hf:Region.free md ops listed i=true)(hr:(AK md ops listed).contains i=true)(hwt:MX md ops b i=true)
 (hQ:∀c a w,Q (.panic c) (a.put oi.dst v) w→Q (.panic c) a w)(hy:YieldsIf P ops S oi v a)(hS:S w)
 (h:CI P md ops Q S b fuel (listed.setIfInBounds i true) (a.put oi.dst v) w):CI P md ops Q S b (fuel+1) listed a w:=
 NK hi (Region.noSelect_spec hs) hwt hQ fuel listed a w (Region.free_spec hi hf) (by simpa using hr) hy hS h
def Ct(P:Program)(md:Region.Mode)(ops:Array Oper)(Q:Exit→Act→World→Prop)(S:World→Prop)(b:Nat)(fuel:Nat)(listed:Array Bool)(a:Act)(w:World)(rs:List Nat):Prop:=
 ∀i∈rs,wpOp P ops Q i (fun a' w'=>if i=b then wpAnyH P md ops Q (fun _=>True) fuel (listed.setIfInBounds i true) a' w' else S w'∧CI P md ops Q S b fuel (listed.setIfInBounds i true) a' w') a w
theorem Ct.nil{fuel:Nat}{listed:Array Bool}{a:Act}{w:World}: Ct P md ops Q S b fuel listed a w []:=fun _ h=>by cases h
theorem Ct.cons{fuel:Nat}{listed:Array Bool}{a:Act}{w:World}{i:Nat}{o:Oper}{rs:List Nat}(ho:ops[i]? = some o)(hib:(i==b)=false)
 (h:∀K':Act→World→Prop,Shut (∀a w,S w→(S w→CI P md ops Q S b fuel (listed.setIfInBounds i true) a w)→K' a w)→if BY o (yielded ops a.tmps)=true then Oper.wp P o a w K' Q else K' (a.put o.dst undef) w)
 (hs:Ct P md ops Q S b fuel listed a w rs):Ct P md ops Q S b fuel listed a w (i::rs):=fun j hj=>by
 rcases Ac.1 hj with rfl | hj
 ·have hne:j≠b:=by simpa using hib
  simp only [if_neg hne];exact wpOp_step ho (fun K' hK=>h K' (fun a w hS hW=>hK a w ⟨hS,hW hS⟩))
 ·exact hs j hj
theorem Ct.turn{fuel:Nat}{listed:Array Bool}{a:Act}{w:World}{o:Oper}{rs:List Nat}(ho:ops[b]? = some o)
 (h:∀K':Act→World→Prop,Shut (∀a w,(True→wpAnyH P md ops Q (fun _=>True) fuel (listed.setIfInBounds b true) a w)→K' a w)→if BY o (yielded ops a.tmps)=true then Oper.wp P o a w K' Q else K' (a.put o.dst undef) w)
 (hs:Ct P md ops Q S b fuel listed a w rs):Ct P md ops Q S b fuel listed a w (b::rs):=fun j hj=>by
 rcases Ac.1 hj with rfl | hj
 ·simp only [if_true]
  exact wpOp_step ho (fun K' hK=>h K' (fun a w hW=>hK a w (hW trivial)))
 ·exact hs j hj
theorem G5{rs:List Nat}{fuel:Nat}{listed:Array Bool}{a:Act}{w:World}(hr:AK md ops listed=rs)(hne:rs≠[])
 (h:Ct P md ops Q S b fuel listed a w rs):CI P md ops Q S b (fuel+1) listed a w:=⟨fun h0=>absurd (hr▸h0) hne,hr▸h⟩
theorem CD{id:Nat}{a:Act}{w:World}(hm:P.follows .mixedOrders=true)(hS:S w.drew)
 (h:S w.drew→CI P .any ops Q S b ops.size (Array.replicate ops.size false) a w.drew):(Code.region id ops true).wp P Q a w:=
 wp_region_any hm (LO _ _ _ _ (h hS))
end
end
end Go.Proofs.YtcjdkbgdahgjbaaGreatDoor
