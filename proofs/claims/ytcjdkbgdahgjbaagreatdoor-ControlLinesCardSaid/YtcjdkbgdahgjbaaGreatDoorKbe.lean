/- Steps of the proof: StB, CuB. -/
import Derived.Test.YtcjdkbgdahgjbaaGreatDoorK0
import Derived.Test.YtcjdkbgdahgjbaaGreatDoorKab
import Derived.Test.YtcjdkbgdahgjbaaGreatDoorKac
import Derived.Test.YtcjdkbgdahgjbaaGreatDoorKah
import Derived.Test.YtcjdkbgdahgjbaaGreatDoorKak
import Derived.Test.YtcjdkbgdahgjbaaGreatDoorKap
import Derived.Test.YtcjdkbgdahgjbaaGreatDoorKat
import Derived.Test.YtcjdkbgdahgjbaaGreatDoorKbc
set_option maxRecDepth 100000
set_option maxHeartbeats 8000000
set_option linter.all false
namespace Go.Proofs.YtcjdkbgdahgjbaaGreatDoor
open _root_.Array renaming getElem?_setIfInBounds→AL
open Ending renaming returned→dM
open _root_.List renaming getElem?_cons_succ→Al,length_cons→Ao
open Value renaming pointer→dJ,string→CZ
section
open Go.RowKit
def Im:Array Value→Nat→List Value→Array Value
 | cs,_,[]=>cs
 | cs,o,v::r=>Im (cs.setIfInBounds o v) (o+1) r
theorem Blk.puts{b:Nat}{t:TypeId}: ∀(vs:List Value) (o:Nat) {W:World} {cs:Array Value},Blk W b t cs→Blk (W.setCells b o vs) b t (Im cs o vs)
 | [],_,_,_,h=>h
 | v::r,o,_,_,h=>Blk.puts r (o+1) (h.set_ o v)
theorem Lx:∀(vs:List Value) (o:Nat) (cs:Array Value),(Im cs o vs).size=cs.size
 | [],_,_=>rfl
 | v::r,o,cs=>by rw [Im,Lx r];simp
theorem JF:∀(vs:List Value) (o:Nat) (cs:Array Value) (i:Nat),o+vs.length≤cs.size→(Im cs o vs)[i]? = if o≤i∧i<o+vs.length then vs[i - o]? else cs[i]?
 | [],o,cs,i,_=>by rw [Im,if_neg bA]
 | v::r,o,cs,i,h=>by
  rw [Ao] at h;rw [Im,JF r (o+1) _ i bG];by_cases h1:i=o
  ·subst h1
   rw [if_neg bB,if_pos bA];rw [AL,if_pos rfl,if_pos bB];simp
  ·by_cases h2:o+1≤i∧i<o+1+r.length
   ·rw [if_pos h2,if_pos (by rw [Ao];omega)]
    obtain⟨k,hk⟩:∃k,i - o=k+1:=⟨i - o - 1,by omega⟩;rw [hk,Al,show i - (o+1)=k by omega]
   ·rw [if_neg h2,if_neg (by rw [Ao];omega),AL,if_neg (fun e=>h1 e.symm)]
theorem Blk.putAll{W:World}{b:Nat}{t:TypeId}{cs ds:Array Value}(h:Blk W b t cs)(hs:cs.size=ds.size):Blk (W.setCells b 0 ds.toList) b t ds:=by
 have:=Blk.puts ds.toList 0 h;have he:Im cs 0 ds.toList=ds:=by
  apply Array.ext_getElem?;intro i;rw [JF _ _ _ _ bG];by_cases hi:i<ds.size
  ·rw [if_pos (by simp;exact hi)];simp
  ·rw [if_neg bG,Array.getElem?_eq_none bB,Array.getElem?_eq_none bB]
 rwa [he] at this
theorem Blk.there{w:World}{b:Nat}{t:TypeId}{cs:Array Value}(h:Blk w b t cs)(o n:Nat)(hn:o+n≤cs.size):w.there b o n:=fun j hj=>
 ⟨by rw [h.cell];simp;omega,h.frozen _⟩
theorem E5{P:Program}{op:Oper}{a:Act}{w:World}{K:Act→World→Prop}{Q:Exit→Act→World→Prop}(ty:TypeId)(x y:Operand)(ho:op.op = .store ty x y)
 (b:Nat)(cells:Array Value)(hx:a.eval x = dJ (some ⟨b,0,none⟩))(hy:a.eval y = .agg cells)(t:TypeId)(old:Array Value)(hb:Blk w b t old)(hs:old.size=cells.size)
 (hi:(P.info? ty).map (·.size)=some cells.size)(h1:cells.all (·.oneCell')=true)(h:∀W',Blk W' b t cells→Aa [b] w W'→K (a.put op.dst undef) W'):op.wp P a w K Q:=
 wp_store_mid ty x y ho b 0 cells hx hy (Blk.there hb 0 cells.size bB) hi h1 (h _ (hb.putAll hs) (AM b 0 _ w))
theorem AD{P:Program}{ops:Array Oper}{rest:List Oper}{o:Oper}{a:Act}{w:World}{Q:Exit→Act→World→Prop}(hgd:o.guard=none)(ty:TypeId)(x y:Operand)(ho:o.op = .store ty x y)
 (b:Nat)(cells:Array Value)(hx:a.eval x = dJ (some ⟨b,0,none⟩))(hy:a.eval y = .agg cells)(t:TypeId)(old:Array Value)(hb:Blk w b t old)(hs:old.size=cells.size)
 (hi:(P.info? ty).map (·.size)=some cells.size)(h1:cells.all (·.oneCell')=true)(h:∀W',Blk W' b t cells→Aa [b] w W'→wpList P ops Q rest (a.put o.dst undef) W'):wpList P ops Q (o::rest) a w:=
 wpList_store_mid hgd ty x y ho b 0 cells hx hy (Blk.there hb 0 cells.size bB) hi h1 (h _ (hb.putAll hs) (AM b 0 _ w))
theorem Hc(w:World)(b o:Nat)(x0 x1 x2 x3 x4:Value):Aa [b] w (((((w.setCell ⟨b,o,none⟩ x0).setCell ⟨b,o+1,none⟩ x1).setCell ⟨b,o+2,none⟩ x2).setCell ⟨b,o+3,none⟩ x3).setCell ⟨b,o+4,none⟩ x4):=
 ((((Ae w b o x0).trans (Ae _ b (o+1) x1)).trans (Ae _ b (o+2) x2)).trans (Ae _ b (o+3) x3)).trans (Ae _ b (o+4) x4)
end
section
open Go.RowKit Go.Shelf
attribute [local go_sem] Oper.semAt_some N5 N6 N3 N4
attribute [local go_sem ↓] Go.wp_at_zero Go.wp_at_succ
theorem XL(n K:Nat)(I:Int)(m:Nat)(h:min n K=m)(hI:I=(K:Int):=by rfl):(if I<(n:Int) then I else(n:Int))=(m:Int)∧min (n:Int) I=(m:Int)∧m≤n:=⟨by split<;>omega,by omega,by omega⟩
def Ul(s:ByteArray):ByteArray:=s.extract 0 (min s.size 310)
theorem Sj(s:ByteArray):(Ul s).size≤310:=by unfold Ul;rw [ByteArray.size_extract];omega
theorem VR(s:ByteArray)(w:World):Calls Tryz.prog 20 #[CZ s] w fun r w'=>r = dM (CZ (Ul s))∧w=w':=by
 obtain⟨m,hm⟩:∃m:Nat,min s.size 310=m:=⟨_,rfl⟩;obtain⟨h1,h3,h2⟩:=XL s.size 310 310 m hm;unfold Ul;rw [hm];go_enter Tryz.func20,Tryz.ntmps20;go_wp2_with (fail);go_ret;exact⟨rfl,rfl⟩
end
end Go.Proofs.YtcjdkbgdahgjbaaGreatDoor
