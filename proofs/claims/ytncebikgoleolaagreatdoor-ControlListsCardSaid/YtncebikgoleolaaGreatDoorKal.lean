/- Steps. -/
import Derived.Test.YtncebikgoleolaaGreatDoorKam
import Derived.WalkKit
import Derived.WalkSpells
import Derived.WalkLawsBesides
import Derived.BigQuiet
import Derived.Deep.QuietTactic
import Derived.Deep.Draws
import Derived.Laws.Rows
import Derived.Lib.Hide
import Derived.StillTailTactics
import Derived.Laws.MakeOwn
import Derived.Laws.IdiomCopy
import Derived.Deep.RegionHeld
import Derived.Laws.OwnMore
import Derived.Laws.AppendOwn
import Derived.Test.YtncebikgoleolaaGreatDoorProg
import Derived.LaidEql
import Derived.Stop.Asserts
import Derived.RowKitTokens
import Derived.LaidLaws
import Derived.Stop.LaidErr
import Derived.MapKept
import Derived.Maps.OwnIn
import Derived.WideLaws
import Derived.ScopeJumps
import Derived.WalkMore
import Derived.ProofKit
import Derived.OpenShut
import Derived.ShutString
import Derived.JoinedCond
import Derived.ChangeSame
set_option maxRecDepth 100000
set_option maxHeartbeats 8000000
set_option linter.all false
namespace Go.Proofs.YtncebikgoleolaaGreatDoor
open Tryz
open _root_.Go renaming undef→UD
open _root_.Array renaming getElem?_eq_some_iff→Ai
open _root_.Bool renaming and_eq_true→Af
open Builtin renaming append_→BI
open Ending renaming returned→pJ
open Instr renaming findNow→B0,lookup→Ed,typeAssert→Dr
open _root_.Int renaming toNat_natCast→pW
open IntKind renaming i64→pK
open _root_.List renaming all_eq_true→Bm,append_assoc→CC,cons_append→AL,eq_nil_of_length_eq_zero→Ds,flatMap_append→BY,forall_mem_cons→AF,getElem?_append_right→Ee,getElem?_cons_zero→Aj,getElem?_eq_getElem→Aq,getElem?_eq_some_iff→Ad,getElem?_take→Dh,getElem_mem→pS,length_append→Al,length_cons→Av,length_drop→B1,length_nil→D4,length_take→Ax,map_cons→CR,mem_append→AQ,mem_cons_of_mem→Ca,mem_cons→Ac,mem_flatMap→E6,mem_singleton→Ag,nil_append→BH,pairwise_append→BK,take_append_drop→Dn,take_of_length_le→Ak
open _root_.Nat renaming add_mul→qL,le_refl→Aw,le_trans→A8,lt_of_lt_of_le→BS,lt_or_ge→pP,mul_le_mul_right→Ch,zero_add→AW
open _root_.Option renaming map_eq_some_iff→Ci
open Region renaming ready→Bi
open Result renaming andThen→Bg
open Value renaming agg→pH,bool→pI,int→pE,ownBlock→EZ,pointer→pG,slice→pF,string→Dz
open World renaming block_lt_of_cell?→Be,cell?_alloc_lt→Cs,cell?_of_block→BL
section
open Go.RowKit
def Blk(w:World)(g:Nat)(t:TypeId)(cs:Array Value):Prop:=w.heap[g]? = some (.cells cs t (0,0))
section
variable {w w':World} {g:Nat} {t:TypeId} {cs:Array Value}
theorem Blk.lt(h:Blk w g t cs):g<w.heap.size:=by
 rcases pP g w with hlt | B
 ·exact hlt
 ·unfold Blk at h;rw [Array.getElem?_eq_none B] at h;cases h
theorem Blk.cell(h:Blk w g t cs)(i:Nat):w.cell? (A_ g i)=cs[i]?:=cell_of_row w g i cs t (0,0) h
theorem Blk.frozen(h:Blk w g t cs)(i:Nat):w.frozen? (A_ g i)=false:=by
 unfold Blk at h;simp [World.frozen?,h]
theorem Blk.new(w:World)(t:TypeId)(cs:Array Value):Blk (w.alloc (.cells cs t)) w t cs:=heap_alloc_new w _
theorem Blk.drew(h:Blk w g t cs):Blk w.drew g t cs:=h
theorem Blk.drewN(h:Blk w g t cs)(n:Nat):Blk (w.drewN n) g t cs:=h
theorem Blk.alloc(h:Blk w g t cs)(o:Obj):Blk (w.alloc o) g t cs:=(Below.heap_alloc w o g h.lt).trans h
theorem Blk.set_(h:Blk w g t cs)(i:Nat)(u:Value):Blk (w.setCell (A_ g i) u) g t (cs.setIfInBounds i u):=by
 unfold Blk at h ⊢;simp [World.setCell,Array.getElem?_modify,h]
theorem Blk.far(h:Blk w g t cs){p:Addr}(hp:g≠p.block)(u:Value):Blk (w.setCell p u) g t cs:=(Below.heap_setCell w p u g hp).trans h
theorem Blk.ne_{E:Nat}{F:TypeId}{D:Array Value}(h:Blk w g t cs)(B:Blk w E F D)(hne:t≠F):g≠E:=by
 rintro rfl;unfold Blk at h B;rw [h] at B;injection B with B
 injection B with _ ht
 exact hne ht
end
structure Aa(S:List Nat)(w w':World):Prop where
 os:w'.os=w.os
 tape:w'.tape=w.tape
 output:w'.output=w.output
 size:w.heap.size≤w'.heap.size
 block:∀k,k<w.heap.size→k∉S→w'.heap[k]? = w.heap[k]?
section
variable {S S':List Nat} {a w w':World}
theorem Aa.refl(S:List Nat)(w:World):Aa S w w:=⟨rfl,rfl,rfl,Aw _,fun _ _ _=>rfl⟩
theorem Aa.trans(h:Aa S a w)(k:Aa S w w'):Aa S a w':=
 ⟨k.os.trans h.os,k.tape.trans h.tape,k.output.trans h.output,A8 h.size k.size,fun i hi hn=>(k.block i (BS hi h.size) hn).trans (h.block i hi hn)⟩
theorem Aa.mono(h:Aa S w w')(hs:∀k∈S,k∈S'):Aa S' w w':=⟨h.os,h.tape,h.output,h.size,fun k hk hn=>h.block k hk (fun hm=>hn (hs k hm))⟩
theorem Aa.trans'(h:Aa S a w)(k:Aa S' w w')(hs:∀i∈S',i∈S\/a.heap.size<=i):Aa S a w':=
 ⟨k.os.trans h.os,k.tape.trans h.tape,k.output.trans h.output,A8 h.size k.size,fun i hi hn=>(k.block i (BS hi h.size) (fun hm=>by
  rcases hs i hm with h1 | h1
  ·exact hn h1
  ·omega)).trans (h.block i hi hn)⟩
theorem Aa.drew(h:Aa S a w):Aa S a w.drew:=⟨h.os,h.tape,h.output,h.size,h.block⟩
theorem Aa.drewN(h:Aa S a w)(n:Nat):Aa S a (w.drewN n):=⟨h.os,h.tape,h.output,h.size,h.block⟩
theorem Aa.alloc(h:Aa S a w)(o:Obj):Aa S a (w.alloc o):=
 h.trans ⟨rfl,rfl,rfl,by simp,fun k hk _=>Below.heap_alloc _ _ _ hk⟩
theorem Aa.setCell(h:Aa S a w){p:Addr}(hp:p.block∈S\/a.heap.size<=p.block)(u:Value):Aa S a (w.setCell p u):=
 ⟨h.os,h.tape,h.output,by simpa [World.setCell] using h.size,fun i hi hne=>(Below.heap_setCell w p u i (by
  rintro rfl;rcases hp with hp | hp
  ·exact hne hp
  ·omega)).trans (h.block i hi hne)⟩
theorem Aa.setCells{b:Nat}(hp:b∈S\/a.heap.size<=b):∀(vs:List Value) (o:Nat) {w:World},Aa S a w->Aa S a (w.setCells b o vs)
 | [],_,_,h=>h
 | v::r,o,_,h=>Aa.setCells hp r (o+1) (h.setCell (p:=A_ b o) hp v)
theorem Aa.grown{row:Option Nat}(h:Aa S a w)(hg:w.grownBy w' row)(hr:∀k,row=some k->k∈S\/a.heap.size<=k):Aa S a w':=
 ⟨hg.os.trans h.os,hg.tape.trans h.tape,hg.output.trans h.output,A8 h.size hg.size,fun k hk hn=>(hg.block k (BS hk h.size) (fun e=>by
  rcases hr k e.symm with h1 | h1
  ·exact hn h1
  ·omega)).trans (h.block k hk hn)⟩
theorem Aa.below(h:Aa S w w'){B:Nat}(hB:B<=w.heap.size)(hs:∀k∈S,B<=k):Below B w w':=
 ⟨h.os,h.tape,h.output,h.size,fun k hk=>h.block k bB (fun hm=>by have:=hs k hm;omega)⟩
theorem Aa.of_below(h:Below w w w')(S:List Nat):Aa S w w':=⟨h.os,h.tape,h.output,h.size,fun k hk _=>h.block k hk⟩
theorem Blk.keeps{g:Nat}{t:TypeId}{cs:Array Value}(h:Blk w g t cs)(hk:Aa S w w')(hg:g∉S):Blk w' g t cs:=(hk.block g h.lt hg).trans h
theorem Aa.cell(h:Aa S w w'){p:Addr}(hp:p.block<w.heap.size)(hn:p.block∉S):w'.cell? p=w.cell? p:=BL (w:=w) (h.block p.block hp hn)
theorem Aa.frozen(h:Aa S w w'){p:Addr}(hp:p.block<w.heap.size)(hn:p.block∉S):w'.frozen? p=w.frozen? p:=World.frozen?_of_block (w:=w) (h.block p.block hp hn)
end
theorem Jv{a b:Bool}(h:a=b):pJ (pI a) = pJ (pI b):=by rw [h]
theorem He{P:Program}(t e:TypeId)(i:TypeInfo)(z:Value)(J:P.underlying t=some (.slice e))(hi:P.info? e=some i)(hz:i.zero=some z)
 (E D:IntKind)(n c:Nat)(G:n<=c)(B:i.bytes*c<=281474976710656)(F:c<=9223372036854775807)(w:World):
  (Instr.makeSlice t (.int E (n:Int)) (.int D (c:Int))).run P w = .ok (pF (some (A_ w 0)) n c) (w.alloc (.cells (madeCells z.cells (c*i.size)) e)):=by
 have hb:(i.bytes:Int)*(c:Int)<=281474976710656:=by
  have h:((i.bytes*c:Nat):Int)<=281474976710656:=bB;rwa [Int.natCast_mul] at h
 have hr:=run_make (P:=P) w t e i z J hi hz E D n c bB bB hb bB;simp only [pW] at hr;exact hr
inductive Hh|k
instance:CoeDep Hh .k (Array Value):=⟨#[pF none 0 0,pF none 0 0,pF none 0 0,pF none 0 0,pF none 0 0,pE pK 0,pF none 0 0,pE pK 0,pF none 0 0,pF none 0 0]⟩
inductive OC|k
instance:CoeDep OC .k (Array Value):=⟨#[pE pK 0,pE pK 0,Dz ⟨#[]⟩,pE pK 0,pE pK 0,pF none 0 0,pF none 0 0,pE pK 0]⟩
inductive IY|k
instance:CoeDep IY .k (Array Value):=⟨#[pF none 0 0,pF none 0 0,pF none 0 0]⟩
inductive LU|k
instance:CoeDep LU .k (Array Value):=⟨#[pF none 0 0,pF none 0 0,pF none 0 0,pF none 0 0,pE pK 0]⟩
inductive fS|k
instance:CoeDep fS .k (Array Value):=⟨#[pE pK 0,pE pK 0,pE pK 0,pE pK 0,pE pK 0,pE pK 0]⟩
inductive aQ|k
instance:CoeDep aQ .k (Array Value):=⟨#[Dz ⟨#[]⟩,pE pK 0,pE pK 0,Dz ⟨#[]⟩,pE pK 0,pE pK 0,pI false,pE pK 0,pE pK 0,pE pK 0,pE pK 0,Dz ⟨#[]⟩,pE pK 0,pE pK 0,pE pK 0,pE pK 0,pE pK 0]⟩
theorem Blk.ce{w:World}{b:Nat}{t:TypeId}{cs:Array Value}(h:Blk w b t cs)(i:Nat){v:Value}(hv:cs[i]? = some v:=by ((try simp only [List.getElem?_toArray,List.getElem?_cons_zero,List.getElem?_cons_succ]);try rfl)):w.cell? (A_ b i)=some v:=(h.cell i).trans hv
theorem Lr(n:Nat):(n=n+1+1)=False:=eq_false bB
theorem Ls(n:Nat):(n=n+1+1+1)=False:=eq_false bB
theorem Lp(n:Nat):(n+1+1=n)=False:=eq_false bB
theorem Lq(n:Nat):(n+1+1+1=n)=False:=eq_false bB
section
variable {S:List Nat} {w w':World} {g:Nat} {t:TypeId} {cs:Array Value}
theorem Aa.rl(h:Aa S w w'):(∀b i,b<w.heap.size->b∉S->w'.cell? (A_ b i)=w.cell? (A_ b i))/\(∀b i,b<w.heap.size->b∉S->w'.frozen? (A_ b i)=w.frozen? (A_ b i))/\(∀b,b<w.heap.size->b<w'.heap.size):=
 ⟨fun b i hb hn=>h.cell (p:=A_ b i) hb hn,fun b i hb hn=>h.frozen (p:=A_ b i) hb hn,fun _ hb=>BS hb h.size⟩
theorem Blk.rl(h:Blk w g t cs):(∀i,w.cell? (A_ g i)=cs[i]?)/\(∀i,w.frozen? (A_ g i)=false)/\g<w.heap.size:=⟨h.cell,h.frozen,h.lt⟩
end
section
variable {P:Program} {md:Region.Mode} {ops:Array Oper} {Q:Exit->Act->World->Prop} {S:World->Prop} {S0:List Nat} {w0:World} {fuel:Nat} {listed L:Array Bool} {a A:Act} {w W:World} {oi:Oper} {v:Value}
theorem rQ(i:Nat)(h:wpAnyH P md ops Q S fuel L A w)
 (hr:(Region.ready md ops listed).contains i=true:=by decide +kernel)(hi:ops[i]? = some oi:=by(simp only [List.getElem?_toArray,List.getElem?_cons_succ,List.getElem?_cons_zero];try rfl))(hw:Region.wanted oi (yielded ops a.tmps)=true:=by rfl)
 (hs:Region.noSelect ops=true:=by kernel_rfl)(hf:Region.free md ops listed i=true:=by decide +kernel)
 (hS:S w:=by assumption)(hQ:∀c a w,Q (.panic c) (a.put oi.dst v) w->Q (.panic c) a w:=by first | exact fun _ _ _ h=>hQP.out _ _ _ _ h | exact fun _ _ _ h=>h)
 (hy:∀w',S w'->(execOp a.eval oi).run P w' = .ok (.value v) w':=by((intro w hSw;(try dsimp only at hSw);go_simp);try with_reducible rfl))
 (hL:listed.setIfInBounds i true=L:=by((try simp only [List.setIfInBounds_toArray,List.set_cons_zero,List.set_cons_succ]);try with_reducible rfl))
 (hA:a.put oi.dst v=A:=by((try simp only [Act.put,List.setIfInBounds_toArray,List.set_cons_zero,List.set_cons_succ]);try with_reducible rfl)):wpAnyH P md ops Q S (fuel+1) listed a w:=by
 subst hL hA;exact wpAnyH_take hi hs hf hr hQ (.inl ⟨hw,hy⟩) hS h
theorem rK(i:Nat)(h:wpAnyH P md ops Q (Aa S0 w0) fuel L A w)
 (hr:(Region.ready md ops listed).contains i=true:=by decide +kernel)(hi:ops[i]? = some oi:=by(simp only [List.getElem?_toArray,List.getElem?_cons_succ,List.getElem?_cons_zero];try rfl))(hw:Region.wanted oi (yielded ops a.tmps)=true:=by rfl)
 (hs:Region.noSelect ops=true:=by kernel_rfl)(hf:Region.free md ops listed i=true:=by decide +kernel)
 (hS:Aa S0 w0 w:=by assumption)(hQ:∀c a w,Q (.panic c) (a.put oi.dst v) w->Q (.panic c) a w:=by first | exact fun _ _ _ h=>hQP.out _ _ _ _ h | exact fun _ _ _ h=>h)
 (hy:∀w',((∀b i,b<w0.heap.size->b∉S0->w'.cell? (A_ b i)=w0.cell? (A_ b i))/\(∀b i,b<w0.heap.size->b∉S0->w'.frozen? (A_ b i)=w0.frozen? (A_ b i))/\(∀b,b<w0.heap.size->b<w'.heap.size))->(execOp a.eval oi).run P w' = .ok (.value v) w':=by((intro w rSw;go_simp);try with_reducible rfl))
 (hL:listed.setIfInBounds i true=L:=by((try simp only [List.setIfInBounds_toArray,List.set_cons_zero,List.set_cons_succ]);try with_reducible rfl))
 (hA:a.put oi.dst v=A:=by((try simp only [Act.put,List.setIfInBounds_toArray,List.set_cons_zero,List.set_cons_succ]);try with_reducible rfl)):wpAnyH P md ops Q (Aa S0 w0) (fuel+1) listed a w:=by
 subst hL hA;exact wpAnyH_take hi hs hf hr hQ (.inl ⟨hw,fun w' hw'=>hy w' hw'.rl⟩) hS h
theorem rN(i:Nat)(h:wpAnyH P md ops Q S fuel L A w)
 (hr:(Region.ready md ops listed).contains i=true:=by decide +kernel)(hi:ops[i]? = some oi:=by(simp only [List.getElem?_toArray,List.getElem?_cons_succ,List.getElem?_cons_zero];try rfl))(hw:Region.wanted oi (yielded ops a.tmps)=false:=by rfl)
 (hs:Region.noSelect ops=true:=by kernel_rfl)(hf:Region.free md ops listed i=true:=by decide +kernel)
 (hS:S w:=by assumption)(hQ:∀c a w,Q (.panic c) (a.put oi.dst UD) w->Q (.panic c) a w:=by first | exact fun _ _ _ h=>hQP.out _ _ _ _ h | exact fun _ _ _ h=>h)
 (hL:listed.setIfInBounds i true=L:=by((try simp only [List.setIfInBounds_toArray,List.set_cons_zero,List.set_cons_succ]);try with_reducible rfl))
 (hA:a.put oi.dst UD=A:=by((try simp only [Act.put,List.setIfInBounds_toArray,List.set_cons_zero,List.set_cons_succ]);try with_reducible rfl)):wpAnyH P md ops Q S (fuel+1) listed a w:=by
 subst hL hA;exact wpAnyH_take hi hs hf hr hQ (.inr ⟨hw,rfl⟩) hS h
theorem rC(i:Nat)(h:∀K':Act->World->Prop,Shut (∀a w,S w->(S w->wpAnyH P md ops Q S fuel L a w)->K' a w)->if Region.wanted oi (yielded ops a.tmps)=true then Oper.wp P oi a w K' Q else K' (a.put oi.dst UD) w)
 (hi:ops[i]? = some oi:=by(simp only [List.getElem?_toArray,List.getElem?_cons_succ,List.getElem?_cons_zero];try rfl))(hr:Region.ready md ops listed = [i]:=by decide +kernel)
 (hL:listed.setIfInBounds i true=L:=by((try simp only [List.setIfInBounds_toArray,List.set_cons_zero,List.set_cons_succ]);try with_reducible rfl)):wpAnyH P md ops Q S (fuel+1) listed a w:=by
 subst hL;exact wpAnyH_ready hr bA (.cons hi h .nil)
def Oj(P:Program)(md:Region.Mode)(ops:Array Oper)(Q:Exit->Act->World->Prop)(S:World->Prop)(fuel:Nat)(listed:Array Bool)(a:Act)(w:World):List Nat->Prop
 | []=>True
 | j::rs=>((Bi md ops listed).contains j=true->wpOp P ops Q j (fun a' w'=>S w'/\wpAnyH P md ops Q S fuel (listed.setIfInBounds j true) a' w') a w)/\Oj P md ops Q S fuel listed a w rs
theorem Oj.at_:∀ {C:List Nat},Oj P md ops Q S fuel listed a w C->∀j∈C,(Bi md ops listed).contains j=true->wpOp P ops Q j (fun a' w'=>S w'/\wpAnyH P md ops Q S fuel (listed.setIfInBounds j true) a' w') a w
 | [],_,_,hm,_=>by cases hm
 | _::_,h,j,hm,hr=>by
  rcases Ac.1 hm with rfl | hm
  ·exact h.1 hr
  ·exact Oj.at_ h.2 j hm hr
theorem rB(C:List Nat)(h:Oj P md ops Q S fuel listed a w C)(hC:(Region.ready md ops listed).all (fun j=>C.contains j)=true:=by decide +kernel)(hne:(Region.ready md ops listed).isEmpty=false:=by decide +kernel):wpAnyH P md ops Q S (fuel+1) listed a w:=
 wpAnyH_all rfl (fun h0=>by rw [h0] at hne;cases hne) (fun j hj=>h.at_ j (by simpa using List.all_eq_true.1 hC j hj) (by simpa using hj))
theorem rX{j:Nat}{rs:List Nat}(h:Oj P md ops Q S fuel listed a w rs)(hn:(Region.ready md ops listed).contains j=false:=by decide +kernel):Oj P md ops Q S fuel listed a w (j::rs):=
 ⟨fun h0=>(by rw [hn] at h0;cases h0),h⟩
theorem rZ:Oj P md ops Q S fuel listed a w []:=trivial
theorem rA(j:Nat){rs:List Nat}(h:∀K':Act->World->Prop,Shut (∀a w,S w->(S w->wpAnyH P md ops Q S fuel L a w)->K' a w)->if Region.wanted oi (yielded ops a.tmps)=true then Oper.wp P oi a w K' Q else K' (a.put oi.dst UD) w)
 (hs:Oj P md ops Q S fuel listed a w rs)(hi:ops[j]? = some oi:=by(simp only [List.getElem?_toArray,List.getElem?_cons_succ,List.getElem?_cons_zero];try rfl))
 (hL:listed.setIfInBounds j true=L:=by((try simp only [List.setIfInBounds_toArray,List.set_cons_zero,List.set_cons_succ]);try with_reducible rfl)):Oj P md ops Q S fuel listed a w (j::rs):=by
 subst hL;exact⟨fun _=>wpOp_step hi (fun K' hK=>h K' (fun a w hS hW=>hK a w ⟨hS,hW hS⟩)),hs⟩
theorem rO{K:Act->World->Prop}(hK:Shut (∀a w,S w->(S w->wpAnyH P md ops Q S fuel listed a w)->K a w))(hS:S w)(h:S W->wpAnyH P md ops Q S fuel listed A W)(hA:a=A:=by((try simp only [Act.put,List.setIfInBounds_toArray,List.set_cons_zero,List.set_cons_succ]);try with_reducible rfl))(hW:w=W:=by((try simp only [Act.put,List.setIfInBounds_toArray,List.set_cons_zero,List.set_cons_succ]);try with_reducible rfl)):K a w:=by
 subst hA hW;exact hK.out _ _ hS h
theorem rP{K:Act->World->Prop}(hK:Shut (∀a w,Aa S0 w0 w->(Aa S0 w0 w->wpAnyH P md ops Q (Aa S0 w0) fuel listed a w)->K a w))(hS:Aa S0 w0 w)
 (h:((∀b i,b<w0.heap.size->b∉S0->W.cell? (A_ b i)=w0.cell? (A_ b i))/\(∀b i,b<w0.heap.size->b∉S0->W.frozen? (A_ b i)=w0.frozen? (A_ b i))/\(∀b,b<w0.heap.size->b<W.heap.size))->Aa S0 w0 W->wpAnyH P md ops Q (Aa S0 w0) fuel listed A W)
 (hA:a=A:=by((try simp only [Act.put,List.setIfInBounds_toArray,List.set_cons_zero,List.set_cons_succ]);try with_reducible rfl))(hW:w=W:=by((try simp only [Act.put,List.setIfInBounds_toArray,List.set_cons_zero,List.set_cons_succ]);try with_reducible rfl)):K a w:=by
 subst hA hW;exact hK.out _ _ hS (h hS.rl)
end
section
variable {P:Program} {md:Region.Mode} {ops:Array Oper} {Q:Exit->Act->World->Prop} {S:World->Prop} {S0:List Nat} {w0:World} {b fuel:Nat} {listed L:Array Bool} {a A:Act} {w W:World} {oi:Oper} {v:Value}
theorem tQ(i:Nat)(h:D3 P md ops Q S b fuel L A w)
 (hr:(Region.ready md ops listed).contains i=true:=by decide +kernel)(hi:ops[i]? = some oi:=by(simp only [List.getElem?_toArray,List.getElem?_cons_succ,List.getElem?_cons_zero];try rfl))(hw:Region.wanted oi (yielded ops a.tmps)=true:=by rfl)
 (hs:Region.noSelect ops=true:=by kernel_rfl)(hf:Region.free md ops listed i=true:=by decide +kernel)(hb:PB md ops b i=true:=by kernel_rfl)
 (hS:S w:=by assumption)(hQ:∀c a w,Q (.panic c) (a.put oi.dst v) w->Q (.panic c) a w:=by exact fun _ _ _ h=>h)
 (hy:∀w',S w'->(execOp a.eval oi).run P w' = .ok (.value v) w':=by((intro w hSw;(try dsimp only at hSw);go_simp);try with_reducible rfl))
 (hL:listed.setIfInBounds i true=L:=by((try simp only [List.setIfInBounds_toArray,List.set_cons_zero,List.set_cons_succ]);try with_reducible rfl))
 (hA:a.put oi.dst v=A:=by((try simp only [Act.put,List.setIfInBounds_toArray,List.set_cons_zero,List.set_cons_succ]);try with_reducible rfl)):D3 P md ops Q S b (fuel+1) listed a w:=by
 subst hL hA;exact Mu hi hs hf hr hb hQ (.inl ⟨hw,hy⟩) hS h
theorem tK(i:Nat)(h:D3 P md ops Q (Aa S0 w0) b fuel L A w)
 (hr:(Region.ready md ops listed).contains i=true:=by decide +kernel)(hi:ops[i]? = some oi:=by(simp only [List.getElem?_toArray,List.getElem?_cons_succ,List.getElem?_cons_zero];try rfl))(hw:Region.wanted oi (yielded ops a.tmps)=true:=by rfl)
 (hs:Region.noSelect ops=true:=by kernel_rfl)(hf:Region.free md ops listed i=true:=by decide +kernel)(hb:PB md ops b i=true:=by kernel_rfl)
 (hS:Aa S0 w0 w:=by assumption)(hQ:∀c a w,Q (.panic c) (a.put oi.dst v) w->Q (.panic c) a w:=by exact fun _ _ _ h=>h)
 (hy:∀w',((∀b i,b<w0.heap.size->b∉S0->w'.cell? (A_ b i)=w0.cell? (A_ b i))/\(∀b i,b<w0.heap.size->b∉S0->w'.frozen? (A_ b i)=w0.frozen? (A_ b i))/\(∀b,b<w0.heap.size->b<w'.heap.size))->(execOp a.eval oi).run P w' = .ok (.value v) w':=by((intro w rSw;go_simp);try with_reducible rfl))
 (hL:listed.setIfInBounds i true=L:=by((try simp only [List.setIfInBounds_toArray,List.set_cons_zero,List.set_cons_succ]);try with_reducible rfl))
 (hA:a.put oi.dst v=A:=by((try simp only [Act.put,List.setIfInBounds_toArray,List.set_cons_zero,List.set_cons_succ]);try with_reducible rfl)):D3 P md ops Q (Aa S0 w0) b (fuel+1) listed a w:=by
 subst hL hA;exact Mu hi hs hf hr hb hQ (.inl ⟨hw,fun w' hw'=>hy w' hw'.rl⟩) hS h
theorem tC(i:Nat)(h:∀K':Act->World->Prop,Shut (∀a w,S w->(S w->D3 P md ops Q S b fuel L a w)->K' a w)->if Region.wanted oi (yielded ops a.tmps)=true then Oper.wp P oi a w K' Q else K' (a.put oi.dst UD) w)
 (hi:ops[i]? = some oi:=by(simp only [List.getElem?_toArray,List.getElem?_cons_succ,List.getElem?_cons_zero];try rfl))(hr:Region.ready md ops listed = [i]:=by decide +kernel)(hb:(i==b)=false:=by decide)
 (hL:listed.setIfInBounds i true=L:=by((try simp only [List.setIfInBounds_toArray,List.set_cons_zero,List.set_cons_succ]);try with_reducible rfl)):D3 P md ops Q S b (fuel+1) listed a w:=by
 subst hL;exact I5 hr bA (.cons hi hb h .nil)
theorem tS(h:∀K':Act->World->Prop,Shut (∀a w,(True->wpAnyH P md ops Q (fun _=>True) fuel L a w)->K' a w)->if Region.wanted oi (yielded ops a.tmps)=true then Oper.wp P oi a w K' Q else K' (a.put oi.dst UD) w)
 (hi:ops[b]? = some oi:=by(simp only [List.getElem?_toArray,List.getElem?_cons_succ,List.getElem?_cons_zero];try rfl))(hr:Region.ready md ops listed = [b]:=by decide +kernel)
 (hL:listed.setIfInBounds b true=L:=by((try simp only [List.setIfInBounds_toArray,List.set_cons_zero,List.set_cons_succ]);try with_reducible rfl)):D3 P md ops Q S b (fuel+1) listed a w:=by
 subst hL;exact I5 hr bA (.turn hi h .nil)
theorem tO{K:Act->World->Prop}(hK:Shut (∀a w,S w->(S w->D3 P md ops Q S b fuel listed a w)->K a w))(hS:S w)(h:S W->D3 P md ops Q S b fuel listed A W)(hA:a=A:=by((try simp only [Act.put,List.setIfInBounds_toArray,List.set_cons_zero,List.set_cons_succ]);try with_reducible rfl))(hW:w=W:=by((try simp only [Act.put,List.setIfInBounds_toArray,List.set_cons_zero,List.set_cons_succ]);try with_reducible rfl)):K a w:=by
 subst hA hW;exact hK.out _ _ hS h
theorem tP{K:Act->World->Prop}(hK:Shut (∀a w,Aa S0 w0 w->(Aa S0 w0 w->D3 P md ops Q (Aa S0 w0) b fuel listed a w)->K a w))(hS:Aa S0 w0 w)
 (h:((∀b i,b<w0.heap.size->b∉S0->W.cell? (A_ b i)=w0.cell? (A_ b i))/\(∀b i,b<w0.heap.size->b∉S0->W.frozen? (A_ b i)=w0.frozen? (A_ b i))/\(∀b,b<w0.heap.size->b<W.heap.size))->Aa S0 w0 W->D3 P md ops Q (Aa S0 w0) b fuel listed A W)
 (hA:a=A:=by((try simp only [Act.put,List.setIfInBounds_toArray,List.set_cons_zero,List.set_cons_succ]);try with_reducible rfl))(hW:w=W:=by((try simp only [Act.put,List.setIfInBounds_toArray,List.set_cons_zero,List.set_cons_succ]);try with_reducible rfl)):K a w:=by
 subst hA hW;exact hK.out _ _ hS (h hS.rl)
theorem tT{K:Act->World->Prop}(hK:Shut (∀a w,(True->wpAnyH P md ops Q (fun _=>True) fuel listed a w)->K a w))(h:True->wpAnyH P md ops Q (fun _=>True) fuel listed A W)
 (hA:a=A:=by((try simp only [Act.put,List.setIfInBounds_toArray,List.set_cons_zero,List.set_cons_succ]);try with_reducible rfl))(hW:w=W:=by((try simp only [Act.put,List.setIfInBounds_toArray,List.set_cons_zero,List.set_cons_succ]);try with_reducible rfl)):K a w:=by
 subst hA hW;exact hK.out _ _ h
end
structure AR{α:Type}(enc:α→List Value)(n:Nat)(w:World)(a:Option Addr)(c:Nat)(xs:List α):Prop where
 le:xs.length≤c
 nil:a=none→c=0
 at_:0<xs.length→∃g off,a=some ⟨g,off,none⟩∧g<w.heap.size∧∀i (h:i<xs.length) j u,(enc xs[i])[j]? = some u→w.cell? ⟨g,off+i*n+j,none⟩=some u
section
variable {α:Type} {enc:α->List Value} {n:Nat} {w w':World} {a:Option Addr} {c:Nat} {xs:List α}
theorem AR.keeps(h:AR enc n w a c xs)(hk:Aa [] w w'):AR enc n w' a c xs:=
 ⟨h.le,h.nil,fun h0=>by
  obtain⟨g,off,ha,hg,hc⟩:=h.at_ h0;exact⟨g,off,ha,BS hg hk.size,fun i hi j u hj=>(hk.cell (p:=A_ g (off+i*n+j)) hg bA).trans (hc i hi j u hj)⟩⟩
theorem AR.later{w0:World}{S:List Nat}(h:AR enc n w0 a c xs)(hk:Aa [] w0 w)(hS:∀y∈S,w0.heap.size<=y)(hk2:Aa S w w'):AR enc n w' a c xs:=
 h.keeps (hk.trans' hk2 (fun y hy=>.inr (hS y hy)))
theorem AR.none_:AR enc n w none 0 []:=⟨Aw _,fun _=>rfl,fun h=>by simp at h⟩
theorem AR.isNil(h:AR enc n w none c xs):xs = []/\c=0:=by
 have B:=h.nil rfl;have:=h.le;exact⟨Ds bB,B⟩
theorem AR.take(h:AR enc n w a c xs)(k:Nat):AR enc n w a c (xs.take k):=
 ⟨A8 nP h.le,h.nil,fun h0=>by
  rw [Ax] at h0;obtain⟨g,off,ha,hg,hc⟩:=h.at_ bB;refine⟨g,off,ha,hg,fun i hi j u hj=>?_⟩;rw [Ax] at hi;rw [List.getElem_take] at hj;exact hc i bB j u hj⟩
theorem KL(hn:∀x,(enc x).length=n):∀(xs:List α) (i:Nat) (h:i<xs.length) (j:Nat),j<n->(xs.flatMap enc)[i*n+j]? = (enc xs[i])[j]?
 | [],i,h,_,_=>by simp at h
 | x::l,0,_,j,hj=>by
  rw [List.flatMap_cons,Nat.zero_mul,AW,List.getElem?_append_left (by rw [hn];exact hj)];rfl
 | x::l,i+1,h,j,hj=>by
  rw [List.flatMap_cons,Ee (by rw [hn,qL];omega),hn,show(i+1)*n+j - n=i*n+j by rw [qL];omega];rw [KL hn l i bK j hj];rfl
theorem EP(hn:∀x,(enc x).length=n):∀(xs:List α),(xs.flatMap enc).length=xs.length*n
 | []=>by simp
 | x::l=>by rw [List.flatMap_cons,Al,hn,EP hn l,Av,qL];omega
theorem BR(g off j:Nat):((A_ g off):Addr).add j=(A_ g (off+j)):=by
 unfold Addr.add;split<;>simp_all
theorem AR.of_row{B:Nat}{e:TypeId}{v:Value}(hn:∀x,(enc x).length=n)(h:w.ownsRow B e n v xs.length (xs.flatMap enc)):
  ∃a c,v = pF a xs.length c/\AR enc n w a c xs/\(∀g off,a=some (A_ g off)->B<=g):=by
 rcases h.2 with⟨rfl,h0⟩ | ⟨g,c,cur,rfl,hb,hg,D,G,hs,E⟩
 ·obtain rfl:=Ds h0
  exact⟨none,0,rfl,.none_,fun _ _ e=>by cases e⟩
 ·refine⟨_,c,rfl,⟨D,(fun e=>by cases e),fun h0=>⟨g,0,rfl,Blk.lt (t:=e) (cs:=cur) hg,fun i hi j u hj=>?_⟩⟩,fun F off e=>by
   injection e with e;injection e with e1 _ _;rw [<- e1];exact hb⟩
  have hjn:j<n:=by have:=(Ad.1 hj).1;rwa [hn] at this
  rw [AW,Blk.cell (t:=e) (cs:=cur) hg];have h1:=KL hn xs i hi j hjn;have hlt:i*n+j<xs.length*n:=by
   have:(i+1)*n<=xs.length*n:=Ch n hi;rw [qL] at this;omega
  rw [hj,<- E,Dh,if_pos hlt] at h1;simpa using h1
theorem AR.flat{p:Addr}(hn:∀x,(enc x).length=n)(h:AR enc n w (some p) c xs):∀j u,(xs.flatMap enc)[j]? = some u->w.cell? (p.add j)=some u:=fun j u hj=>by
 have hjl:j<xs.length*n:=by have:=(Ad.1 hj).1;rwa [EP hn] at this
 have D:0<n:=by
  rcases Nat.eq_zero_or_pos n with h0 | h0
  ·subst h0;simp at hjl
  ·exact h0
 have E:0<xs.length:=by
  rcases Nat.eq_zero_or_pos xs.length with h0 | h0
  ·rw [h0] at hjl;simp at hjl
  ·exact h0
 obtain⟨g,off,e,_,hat⟩:=h.at_ E;injection e with e
 subst e;have hi:j / n<xs.length:=Nat.div_lt_of_lt_mul (by rw [Nat.mul_comm];exact hjl);have hjm:j % n<n:=Nat.mod_lt _ D;have B:j / n*n+j % n=j:=by rw [Nat.mul_comm];exact Nat.div_add_mod j n
 have h2:=KL hn xs (j / n) hi (j % n) hjm;rw [B,hj] at h2;have h3:=hat (j / n) hi (j % n) u h2.symm;rw [BR]
 rwa [show off+j / n*n+j % n=off+j by omega] at h3
theorem AR.app(P:Program){B:Nat}{v:Value}{ys:List α}{t e:TypeId}{E:TypeInfo}{z:Value}{D:Nat}(U:P.underlying t=some (.slice e))(hi:P.info? e=some E)(J:E.zero=some z)(M:E.size=n)(N:E.bytes=D)(O:z.cells.size=n)(h0:0<n)
 (hn:∀x,(enc x).length=n)(F:∀x,∀u∈enc x,u.oneCell'=true)
 (hv:w.ownsRow B e n v ys.length (ys.flatMap enc))(Y:B<=w.heap.size)(h:AR enc n w a c xs)(hm:ys.length+xs.length<=1000000)(G:D<=1000000)(T:TypeId):
  ∃v' w',(BI #[t,t] T #[v,pF a xs.length c]).run P w = .ok v' w'/\w'.ownsRow B e n v' (ys++xs).length ((ys++xs).flatMap enc)/\w.grownBy w' v.ownBlock:=by
 rw [Al,BY];cases a with
 | none=>
  obtain⟨rfl,rfl⟩:=h.isNil;have:=run_append_owned_none (P:=P) (w:=w) B t T e E n U hi v ys.length _ hv;exact⟨v,w,this,by simpa using hv,⟨rfl,rfl,rfl,Aw _,fun _ _ _=>rfl⟩⟩
 | some p=>
  have hb2:(ys.length+xs.length)*D<=140737488355328:=A8 (Nat.mul_le_mul hm G) bE;obtain⟨v',X,h1,h2,h3,_⟩:=run_append_own (P:=P) w B t T e E z n D U hi J M N O h0 v ys.length _ hv p xs.length c (xs.flatMap enc) (EP hn xs) (h.flat hn) (fun u hu=>by
   obtain⟨x,_,hx⟩:=E6.1 hu;exact F x u hx) bZ hb2 Y
  exact⟨v',X,h1,h2,h3⟩
end
theorem Au{P:Program}(w:World){ops:Array Oper}{rest:List Oper}{o:Oper}{a:Act}{Q:Exit->Act->World->Prop}(hgd:o.guard=none)(s x:Operand)(t:TypeId)
 (ho:o.op = .call { callee:=.builtin .append,args:=#[s,x],argTypes:=#[t,t] }){v u v':Value}{w':World}(hs:a.eval s=v)(hx:a.eval x=u)
 (hr:(BI #[t,t] o.type #[v,u]).run P w = .ok v' w')(h:wpList P ops Q rest (a.put o.dst v') w'):wpList P ops Q (o::rest) a w:=by
 refine wpList_plain hgd fun K hK=>?_;unfold Oper.wp execOp;simp only [ho,resolve,invoke,builtin,Sem.run_bind,Sem.run_pure,Result.andThen_ok,List.map_toArray,CR,List.map_nil,hs,hx,hr];exact hK _ _ h
def D1(o:Option TypeInfo)(n:Nat):Bool:=match o with
 | none=>false
 | some i=>match i.zero with
  | none=>false
  | some z=>i.size==n&&z.cells.size==n&&decide (i.bytes<=1000000)
theorem Ck{o:Option TypeInfo}{n:Nat}(h:D1 o n=true):∃i z,o=some i/\i.zero=some z/\i.size=n/\z.cells.size=n/\i.bytes<=1000000:=by
 unfold D1 at h;split at h
 ·cases h
 ·rename_i i
  split at h
  ·cases h
  ·rename_i z hz
   simp only [Af,beq_iff_eq,decide_eq_true_eq] at h;exact⟨i,z,rfl,hz,h.1.1,h.1.2,h.2⟩
section
variable {α:Type} {enc:α->List Value} {n:Nat} {w w':World}
theorem AZ{B k:Nat}{e:TypeId}{sz:Nat}{v:Value}{xs:List Value}(h:w.ownsRow B e sz v k xs):∀g∈v.ownBlock.toList,B<=g:=fun g hg=>(h.lt g (by simpa using hg)).1
theorem Aa.cellsV(h:Aa [] w w'):∀(p:Addr) (v:Value),w.cell? p=some v->w'.cell? p=some v:=fun p v hv=>(h.cell (Be w _ hv) bA).trans hv
theorem Aa.own{w0:World}{S:List Nat}(h:Aa [] w0 w)(k:Aa S w w')(hS:∀g∈S,w0.heap.size<=g):Aa [] w0 w':=h.trans' k (fun g hg=>.inr (hS g hg))
theorem AR.one(w:World)(x:α)(e:TypeId)(B:(enc x).length=n):AR enc n (w.alloc (.cells (enc x).toArray e)) (some (A_ w 0)) 1 [x]:=
 ⟨by simp,(fun h=>by cases h),fun _=>⟨w,0,rfl,by simp,fun i hi j u hj=>by
  have h0:i=0:=by simpa using hi
  subst h0;rw [(Blk.new w e (enc x).toArray).cell];simpa using hj⟩⟩
theorem CO(P:Program){B:Nat}{v:Value}{ys:List α}{t e:TypeId}(O:P.underlying t=some (.slice e))(hi:D1 (P.info? e) n=true)(h0:0<n)(hn:∀x,(enc x).length=n)(D:∀x,∀u∈enc x,u.oneCell'=true)
 (hv:w.ownsRow B e n v ys.length (ys.flatMap enc))(T:B<=w.heap.size)(x:α)(hm:ys.length+1<=1000000)(N:TypeId):
  ∃g c w',(BI #[t,t] N #[v,pF (some (A_ w 0)) 1 1]).run P (w.alloc (.cells (enc x).toArray e)) = .ok (pF (some (A_ g 0)) (ys.length+1) c) w'/\
   w'.ownsRow B e n (pF (some (A_ g 0)) (ys.length+1) c) (ys++[x]).length ((ys++[x]).flatMap enc)/\Aa v.ownBlock.toList w w'/\B<=g:=by
 obtain⟨U,z,E,F,G,J,M⟩:=Ck hi;obtain⟨v',w',h1,h2,h3⟩:=AR.app (c:=1) P O E F G rfl J h0 hn D (hv.alloc _) bG (AR.one w x e (hn x)) bT M N;rcases h2.2 with⟨_,h4⟩ | ⟨g,c,cur,rfl,hb,hg⟩
 ·simp at h4
 ·rw [show(ys++[x]).length=ys.length+1 by simp] at h1 h2 ⊢
  exact⟨g,c,w',h1,h2,((Aa.refl _ w).alloc _).grown h3 (fun k hk=>.inl iX),hb⟩
theorem AR.clone_run(P:Program){p:Addr}{c:Nat}{xs:List α}{t e:TypeId}(N:P.underlying t=some (.slice e))(hi:D1 (P.info? e) n=true)(h0:0<n)(hn:∀x,(enc x).length=n)(B:∀x,∀u∈enc x,u.oneCell'=true)
 (h:AR enc n w (some p) c xs)(hm:xs.length<=1000000)(M:TypeId):
  ∃a' c' w',(BI #[t,t] M #[pF (some (A_ w 0)) 0 0,pF (some p) xs.length c]).run P (w.alloc (.cells #[] e)) = .ok (.slice a' xs.length c') w'/\
   AR enc n w' a' c' xs/\w'.ownsRow w e n (.slice a' xs.length c') xs.length (xs.flatMap enc)/\Aa [] w w':=by
 obtain⟨O,z,D,E,F,G,J⟩:=Ck hi;have hrow:(w.alloc (.cells #[] e)).ownsRow w e n (pF (some (A_ w 0)) 0 0) ([]:List α).length (([]:List α).flatMap enc):=by
  have:=World.ownsRow_lit (base:=w.heap.size) (e:=e) (size:=n) w #[] 0 (Aw _) bZ bA;simpa using this
 have hk0:=(Aa.refl [] w).alloc (.cells #[] e);obtain⟨v',w',h1,h2,h3⟩:=AR.app (ys:=[]) P N D E F rfl G h0 hn B hrow bA (h.keeps hk0) bT J M;rw [BH] at h2;obtain⟨a',c',rfl,hs,_⟩:=AR.of_row hn h2;exact⟨a',c',w',h1,hs,h2,hk0.grown h3 (fun k hk=>by
  simp [EZ] at hk;exact .inr bB)⟩
theorem AR.row{B:Nat}{e:TypeId}{a:Option Addr}{c:Nat}{xs:List α}(hn:∀x,(enc x).length=n)(h:w.ownsRow B e n (pF a xs.length c) xs.length (xs.flatMap enc)):AR enc n w a c xs:=by
 obtain⟨D,E,e1,hs,_⟩:=AR.of_row hn h;injection e1 with e1 _ e2
 subst e1;subst e2;exact hs
theorem AR.get{a:Option Addr}{c:Nat}{xs:List α}(h:AR enc n w a c xs){k:Nat}(hk:k<xs.length):∃g off,a=some (A_ g off)/\∀j u,(enc xs[k])[j]? = some u->w.cell? (A_ g (off+k*n+j))=some u:=by
 obtain⟨g,off,B,_,D⟩:=h.at_ bB;exact⟨g,off,B,fun j u hj=>D k hk j u hj⟩
end
end
section
structure Sn where
 cur:Int
 items:List ByteArray
 used:Int
structure Po where
 l:List Sn
 next:Int
def Uf:Po:=⟨[],0⟩
def GM(b:UInt8):Bool:=decide (32<=b.toNat)&&decide (b.toNat<=126)
def Hc(s:ByteArray):Bool:=s.data.toList.all GM
def Gi(s:ByteArray):Bool:=decide (s.size<=64)&&Hc s
def Dd(l:List ByteArray):Bool:=decide (l.length<=64)&&l.all Gi
def Hk(p:Po):Bool:=decide (1<=p.next)&&decide (p.next<=1000000000000)&&decide (p.l.length<=3)
def JZ(next:Int)(met:List Int)(s:Sn):Bool:=!met.contains s.cur&&decide (1<=s.cur)&&decide (s.cur<next)
def CS(next:Int):List Int->List Sn->Bool
 | _,[]=>true
 | met,s::l=>JZ next met s&&CS next (met++[s.cur]) l
def Hy(last:Int)(s:Sn):Bool:=decide (last<=s.used)&&decide (s.used<=1000000000000)
def BV:Int->List Sn->Bool
 | _,[]=>true
 | last,s::l=>Hy last s&&BV s.used l
def Fx(l:List Sn):Bool:=l.all fun s=>Dd s.items
def Ej(p:Po):Bool:=Hk p&&CS p.next [] p.l&&BV 0 p.l&&Fx p.l
def EQ(l:List Sn):Int:=(l.getLast?.map (·.used)).getD 0
def Db(p:Po)(now:Int):Bool:=Ej p&&decide (EQ p.l<=now)&&decide (now<=1000000000000)
def Fs(now:Int)(s:Sn):Bool:=decide (now - s.used<1000)
def JO(l:List Sn)(now:Int):List Sn:=if(l.filter (Fs now)).length=3 then(l.filter (Fs now)).drop 1 else l.filter (Fs now)
def IV(p:Po)(items:List ByteArray)(now:Int):Po×Int×Int:=
 if Db p now&&Dd items&&decide (p.next<1000000000000) then(⟨JO p.l now++[⟨p.next,items,now⟩],p.next+1⟩,p.next,0) else(Uf,0,160)
def Ga(cursor from_ now:Int)(s:Sn):Bool:=s.cur==cursor&&Fs now s&&decide (0<=from_)&&decide (from_<=s.items.length)
def CN(f:Sn->Bool):List Sn->Option Nat
 | []=>none
 | s::l=>if f s then some 0 else(CN f l).map (· + 1)
theorem Nc{f:Sn->Bool}: ∀ {l:List Sn} {i:Nat},CN f l=some i->∃h:i<l.length,f l[i]=true
 | [],i,h=>by cases h
 | s::l,i,h=>by
  unfold CN at h;split at h
  ·rename_i hf
   cases h;exact⟨by simp,hf⟩
  ·cases hf:CN f l with
   | none=>rw [hf] at h;cases h
   | some j=>
    rw [hf] at h;cases h;obtain⟨h1,h2⟩:=Nc hf;exact⟨by simp;omega,by simpa using h2⟩
def IL(m:Nat)(from_ n:Int):Int:=if from_+n<m then from_+n else m
def qO(p:Po)(cursor from_ n now:Int):Po×List ByteArray×Int×Int:=
 if Db p now then
  if n<1\/10<n then(Uf,[],0,2)
  else match CN (Ga cursor from_ now) p.l with
   | none=>(Uf,[],0,161)
   | some i=>match p.l[i]? with
    | none=>(Uf,[],0,161)
    | some s=>(⟨p.l.eraseIdx i++[{ s with used:=now }],p.next⟩,(s.items.drop from_.toNat).take (IL s.items.length from_ n - from_).toNat,
      if IL s.items.length from_ n=s.items.length then -1 else IL s.items.length from_ n,0)
 else(Uf,[],0,160)
theorem Ik{p:Po}{now:Int}(h:Db p now=true):p.l.length<=3/\1<=p.next/\p.next<=1000000000000/\now<=1000000000000/\EQ p.l<=now:=by
 simp only [Db,Ej,Hk,Af,decide_eq_true_eq] at h;omega
end
section
open Go.RowKit Go.Extern.Stop Go.Stop Go.Extern
def Et(w:World):Prop:=w.cell? ⟨0,0,none⟩=some (.iface 286 (pH #[pG (some ⟨17,116,none⟩)]))
theorem Et.keeps{S:List Nat}{w w':World}(h:Et w)(hk:Aa S w w')(hn:0∉S):Et w':=(hk.cell (p:=A_ 0 0) (Be w _ h) hn).trans h
theorem PQ(t:Value)(w:World):
  Calls prog 77 #[.nilIface,t] w fun e w'=>e = pJ (pI false)/\w=w':=by
 go_enter func77,ntmps77;go_wp2;go_ret;exact⟨rfl,rfl⟩
theorem oX(z:Sem Value)(f:TypeId->Addr->Nat->Nat->Sem Value)(v:Value):
  ReflectliteValue.method z f #[v]=(do match <- ReflectliteValue.parts v with | none=>z | some (t,a,fl)=>f t a fl (fl % 32)):=rfl
theorem pC(v x:Value):ReflectliteValue.set #[v,x]=(do
  let(some (dst,a,fl),some (src,b,_)):=(<- ReflectliteValue.parts v,<- ReflectliteValue.parts x)
   | unsupported (.noEntry "extern/(internal/reflectlite.Value).Set.zeroValue")
  if fl / ReflectliteValue.flagAddr % 2==0 then unsupported (.noEntry "extern/(internal/reflectlite.Value).Set.unaddressable")
  let val <- loadVar src b
  if <- Rtype.directlyAssignable dst src then storeVar dst a val
  else if <- Rtype.implements dst src then
   if(<- Rtype.kind src)==20 then
    match val with
    | .nilIface=>unsupported (.noEntry "extern/reflectlite: a nil value of one interface type handed on as a value of another")
    | _=>storeVar dst a val
   else storeVar dst a (.iface src val)
  else panicString ("reflectlite.Set: value of type " ++ (<- Rtype.spelt src) ++ " is not assignable to type " ++ (<- Rtype.spelt dst))
  pure (.tuple #[])):=rfl
def M2(s p:Nat):Prop:=(s=182/\p=184)\/(s=123/\p=186)\/(s=200/\p=201)\/(s=342/\p=345)
theorem Ry{sT pT:Nat}(T:M2 sT pT)(t:Addr)(w:World):(ReflectliteValue.unpack (.iface pT (pG (some t)))).run prog w
  = .ok (pH #[pG (some (A_ 17 pT)),p_ w 0,.int .u64 150]) (w.alloc (.cells #[pG (some t)] pT)):=by rcases id T with⟨rfl,rfl⟩ | ⟨rfl,rfl⟩ | ⟨rfl,rfl⟩ | ⟨rfl,rfl⟩<;>kernel_rfl
theorem Yz{sT pT:Nat}(T:M2 sT pT)(a:Addr)(w:World):(ReflectliteValue.methodAny (ReflectliteValue.valueError "reflectlite.Value.Type" 0) (fun t _ _ _=>ReflectliteType.toType t) #[pH #[pG (some (A_ 17 pT)),pG (some a),.int .u64 150]]).run prog w
  = .ok (.iface 286 (pH #[pG (some (A_ 17 pT))])) w:=by rcases id T with⟨rfl,rfl⟩ | ⟨rfl,rfl⟩ | ⟨rfl,rfl⟩ | ⟨rfl,rfl⟩<;>kernel_rfl
theorem Oy(h:Value)(w:World):(Go.method 657 286 (pH #[h]) "Kind").run prog w = .ok (348,h) w:=bC
theorem Yw{sT pT:Nat}(T:M2 sT pT)(w:World):((ReflectliteType.abiMethod fun t=>(fun a:Nat=>pE IntKind.u8 (a:Int)) <$> Rtype.kind t) #[pG (some (A_ 17 pT))]).run prog w = .ok (.int .u8 22) w:=by rcases id T with⟨rfl,rfl⟩ | ⟨rfl,rfl⟩ | ⟨rfl,rfl⟩ | ⟨rfl,rfl⟩<;>kernel_rfl
theorem Yx{sT pT:Nat}(T:M2 sT pT)(w:World):((ReflectliteType.abiMethod fun t=>(fun a:Nat=>pE IntKind.u8 (a:Int)) <$> Rtype.kind t) #[pG (some (A_ 17 sT))]).run prog w = .ok (.int .u8 25) w:=by rcases id T with⟨rfl,rfl⟩ | ⟨rfl,rfl⟩ | ⟨rfl,rfl⟩ | ⟨rfl,rfl⟩<;>kernel_rfl
theorem OU{sT pT:Nat}(T:M2 sT pT)(a:Addr)(w:World):(ReflectliteValue.parts (pH #[pG (some (A_ 17 pT)),pG (some a),.int .u64 150])).run prog w = .ok (some (pT,a,150)) w:=by rcases id T with⟨rfl,rfl⟩ | ⟨rfl,rfl⟩ | ⟨rfl,rfl⟩ | ⟨rfl,rfl⟩<;>kernel_rfl
theorem VX{sT pT:Nat}(T:M2 sT pT)(a p:Addr)(W:World)(ha:W.cell? a=some (pG (some p))):
  (ReflectliteValue.method (ReflectliteValue.valueError "reflectlite.Value.IsNil" 0) ReflectliteValue.isNil #[pH #[pG (some (A_ 17 pT)),pG (some a),.int .u64 150]]).run prog W = .ok (pI false) W:=by
 rcases id T with⟨rfl,rfl⟩ | ⟨rfl,rfl⟩ | ⟨rfl,rfl⟩ | ⟨rfl,rfl⟩
 all_goals
  rw [oX];simp only [Sem.run_bind,OU T,Bg];simp [ReflectliteValue.isNil,loadVar,isAgg,underlying,underlying184,underlying186,underlying201,underlying345,ha,Bg]
theorem Ox(h:Value)(w:World):(Go.method 657 286 (pH #[h]) "Elem").run prog w = .ok (360,pH #[h]) w:=bC
theorem JN(h:Value)(w:World):(Go.method 657 286 (pH #[h]) "Implements").run prog w = .ok (361,pH #[h]) w:=bC
theorem IT(h:Value)(w:World):(Go.method 657 286 (pH #[h]) "AssignableTo").run prog w = .ok (358,pH #[h]) w:=bC
theorem Yv{sT pT:Nat}(T:M2 sT pT)(w:World):(ReflectliteType.method ReflectliteType.elem #[pH #[pG (some (A_ 17 pT))]]).run prog w = .ok (.iface 286 (pH #[pG (some (A_ 17 sT))])) w:=by rcases id T with⟨rfl,rfl⟩ | ⟨rfl,rfl⟩ | ⟨rfl,rfl⟩ | ⟨rfl,rfl⟩<;>kernel_rfl
theorem Na{sT pT:Nat}(T:M2 sT pT)(w:World):(ReflectliteType.relation "Implements" ReflectliteType.implements_ #[pH #[pG (some (A_ 17 sT))],.iface 286 (pH #[pG (some (A_ 17 116))])]).run prog w = .ok (pI true) w:=by rcases id T with⟨rfl,rfl⟩ | ⟨rfl,rfl⟩ | ⟨rfl,rfl⟩ | ⟨rfl,rfl⟩<;>kernel_rfl
theorem T3{sT pT:Nat}(T:M2 sT pT)(v:Value)(w:World):(ReflectliteType.typeOf #[.iface sT v]).run prog w = .ok (.iface 286 (pH #[pG (some (A_ 17 sT))])) w:=by rcases id T with⟨rfl,rfl⟩ | ⟨rfl,rfl⟩ | ⟨rfl,rfl⟩ | ⟨rfl,rfl⟩<;>kernel_rfl
theorem MZ{sT pT:Nat}(T:M2 sT pT)(w:World):(ReflectliteType.relation "AssignableTo" ReflectliteType.assignableTo #[pH #[pG (some (A_ 17 sT))],.iface 286 (pH #[pG (some (A_ 17 sT))])]).run prog w = .ok (pI true) w:=by rcases id T with⟨rfl,rfl⟩ | ⟨rfl,rfl⟩ | ⟨rfl,rfl⟩ | ⟨rfl,rfl⟩<;>kernel_rfl
theorem Rz{sT pT:Nat}(T:M2 sT pT)(n:Int)(w:World):(ReflectliteValue.unpack (.iface sT (pH #[pE pK n]))).run prog w
  = .ok (pH #[pG (some (A_ 17 sT)),p_ w 0,.int .u64 153]) (w.alloc (.cells #[pE pK n] sT)):=by rcases id T with⟨rfl,rfl⟩ | ⟨rfl,rfl⟩ | ⟨rfl,rfl⟩ | ⟨rfl,rfl⟩<;>kernel_rfl
theorem T1{sT pT:Nat}(T:M2 sT pT)(w:World):(Rtype.elem? pT).run prog w = .ok (some sT) w:=by rcases id T with⟨rfl,rfl⟩ | ⟨rfl,rfl⟩ | ⟨rfl,rfl⟩ | ⟨rfl,rfl⟩<;>kernel_rfl
theorem gO{sT pT:Nat}(T:M2 sT pT)(p:Addr)(w:World):(ReflectliteValue.mk sT p ReflectliteValue.flagAddr).run prog w = .ok (pH #[pG (some (A_ 17 sT)),pG (some p),.int .u64 409]) w:=by rcases id T with⟨rfl,rfl⟩ | ⟨rfl,rfl⟩ | ⟨rfl,rfl⟩ | ⟨rfl,rfl⟩<;>kernel_rfl
theorem VW{sT pT:Nat}(T:M2 sT pT)(a p:Addr)(W:World)(ha:W.cell? a=some (pG (some p))):
  (ReflectliteValue.method (ReflectliteValue.valueError "reflectlite.Value.Elem" 0) ReflectliteValue.elem #[pH #[pG (some (A_ 17 pT)),pG (some a),.int .u64 150]]).run prog W
   = .ok (pH #[pG (some (A_ 17 sT)),pG (some p),.int .u64 409]) W:=by
 rcases id T with⟨rfl,rfl⟩ | ⟨rfl,rfl⟩ | ⟨rfl,rfl⟩ | ⟨rfl,rfl⟩
 all_goals
  rw [oX];simp only [Sem.run_bind,OU T,Bg];simp [ReflectliteValue.elem,loadVar,isAgg,underlying,underlying184,underlying186,underlying201,underlying345,ha,Bg,T1 T,gO T]
theorem T2{sT pT:Nat}(T:M2 sT pT)(a:Addr)(w:World):(ReflectliteValue.parts (pH #[pG (some (A_ 17 sT)),pG (some a),.int .u64 409])).run prog w = .ok (some (sT,a,409)) w:=by rcases id T with⟨rfl,rfl⟩ | ⟨rfl,rfl⟩ | ⟨rfl,rfl⟩ | ⟨rfl,rfl⟩<;>kernel_rfl
theorem VY{sT pT:Nat}(T:M2 sT pT)(a:Addr)(w:World):(ReflectliteValue.parts (pH #[pG (some (A_ 17 sT)),pG (some a),.int .u64 153])).run prog w = .ok (some (sT,a,153)) w:=by rcases id T with⟨rfl,rfl⟩ | ⟨rfl,rfl⟩ | ⟨rfl,rfl⟩ | ⟨rfl,rfl⟩<;>kernel_rfl
theorem T0{sT pT:Nat}(T:M2 sT pT)(w:World):(Rtype.directlyAssignable sT sT).run prog w = .ok true w:=by rcases id T with⟨rfl,rfl⟩ | ⟨rfl,rfl⟩ | ⟨rfl,rfl⟩ | ⟨rfl,rfl⟩<;>kernel_rfl
theorem Yy{sT pT:Nat}(T:M2 sT pT)(b:Nat)(n:Int)(W:World)(hb:W.cell? (A_ b 0)=some (I_ n)):(loadVar sT (A_ b 0)).run prog W = .ok (pH #[pE pK n]) W:=by
 rcases id T with⟨rfl,rfl⟩ | ⟨rfl,rfl⟩ | ⟨rfl,rfl⟩ | ⟨rfl,rfl⟩
 all_goals
  simp [loadVar,isAgg,underlying,underlying182,underlying123,underlying200,underlying342,Bg];have B:=run_loadCells_list (P:=prog) (w:=W) (A_ b 0) [pE pK n] (fun j v hj=>by
   match j,hj with
   | 0,hj=>cases hj;simpa [Addr.add] using hb)
  simp only [Av,D4,AW] at B;simp [B]
theorem cK{sT pT:Nat}(T:M2 sT pT)(ta:Addr)(b:Nat)(n:Int)(B:Value)(W:World)(hb:W.cell? (A_ b 0)=some (I_ n))(D:W.cell? ta=some B)(hf:W.frozen? ta=false):
  (ReflectliteValue.set #[pH #[pG (some (A_ 17 sT)),pG (some ta),.int .u64 409],pH #[pG (some (A_ 17 sT)),p_ b 0,.int .u64 153]]).run prog W
   = .ok (.tuple #[]) (W.setCell ta (I_ n)):=by
 rcases id T with⟨rfl,rfl⟩ | ⟨rfl,rfl⟩ | ⟨rfl,rfl⟩ | ⟨rfl,rfl⟩
 all_goals
  rw [pC];simp only [Sem.run_bind,T2 T,VY T,Bg];simp [ReflectliteValue.flagAddr,Yy T _ _ W hb,Bg,T0 T,storeVar,Value.cells,storeCells,Addr.add];rw [run_store prog W ta _ _ bD];simp [D,hf]
theorem PP{sT pT:Nat}(T:M2 sT pT)(n:Int)(t:Addr)(old:Value)(w:World)(hg:Et w)(ht0:w.cell? t=some old)(hf0:w.frozen? t=false):
  Calls prog 77 #[.iface sT (pH #[pE pK n]),.iface pT (pG (some t))] w fun ev w'=>ev = pJ (pI true)/\w'=((((w.alloc (.cells #[pG (some t)] pT)).alloc (.cells #[pG (some (A_ 17 pT)),p_ w 0,.int .u64 150] 228)).alloc (.cells #[pG (some (A_ 17 pT)),p_ w 0,.int .u64 150] 228)).alloc (.cells #[pE pK n] sT)).setCell t (I_ n):=by
 unfold Et at hg;have h6:=@run_callFunc_extern prog 113 _ (fun args=>ReflectliteValue.unpack (args.getD 0 (.tuple #[]))) func113 bC bC bC bC;have h7:=@run_callFunc_extern prog 114 _ (ReflectliteValue.methodAny (ReflectliteValue.valueError "reflectlite.Value.Type" 0) (fun t _ _ _=>ReflectliteType.toType t)) func114 bC bC bC bC;have h8:=@run_callFunc_extern prog 115 _ (ReflectliteValue.method (ReflectliteValue.valueError "reflectlite.Value.IsNil" 0) ReflectliteValue.isNil) func115 bC bC bC bC;have h27:=@run_callFunc_extern prog 348 _ (ReflectliteType.abiMethod fun t=>do pure (.int .u8 (<- Rtype.kind t))) func348 bC bC bC bC;have h37:=@run_callFunc_extern prog 360 _ (ReflectliteType.method ReflectliteType.elem) func360 bC bC bC bC;have h38:=@run_callFunc_extern prog 361 _ (ReflectliteType.relation "Implements" ReflectliteType.implements_) func361 bC bC bC bC;have h10:=@run_callFunc_extern prog 153 _ ReflectliteType.typeOf func153 bC bC bC bC;have h35:=@run_callFunc_extern prog 358 _ (ReflectliteType.relation "AssignableTo" ReflectliteType.assignableTo) func358 bC bC bC bC;have h11:=@run_callFunc_extern prog 154 _ (ReflectliteValue.method (ReflectliteValue.valueError "reflectlite.Value.Elem" 0) ReflectliteValue.elem) func154 bC bC bC bC;have h12:=@run_callFunc_extern prog 155 _ ReflectliteValue.set func155 bC bC bC bC;have tO:=T3 T;have mA:=IT;have a25:=MZ T;have v25:=Rz T;have f6:=Ry T;have f7:=Yz T;have mK:=Oy;have mE:=Ox;have mI:=JN;have k27:=Yw T;have k25:=Yx T;have e27:=Yv T;have i25:=Na T;have n8:=VX T (A_ w 0) t ((w.alloc (.cells #[pG (some t)] pT)).alloc (.cells #[pG (some (A_ 17 pT)),p_ w 0,.int .u64 150] 228)) bA;have hlt:0<w.heap.size:=Be w _ hg;have hg2:((w.alloc (.cells #[pG (some t)] pT)).alloc (.cells #[pG (some (A_ 17 pT)),p_ w 0,.int .u64 150] 228)).cell? (A_ 0 0)=some (.iface 286 (pH #[pG (some (A_ 17 116))])):=by
  rw [Cs _ _ (A_ 0 0) (by simp<;>omega),Cs _ _ (A_ 0 0) hlt];exact hg
 have htl:t.block<w.heap.size:=Be w _ ht0;have el:=VW T (A_ w 0) t (((w.alloc (.cells #[pG (some t)] pT)).alloc (.cells #[pG (some (A_ 17 pT)),p_ w 0,.int .u64 150] 228)).alloc (.cells #[pG (some (A_ 17 pT)),p_ w 0,.int .u64 150] 228)) (by rw [Cs _ _ (A_ w 0) bG];simp);have st:=cK T t (w+1+1+1) n old ((((w.alloc (.cells #[pG (some t)] pT)).alloc (.cells #[pG (some (A_ 17 pT)),p_ w 0,.int .u64 150] 228)).alloc (.cells #[pG (some (A_ 17 pT)),p_ w 0,.int .u64 150] 228)).alloc (.cells #[pE pK n] sT))
  (by rw [World.cell?_alloc_at _ _ _ _ bA];rfl)
  (by rw [Cs _ _ t bG,Cs _ _ t bG,Cs _ _ t bG,Cs _ _ t htl];exact ht0)
  (by rw [World.frozen?_alloc_old _ _ t bG,World.frozen?_alloc_old _ _ t bG,World.frozen?_alloc_old _ _ t bG,World.frozen?_alloc_old _ _ t (Nat.ne_of_lt htl)];exact hf0)
 go_enter func77,ntmps77;go_wp2;refine wp_loop_rounds 1 ?_;rw [rounds_succ];go_wp2;go_ret;exact⟨rfl,rfl⟩
end
section
namespace ErO
open Go.RowKit Go.Extern.Stop Go.Stop Go.Extern
theorem told_nil(w:World):Calls prog 34 #[.nilIface] w fun e w'=>e = pJ (I_ 0)/\Aa [] w w':=by
 go_enter func34,ntmps34;go_wp2_with (go_at_call 77;refine(PQ _ _).mono ?_;rintro e w' ⟨rfl,rfl⟩);go_ret;exact⟨rfl,(Aa.refl [] w).alloc _⟩
theorem told_why(n:Int)(w:World)(hg:Et w):Calls prog 34 #[.iface 182 (pH #[pE pK n])] w fun e w'=>e = pJ (I_ n)/\Aa [] w w':=by
 have hE:Et (w.alloc (.cells #[pE pK 0] 182)):=hg.keeps ((Aa.refl [] w).alloc _) bA;have hb:=Blk.new w 182 #[pE pK 0];have HE:=lH hE;have HB:=lH hb;clear hE hb hg;go_enter func34,ntmps34;go_wp2_with fail;refine(PP (sT:=182) (pT:=184) (by simp [M2]) n (A_ w 0) _ _ HE.o (HB.o.cell 0) (HB.o.frozen 0)).mono ?_;rintro e w' ⟨rfl,hw⟩;have B:w'.cell? (A_ w 0)=some (I_ n):=by
  rw [hw];exact((((HB.o.alloc _).alloc _).alloc _).alloc _ |>.set_ 0 (I_ n)).cell 0
 have hk:Aa [] w w':=by
  rw [hw];exact((((((Aa.refl [] w).alloc _).alloc _).alloc _).alloc _).alloc _).setCell (p:=A_ w 0) (.inr (Aw _)) _
 have HK:=lH hk;clear hw hk;go_wp2;go_ret;exact⟨rfl,HK.o⟩
end ErO
end
section
open Go.RowKit Go.ChangeShapes
structure Ge(w:World)(tp:TypeId)(gs:List Nat)(e:Nat→Addr):Prop where
 cell:∀g∈gs,w.cell? ⟨g,0,none⟩=some (.iface tp (pG (some (e g))))
 row:∀g∈gs,∃c t,w.heap[(e g).block]? = some (.cells c t (0,0))
 ne:∀g∈gs,∀g'∈gs,g≠g'→e g≠e g'
theorem Ge.keeps{w w':World}{tp:TypeId}{gs:List Nat}{e:Nat->Addr}{S:List Nat}(h:Ge w tp gs e)(hk:Aa S w w')(hS:∀g∈gs,g∉S/\(e g).block∉S):Ge w' tp gs e:=
 ⟨fun g hg=>(hk.cell (p:=A_ g 0) (Be w _ (h.cell g hg)) (hS g hg).1).trans (h.cell g hg),fun g hg=>by
  obtain⟨c,t,hb⟩:=h.row g hg;exact⟨c,t,(hk.block _ ((Ai.1 hb).1) (hS g hg).2).trans hb⟩,h.ne⟩
theorem Ge.keep{w w':World}{tp:TypeId}{gs:List Nat}{e:Nat->Addr}(h:Ge w tp gs e)(hk:Aa [] w w'):Ge w' tp gs e:=h.keeps hk (fun _ _=>⟨by simp,by simp⟩)
end
section
open Go.RowKit Go.Extern.Stop Go.Stop Go.Extern Go.Extern.ReflectliteType
theorem Pb(v:Value)(w:World):(Extern.ReflectliteType.typeOf #[.iface 438 v]).run prog w = .ok (.iface 286 (pH #[pG (some (A_ 17 438))])) w:=bC
noncomputable def gK:Array Value->Sem Value:=Extern.ReflectliteType.method fun t=>do Extern.Rtype.noPackHeld "Comparable" t;pure (pI (<- typeInfo t).comparable)
theorem JR(w:World):(gK #[pH #[pG (some (A_ 17 438))]]).run prog w = .ok (pI true) w:=bC
theorem Gg(v:Value)(w:World):(Go.method 657 286 v "Comparable").run prog w = .ok (359,v) w:=bC
theorem UP:(prog.info? 438).map (·.comparable)=some true:=bC
theorem UQ:(prog.info? 440).map (·.size)=some 1:=bC
theorem cQ(v:Value)(xT:TypeId)(w:World):(Dr (.iface 438 v) xT 410 true).run prog w = .ok (.tuple #[.nilIface,pI false]) w:=run_typeAssert_lacksB underlying410 bC bC v xT w
theorem RP(v:Value)(xT:TypeId)(w:World):(Dr (.iface 438 v) xT 294 true).run prog w = .ok (.tuple #[.nilIface,pI false]) w:=run_typeAssert_lacksB underlying294 bC bC v xT w
theorem Qx(v:Value)(xT:TypeId)(w:World):(Dr (.iface 438 v) xT 295 true).run prog w = .ok (.tuple #[.nilIface,pI false]) w:=run_typeAssert_lacksB underlying295 bC bC v xT w
theorem cR(a:Addr)(w:World):
  Calls prog 217 #[.iface 438 (pG (some a)),.iface 438 (pG (some a))] w fun e w'=>e = pJ (pI true)/\w=w':=by
 obtain⟨i,hi,B⟩:=Ci.1 UP;obtain⟨j,hj,hjs⟩:=Ci.1 UQ;have h8:=@run_callFunc_extern prog 153 _ Extern.ReflectliteType.typeOf func153 bC bC bC bC;have D:=@run_callFunc_extern prog 359 _ gK func359 bC bC bC bC;have tT:=Pb;have F:=JR;have G:=Gg;have E:=run_eql_iface_ptr_same (P:=prog) w a underlying116 underlying438 hi B hj;go_enter func217,ntmps217;go_wp2;refine wp_loop_rounds 1 ?_;rw [rounds_succ];go_wp2;go_ret;exact⟨rfl,rfl⟩
theorem gV(b:Addr)(w:World):
  Calls prog 217 #[.nilIface,.iface 438 (pG (some b))] w fun e w'=>e = pJ (pI false)/\w=w':=by
 have hn:=run_eql_iface_nil_left (P:=prog) w 438 (pG (some b)) underlying116;go_enter func217,ntmps217;go_wp2;go_ret;exact⟨rfl,rfl⟩
theorem Y9(a b:Addr)(D cb:Array Value)(J M:TypeId)(w:World)(hne:a≠b)(F:w.heap[a.block]? = some (.cells D J (0,0)))(hb:w.heap[b.block]? = some (.cells cb M (0,0))):
  Calls prog 217 #[.iface 438 (pG (some a)),.iface 438 (pG (some b))] w fun e w'=>e = pJ (pI false)/\w=w':=by
 obtain⟨i,hi,B⟩:=Ci.1 UP;obtain⟨j,hj,hjs⟩:=Ci.1 UQ;have h8:=@run_callFunc_extern prog 153 _ Extern.ReflectliteType.typeOf func153 bC bC bC bC;have E:=@run_callFunc_extern prog 359 _ gK func359 bC bC bC bC;have tT:=Pb;have N:=JR;have O:=Gg;have T:=cQ;have U:=RP;have X:=Qx;have G:=run_eql_iface_ptr_other (P:=prog) w underlying116 underlying438 hi B hj (by rw [hjs];decide) hne F hb;go_enter func217,ntmps217;go_wp2;refine wp_loop_rounds 1 ?_;rw [rounds_succ];go_wp2;go_ret;exact⟨rfl,rfl⟩
def Jj(e:Nat->Addr):Option Nat->Value
 | none=>.nilIface
 | some g=>.iface 438 (pG (some (e g)))
theorem DM{w:World}{B:List Nat}{e:Nat->Addr}(h:Ge w 438 B e)(x:Option Nat)(g:Nat)(hx:∀y,x=some y->y∈B)(hg:g∈B)(b:Bool)(hb:(x==some g)=b):
  Calls prog 217 #[Jj e x,.iface 438 (pG (some (e g)))] w fun r w'=>r = pJ (pI b)/\w=w':=by
 subst hb;cases x with
 | none=>exact gV _ w
 | some y=>
  by_cases hy:y=g
  ·subst hy
   have:(some y==some y)=true:=bA;rw [this];exact cR _ w
  ·have:(some y==some g)=false:=by simp [hy]
   rw [this];obtain⟨D,F,h1⟩:=h.row y (hx y rfl);obtain⟨E,G,h2⟩:=h.row g hg;exact Y9 _ _ _ _ _ _ w (h.ne y (hx y rfl) g hg hy) h1 h2
end
section
open Go.RowKit Go.MapKept
section
variable {P:Program} {w:World} {t k e:TypeId} {d:TypeDesc} {b clock:Nat} {es:Array MapEntry} {key val z v:Value}
theorem DD(hm:P.underlying t=some (.map k e))(B:P.underlying k=some d)(hb:w.heap[b]? = some (.map es clock))(hk:IsKey d key){i:Nat}(hf:B0 d key es.toList 0=some (some (i,v))):
  (Ed t (.map (some b)) key true).run P w = .ok (.tuple #[v,pI true]) w/\(Ed t (.map (some b)) key false).run P w = .ok v w:=by
 have h1:(Instr.checkKey es.isEmpty 10000 k key).run P w = .ok () w:=run_checkKey B hk es.isEmpty 9999;have h2:=run_findKey (P:=P) (w:=w) B hf;have h3:(getObj b).run P w = .ok (.map es clock) w:=MapKept.run_getObj_map hb;constructor<;>simp [Ed,run_underlying hm,h3,h1,h2,Bg]
theorem EW(hm:P.underlying t=some (.map k e))(B:P.underlying k=some d)(hb:w.heap[b]? = some (.map es clock))(hk:IsKey d key)(hf:B0 d key es.toList 0=some none)(hz:(zeroValue e).run P w = .ok z w):
  (Ed t (.map (some b)) key true).run P w = .ok (.tuple #[z,pI false]) w/\(Ed t (.map (some b)) key false).run P w = .ok z w:=by
 have h1:(Instr.checkKey es.isEmpty 10000 k key).run P w = .ok () w:=run_checkKey B hk es.isEmpty 9999;have h2:=run_findKey (P:=P) (w:=w) B hf;have h3:(getObj b).run P w = .ok (.map es clock) w:=MapKept.run_getObj_map hb;constructor<;>simp [Ed,run_underlying hm,h3,h1,h2,hz,Bg]
theorem DA(hm:P.underlying t=some (.map k e))(B:P.underlying k=some d)(hb:w.heap[b]? = some (.map es clock))(hk:IsKey d key)(hf:B0 d key es.toList 0=some none):
  (Instr.mapUpdate t (.map (some b)) key val).run P w = .ok () { w with heap:=w.heap.setIfInBounds b (.map (es.push { key,val,born:=clock }) (clock+1)) }:=by
 have h1:(Instr.checkKey false 10000 k key).run P w = .ok () w:=run_checkKey B hk false 9999;have h2:=run_findKey (P:=P) (w:=w) B hf;have h3:(getObj b).run P w = .ok (.map es clock) w:=MapKept.run_getObj_map hb;simp [Instr.mapUpdate,run_underlying hm,h3,h1,h2,run_setObj_map _ hb,Bg]
theorem Fh(hm:P.underlying t=some (.map k e))(B:P.underlying k=some d)(hk:IsKey d key)(hf:B0 d key es.toList 0=some none):
  (Instr.mapUpdate t (.map (some w)) key val).run P (w.alloc (.map es clock)) = .ok () (w.alloc (.map (es.push { key,val,born:=clock }) (clock+1))):=by
 rw [DA hm B (heap_alloc_new w _) hk hf];have hp:(w.heap.push (.map es clock)).setIfInBounds w (.map (es.push { key,val,born:=clock }) (clock+1))=w.heap.push (.map (es.push { key,val,born:=clock }) (clock+1)):=by
  apply Array.ext';simp [Array.setIfInBounds]
 exact congrArg (fun h=>Result.ok () { w with heap:=h }) hp
end
end
section
namespace ErG
open Go.RowKit Go.Extern.Stop Go.Stop Go.Extern
theorem told_nil(w:World):Calls prog 50 #[.nilIface] w fun e w'=>e = pJ (I_ 0)/\Aa [] w w':=by
 go_enter func50,ntmps50;go_wp2_with (go_at_call 77;refine(PQ _ _).mono ?_;rintro e w' ⟨rfl,rfl⟩);go_ret;exact⟨rfl,(Aa.refl [] w).alloc _⟩
theorem told_why(n:Int)(w:World)(hg:Et w):Calls prog 50 #[.iface 200 (pH #[pE pK n])] w fun e w'=>e = pJ (I_ n)/\Aa [] w w':=by
 have hE:Et (w.alloc (.cells #[pE pK 0] 200)):=hg.keeps ((Aa.refl [] w).alloc _) bA;have hb:=Blk.new w 200 #[pE pK 0];have HE:=lH hE;have HB:=lH hb;clear hE hb hg;go_enter func50,ntmps50;go_wp2_with fail;refine(PP (sT:=200) (pT:=201) (by simp [M2]) n (A_ w 0) _ _ HE.o (HB.o.cell 0) (HB.o.frozen 0)).mono ?_;rintro e w' ⟨rfl,hw⟩;have B:w'.cell? (A_ w 0)=some (I_ n):=by
  rw [hw];exact((((HB.o.alloc _).alloc _).alloc _).alloc _ |>.set_ 0 (I_ n)).cell 0
 have hk:Aa [] w w':=by
  rw [hw];exact((((((Aa.refl [] w).alloc _).alloc _).alloc _).alloc _).alloc _).setCell (p:=A_ w 0) (.inr (Aw _)) _
 have HK:=lH hk;clear hw hk;go_wp2;go_ret;exact⟨rfl,HK.o⟩
end ErG
namespace ErD
open Go.RowKit Go.Extern.Stop Go.Stop Go.Extern
theorem told_nil(w:World):Calls prog 168 #[.nilIface] w fun e w'=>e = pJ (I_ 0)/\Aa [] w w':=by
 go_enter func168,ntmps168;go_wp2_with (go_at_call 77;refine(PQ _ _).mono ?_;rintro e w' ⟨rfl,rfl⟩);go_ret;exact⟨rfl,(Aa.refl [] w).alloc _⟩
theorem told_why(n:Int)(w:World)(hg:Et w):Calls prog 168 #[.iface 342 (pH #[pE pK n])] w fun e w'=>e = pJ (I_ n)/\Aa [] w w':=by
 have hE:Et (w.alloc (.cells #[pE pK 0] 342)):=hg.keeps ((Aa.refl [] w).alloc _) bA;have hb:=Blk.new w 342 #[pE pK 0];have HE:=lH hE;have HB:=lH hb;clear hE hb hg;go_enter func168,ntmps168;go_wp2_with fail;refine(PP (sT:=342) (pT:=345) (by simp [M2]) n (A_ w 0) _ _ HE.o (HB.o.cell 0) (HB.o.frozen 0)).mono ?_;rintro e w' ⟨rfl,hw⟩;have B:w'.cell? (A_ w 0)=some (I_ n):=by
  rw [hw];exact((((HB.o.alloc _).alloc _).alloc _).alloc _ |>.set_ 0 (I_ n)).cell 0
 have hk:Aa [] w w':=by
  rw [hw];exact((((((Aa.refl [] w).alloc _).alloc _).alloc _).alloc _).alloc _).setCell (p:=A_ w 0) (.inr (Aw _)) _
 have HK:=lH hk;clear hw hk;go_wp2;go_ret;exact⟨rfl,HK.o⟩
end ErD
namespace ErC
open Go.RowKit Go.Extern.Stop Go.Stop Go.Extern
theorem told_nil(w:World):Calls prog 37 #[.nilIface] w fun e w'=>e = pJ (I_ 0)/\Aa [] w w':=by
 go_enter func37,ntmps37;go_wp2_with (go_at_call 77;refine(PQ _ _).mono ?_;rintro e w' ⟨rfl,rfl⟩);go_ret;exact⟨rfl,(Aa.refl [] w).alloc _⟩
theorem told_why(n:Int)(w:World)(hg:Et w):Calls prog 37 #[.iface 123 (pH #[pE pK n])] w fun e w'=>e = pJ (I_ n)/\Aa [] w w':=by
 have hE:Et (w.alloc (.cells #[pE pK 0] 123)):=hg.keeps ((Aa.refl [] w).alloc _) bA;have hb:=Blk.new w 123 #[pE pK 0];have HE:=lH hE;have HB:=lH hb;clear hE hb hg;go_enter func37,ntmps37;go_wp2_with fail;refine(PP (sT:=123) (pT:=186) (by simp [M2]) n (A_ w 0) _ _ HE.o (HB.o.cell 0) (HB.o.frozen 0)).mono ?_;rintro e w' ⟨rfl,hw⟩;have B:w'.cell? (A_ w 0)=some (I_ n):=by
  rw [hw];exact((((HB.o.alloc _).alloc _).alloc _).alloc _ |>.set_ 0 (I_ n)).cell 0
 have hk:Aa [] w w':=by
  rw [hw];exact((((((Aa.refl [] w).alloc _).alloc _).alloc _).alloc _).alloc _).setCell (p:=A_ w 0) (.inr (Aw _)) _
 have HK:=lH hk;clear hw hk;go_wp2;go_ret;exact⟨rfl,HK.o⟩
end ErC
theorem QI{P:Program}{a:Act}{w:World}{Q:Exit->Act->World->Prop}{c rest:Code}(l:Nat)(hf:findLabel c l=some rest)
 (h:c.wp P (Exit.jump l (fun a' w'=>rest.wp P (Exit.noGoto Q) a' w') Q) a w):(Code.scope c).wp P Q a w:=
 wp_scope_jumps l (fun a' w'=>rest.wp P (Exit.noGoto Q) a' w') (fun _ _=>0) hf h fun a w hJ=>wp_mono hJ fun e a' w' hq=>by
  cases e<;>first | exact hq | exact hq.elim
structure Ok(p:Po):Prop where
 n1:1≤p.next
 n2:p.next≤1000000000000
 len:p.l.length≤3
 cur:∀s∈p.l,1≤s.cur∧s.cur<p.next
 ap:p.l.Pairwise fun s t=>s.cur≠t.cur
 us:∀s∈p.l,0≤s.used∧s.used≤1000000000000
 so:p.l.Pairwise fun s t=>s.used≤t.used
 wh:∀s∈p.l,Dd s.items=true
theorem OF{next:Int}: ∀(l:List Sn) (met:List Int),CS next met l=true↔(∀s∈l,(1<=s.cur/\s.cur<next)/\s.cur∉met)/\l.Pairwise fun s t=>s.cur≠t.cur
 | [],met=>by simp [CS]
 | x::l,met=>by
  rw [CS,Af,OF l,List.pairwise_cons];simp only [JZ,Af,Bool.not_eq_true',decide_eq_true_eq,AQ,Ag,not_or,AF,List.contains_eq_mem,decide_eq_false_iff_not];constructor
  ·rintro⟨⟨⟨h1,h2⟩,h3⟩,h4,h5⟩
   exact⟨⟨⟨⟨h2,h3⟩,h1⟩,fun s hs=>⟨(h4 s hs).1,(h4 s hs).2.1⟩⟩,fun s hs h=>(h4 s hs).2.2 h.symm,h5⟩
  ·rintro⟨⟨⟨⟨h2,h3⟩,h1⟩,h4⟩,h6,h5⟩
   exact⟨⟨⟨h1,h2⟩,h3⟩,fun s hs=>⟨(h4 s hs).1,(h4 s hs).2,fun h=>h6 s hs h.symm⟩,h5⟩
theorem NT:∀(l:List Sn) (last:Int),BV last l=true↔(∀s∈l,last<=s.used/\s.used<=1000000000000)/\l.Pairwise fun s t=>s.used<=t.used
 | [],last=>by simp [BV]
 | x::l,last=>by
  rw [BV,Af,NT l,List.pairwise_cons];simp only [Hy,Af,decide_eq_true_eq,AF];constructor
  ·rintro⟨⟨h1,h2⟩,h3,h4⟩
   exact⟨⟨⟨h1,h2⟩,fun s hs=>⟨by have:=(h3 s hs).1;omega,(h3 s hs).2⟩⟩,fun s hs=>(h3 s hs).1,h4⟩
  ·rintro⟨⟨⟨h1,h2⟩,h3⟩,h5,h4⟩
   exact⟨⟨h1,h2⟩,fun s hs=>⟨h5 s hs,(h3 s hs).2⟩,h4⟩
theorem LM(p:Po):Ej p=true↔Ok p:=by
 simp only [Ej,Hk,Fx,Af,decide_eq_true_eq,OF,NT,Bm];constructor
 ·rintro⟨⟨⟨⟨⟨h1,h2⟩,h3⟩,h4,B⟩,D,E⟩,h8⟩
  exact⟨h1,h2,h3,fun s hs=>(h4 s hs).1,B,D,E,h8⟩
 ·intro h
  exact⟨⟨⟨⟨⟨h.n1,h.n2⟩,h.len⟩,fun s hs=>⟨h.cur s hs,by simp⟩,h.ap⟩,h.us,h.so⟩,h.wh⟩
theorem UT{l:List Sn}{now:Int}(hu:∀s∈l,0<=s.used)(hs:l.Pairwise fun s t=>s.used<=t.used):EQ l<=now↔0<=now/\∀s∈l,s.used<=now:=by
 rcases List.eq_nil_or_concat l with rfl | ⟨m,x,rfl⟩
 ·simp [EQ]
 ·rw [List.concat_eq_append] at hu hs ⊢
  have h1:EQ (m++[x])=x.used:=by simp [EQ]
  rw [h1];rw [BK] at hs;constructor
  ·intro h
   refine⟨by have:=hu x bA;omega,fun s hm=>?_⟩;rw [AQ,Ag] at hm;rcases hm with hm | rfl
   ·have:=hs.2.2 s hm x bA;omega
   ·exact h
  ·rintro⟨_,h⟩
   exact h x bA
structure SP(p:Po)(now:Int):Prop where
 ok:Ok p
 t0:0≤now
 t1:now≤1000000000000
 le:∀s∈p.l,s.used≤now
theorem Hj(p:Po)(now:Int):Db p now=true↔SP p now:=by
 simp only [Db,Af,decide_eq_true_eq,LM];constructor
 ·rintro⟨⟨h1,h2⟩,h3⟩
  rw [UT (fun s hs=>(h1.us s hs).1) h1.so] at h2;exact⟨h1,h2.1,h3,h2.2⟩
 ·intro h
  exact⟨⟨h.ok,(UT (fun s hs=>(h.ok.us s hs).1) h.ok.so).2 ⟨h.t0,h.le⟩⟩,h.t1⟩
theorem SP.add{p:Po}{now:Int}(h:SP p now){m:List Sn}(hm:m.Sublist p.l)(hl:m.length<=2)(s:Sn)(next:Int)(hn:p.next<=next)(F:next<=1000000000000)(J:1<=s.cur/\s.cur<next)(hne:∀t∈m,t.cur≠s.cur)(hu:s.used=now)(hw:Dd s.items=true):
  SP ⟨m++[s],next⟩ now:=by
 have E:∀t∈m,t∈p.l:=fun t B=>hm.subset B;have D:∀t∈m++[s],t∈p.l\/t=s:=fun t B=>by
  rw [AQ,Ag] at B;exact B.imp (E t) id
 refine⟨⟨by have:=h.ok.n1;dsimp only;omega,F,by simp;omega,fun t B=>?_,?_,fun t B=>?_,?_,fun t B=>?_⟩,h.t0,h.t1,fun t B=>?_⟩
 ·rcases D t B with B | rfl
  ·have:=h.ok.cur t B;dsimp only;omega
  ·exact J
 ·refine BK.2 ⟨h.ok.ap.sublist hm,by simp,fun t B u hu=>?_⟩
  obtain rfl:=Ag.1 hu;exact hne t B
 ·rcases D t B with B | rfl
  ·exact h.ok.us t B
  ·have:=h.t0;have:=h.t1;omega
 ·refine BK.2 ⟨h.ok.so.sublist hm,by simp,fun t B u G=>?_⟩
  obtain rfl:=Ag.1 G;rw [hu];exact h.le t (E t B)
 ·rcases D t B with B | rfl
  ·exact h.ok.wh t B
  ·exact hw
 ·rcases D t B with B | rfl
  ·exact h.le t B
  ·omega
theorem SP.later{p:Po}{now now':Int}(h:SP p now)(h1:now<=now')(h2:now'<=1000000000000):SP p now':=⟨h.ok,by have:=h.t0;omega,h2,fun s hs=>by have:=h.le s hs;omega⟩
theorem SP.page{p:Po}{now:Int}(h:SP p now){i:Nat}{s:Sn}(hs:p.l[i]? = some s):SP ⟨p.l.eraseIdx i++[{ s with used:=now }],p.next⟩ now:=by
 obtain⟨hi,rfl⟩:=Ad.1 hs;refine h.add (List.eraseIdx_sublist _ _) (by rw [List.length_eraseIdx_of_lt hi];have:=h.ok.len;omega) { p.l[i] with used:=now } p.next (Int.le_refl _) h.ok.n2 (h.ok.cur p.l[i] (pS hi)) (fun t B=>?_) rfl (show Dd p.l[i].items=true from h.ok.wh _ (pS hi));obtain⟨j,hj,hne,rfl⟩:=List.mem_eraseIdx_iff_getElem.1 B;have hp:=List.pairwise_iff_getElem.1 h.ok.ap;show p.l[j].cur≠p.l[i].cur;rcases Nat.lt_or_gt_of_ne hne with hlt | hlt
 ·exact hp j i hj hi hlt
 ·exact fun he=>hp i j hi hj hlt he.symm
theorem rU{f:Sn->Bool}: ∀ {l1:List Sn} (l2:List Sn) (s:Sn),(∀t∈l1,f t=false)->f s=true->CN f (l1++s::l2)=some l1.length
 | [],l2,s,_,hs=>by simp [CN,hs]
 | t::l1,l2,s,h,hs=>by
  rw [AL,CN,h t bA,rU l2 s (fun u hu=>h u (by simp [hu])) hs];rfl
theorem tH(B D:List Sn)(s:Sn):(B++s::D).eraseIdx B.length=B++D:=by
 rw [List.eraseIdx_append_of_length_le (Aw _),Nat.sub_self];rfl
def oV(xs:List ByteArray)(f n:Int):List ByteArray:=(xs.drop f.toNat).take (IL xs.length f n - f).toNat
def oW(xs:List ByteArray)(f n:Int):Int:=if IL xs.length f n=xs.length then -1 else IL xs.length f n
theorem uM{E B:List Sn}{s:Sn}{next now f n:Int}(h:SP ⟨E++s::B,next⟩ now)(hf:now - s.used<1000)(h0:0<=f)(h1:f<=s.items.length)(G:1<=n)(J:n<=10):
  qO ⟨E++s::B,next⟩ s.cur f n now=(⟨E++B++[{ s with used:=now }],next⟩,oV s.items f n,oW s.items f n,0):=by
 have D:=(BK.1 h.ok.ap).2.2;unfold qO;rw [if_pos ((Hj _ _).2 h),if_neg bB,rU B s (fun t F=>by simp [Ga,D t F s bA]) (by simp [Ga,Fs,hf,h0,h1])];simp only [Ee (Aw _),Nat.sub_self,Aj,tH];rfl
theorem sM{l:List Sn}{s:Sn}{next now f n:Int}(h:SP ⟨l++[s],next⟩ now)(hf:now - s.used<1000)(h0:0<=f)(h1:f<=s.items.length)(B:1<=n)(D:n<=10):
  qO ⟨l++[s],next⟩ s.cur f n now=(⟨l++[{ s with used:=now }],next⟩,oV s.items f n,oW s.items f n,0):=by
 rw [uM h hf h0 h1 B D,List.append_nil]
theorem Ps{p:Po}{cursor f n now:Int}{q:Po}{page:List ByteArray}{nx err:Int}(h:qO p cursor f n now=(q,page,nx,err)):
  (q=Uf/\page = []/\nx=0/\¬err=0)\/(∃l1 l2 s,p.l=l1++s::l2/\SP p now/\s.cur=cursor/\now - s.used<1000/\0<=f/\f<=s.items.length/\1<=n/\n<=10/\q=⟨l1++l2++[{ s with used:=now }],p.next⟩/\page=oV s.items f n/\nx=oW s.items f n/\err=0):=by
 unfold qO at h;split at h
 ·rename_i hc
  split at h
  ·cases h;exact .inl ⟨rfl,rfl,rfl,by decide⟩
  ·rename_i hn
   split at h
   ·cases h;exact .inl ⟨rfl,rfl,rfl,by decide⟩
   ·rename_i i hi
    obtain⟨hl,hf⟩:=Nc hi;simp only [Ga,Fs,Af,beq_iff_eq,decide_eq_true_eq] at hf;rw [Aq hl] at h;cases h;refine .inr ⟨p.l.take i,p.l.drop (i+1),p.l[i],?_,(Hj _ _).1 hc,hf.1.1.1,hf.1.1.2,hf.1.2,hf.2,by omega,by omega,?_,rfl,rfl,rfl⟩
    ·rw [List.getElem_cons_drop,Dn]
    ·rw [List.eraseIdx_eq_take_drop_succ]
 ·cases h;exact .inl ⟨rfl,rfl,rfl,by decide⟩
theorem sX(xs:List ByteArray)(f n:Nat)(h:f<=xs.length):oV xs f n=(xs.drop f).take n:=by
 unfold oV IL;rw [pW];split
 ·rw [show((f:Int)+(n:Int) - (f:Int)).toNat=n by omega]
 ·rw [show((xs.length:Int) - (f:Int)).toNat=(xs.drop f).length by rw [B1];omega,List.take_length,Ak (by rw [B1];omega)]
theorem uA(xs:List ByteArray)(f n:Nat):oW xs f n=if f+n<xs.length then((f+n:Nat):Int) else -1:=by
 unfold oW IL
 repeat' split
 all_goals omega
end
section
open Go.RowKit Go.WideShapes Go.ChangeShapes
section
variable {H:Type} {enc:TypeId×Value->H} {P:Program}
theorem JS(hl:laidOutB P=true){W W':World}(hb:Below W W W'){sp':Nat->Bool}:
  ∀ {ts:List TypeId} {vs:List Value} {ds:List (DataW H)} {ps:List MemPlace},(∀t∈ts,P.readableRec t=true/\t<P.types.size)->
   DataW.TrodAll enc P W 0 (fun _=>true) true ts vs ds ps->(∀x∈ps,x.block<W.heap.size)->(∀x∈ps,sp' x.block=true)->DataW.TrodAll enc P W' 0 sp' true ts vs ds ps
 | [],[],[],_,_,h,_,_=>h
 | t::ts,v::vs,d::ds,_,ht,h,hlt,hsp=>by
  obtain⟨p,q,h1,h2,rfl⟩:=h;refine⟨p,q,?_,JS hl hb (fun t' ht'=>ht t' (Ca _ ht')) h2 (fun x hx=>hlt x (by simp [hx])) (fun x hx=>hsp x (by simp [hx])),rfl⟩;exact WideElems.Trod_stays hl (ht t bA).1 (ht t bA).2 h1 (fun x hx=>hb.same (hlt x (by simp [hx]))) (fun x hx=>hsp x (by simp [hx]))
theorem Jn{f:Func}{s:ChangeSpec}{B O D N:Bool}{W W':World}{args:Array Value}{ds gs:List (DataW H)}{G:List MemPlace}{tb:TypeId}
 (hl:laidOutB P=true)(ah:∀t∈f.params.toList,P.readableRec t=true/\t<P.types.size)(aa:s.vars = [])(X:f.resultTypes=#[tb])(Y:P.underlying tb=some .bool)
 (hW:DataW.Whole enc P f.params.toList s.vars B W args.toList ds gs G)(hb:Below W W W')
 (hs:(s.fn H (ds++gs)).results = [.lit (.bool true)]/\(s.fn H (ds++gs)).args=ds/\(s.fn H (ds++gs)).vars = []):
  s.post enc P f B O D N W args (pI true) W':=by
 have ad:=hW;obtain⟨p,q,hA,hV,rfl,ae,af⟩:=ad;rw [aa] at hV;obtain⟨rfl,rfl⟩:=trodVars_none hV;have hlt:∀x∈p++[],x.block<W.heap.size:=fun x hx=>hW.lt x hx;have E:∀J:Nat->Bool,(∀x∈p++[],J x.block=true)->DataW.TrodAll enc P W' 0 J true f.params.toList args.toList ds p:=fun J ag=>
  JS hl hb ah hA (fun x hx=>hlt x iY) (fun x hx=>ag x iY)
 have M:∀(b:Nat) (J:Nat->Bool) (hd:Bool),DataW.TrodAll enc P W' b J hd f.resultTypes.toList ((pI true).resultList f.resultTypes.size) (s.fn H (ds++[])).results []:=fun b J hd=>by
  rw [hs.1,X];exact trodAll_cons_mk (shut_bool Y true) trodAll_mk0
 have U:∀x∈p++[],(fun b=>decide (b<W.heap.size)) x.block=true:=fun x hx=>by simpa using hlt x hx
 have F:∀J:Nat->Bool,DataW.TrodVars enc P W' J s.vars (s.fn H (ds++[])).vars []:=fun J=>by rw [aa,hs.2.2];rfl
 refine⟨ds,[],p++[],[],p,[],hW,M _ _ _,by rw [hs.2.1];exact E _ U,F _,World.keptBut_mono (fun x hx=>⟨hx,?_⟩) (hb.frame (·∈p++[])),fun _=>?_⟩
 ·rw [AQ] at hx
  exact Or.inr iY
 ·refine⟨?_,_,_,([]++p)++[],⟨[]++p,[],trodAll_append (E _ (fun _ _=>rfl)) (M _ _ _),F _,rfl,?_,?_⟩,?_⟩
  ·intro j t r ht hr
   rw [X] at ht hr
   match j with
   | 0=>
    simp at ht;obtain rfl:r = pI true:=by simpa [Value.resultList] using hr.symm
    subst ht;exact okWide_bool_mk Y true
   | j+1=>simp at ht
  ·intro b off hp
   have T:MemPlace.cell b off∈p++[]:=kD;rw [hb.frozen (hlt _ T)];exact ae b off T
  ·intro ha
   simpa using af ha
  ·intro x hx _
   simpa using hx
end
end
section
open Go.RowKit Go.ChangeShapes
def S5(nm:String)(x:String×Nat×List UInt8):String×DataW Unit:=(x.1,.iface nm (.ptr (.agg [.lit (.string x.2.2)])))
theorem IJ{P:Program}{nm:String}{W:World}{ti G F J:TypeId}{N:Array (String×TypeId)}{f:Field}
 (hi:P.underlying ti=some (.interface N))(hrow:∀u,P.typeName? 3 u=some nm->u=G)
 (hp:P.underlying G=some (.pointer F))(he:P.underlying F=some (.struct #[f]))(E:f.type=J)(D:f.offset=0)(hs:P.underlying J=some .string)(M:P.cellsOf F=1)(B:P.cellsOf J=1):
  ∀(l:List (String×Nat×List UInt8)) (ps:List MemPlace),DataW.LaidVars P W (l.map (S5 nm)) ps->ps.Nodup->
   (∀b off,MemPlace.cell b off∈ps->(∃c t,W.heap[b]? = some (.cells c t (0,0)))/\∀u v,W.cell? (A_ b off)=some (.iface u v)->Value.okWide P W .any 0 u v)->
   (∀x∈l,P.globalNamed x.1=some x.2.1/\(P.globals[x.2.1]?).map (·.type)=some ti)->(l.map (·.2.1)).Nodup->
   ∃e:Nat->Addr,Ge W G (l.map (·.2.1)) e/\∀g∈l.map (·.2.1),MemPlace.cell (e g).block (e g).off∈ps
 | [],ps,_,_,_,_,_=>⟨fun _=>(A_ 0 0),⟨by simp,by simp,by simp⟩,by simp⟩
 | x::l,ps,h,hnd,hrows,hg,hgn=>by
  obtain⟨g0,t0,cs0,f0,p0,q0,hg0,ht0,hv0,hd0,hq,e0⟩:=h;obtain⟨hgx,htx⟩:=hg x bA;obtain rfl:=Option.some.inj (hgx.symm.trans hg0);obtain rfl:=Option.some.inj (htx.symm.trans ht0);subst e0;obtain⟨l0⟩:=cs0;have ok0:∀u v,l0 = [.iface u v]->Value.okWide P W .any 0 u v:=fun u v e=>by
   subst e;exact(hrows x.2.1 0 (by simp [MemPlace.row])).2 u v (by simpa using World.var?_cell hg0 hv0 0)
  obtain⟨a0,s0,rfl,hc0,hs0,hz0,rfl⟩:=errorString_of_trod hi hrow hp he E D hs M B hd0 ok0;have hnd2:q0.Nodup:=List.Nodup.sublist (List.sublist_append_right _ _) hnd;obtain⟨e,hS,hin⟩:=IJ hi hrow hp he E D hs M B l q0 hq hnd2 (fun b off hm=>hrows b off (List.mem_append_right _ hm)) (fun y hy=>hg y (by simp [hy])) (List.nodup_cons.1 hgn).2;have hx:x.2.1∉l.map (·.2.1):=(List.nodup_cons.1 hgn).1;refine⟨fun g=>if g=x.2.1 then a0 else e g,⟨fun g hg=>?_,fun g hg=>?_,fun g hg g' hg' hne=>?_⟩,fun g hg=>?_⟩
  ·by_cases hgx:g=x.2.1
   ·subst hgx;rw [if_pos rfl];simpa using World.var?_cell hg0 hv0 0
   ·rw [if_neg hgx];exact hS.cell g (by simpa [hgx] using hg)
  ·by_cases hgx:g=x.2.1
   ·subst hgx;rw [if_pos rfl];exact(hrows a0.block a0.off (by simp [MemPlace.row])).1
   ·rw [if_neg hgx];exact hS.row g (by simpa [hgx] using hg)
  ·have hout:∀g∈l.map (·.2.1),a0≠e g:=fun g hg=>by
    rintro rfl;have h1:=hin g hg;rw [CC] at hnd;have h2:=List.Nodup.sublist (List.sublist_append_right _ _) hnd;rw [List.nodup_append] at h2;exact h2.2.2 _ (by simp [MemPlace.row]) _ h1 rfl
   by_cases hgx:g=x.2.1
   ·subst hgx
    rw [if_pos rfl,if_neg (fun h=>hne h.symm)];exact hout g' (by
     rcases Ac.1 hg' with h | h
     ·exact absurd h.symm hne
     ·exact h)
   ·rw [if_neg hgx]
    have hgl:g∈l.map (·.2.1):=by simpa [hgx] using hg
    by_cases hgx':g'=x.2.1
    ·subst hgx'
     rw [if_pos rfl];exact(hout g hgl).symm
    ·rw [if_neg hgx']
     exact hS.ne g hgl g' (by simpa [hgx'] using hg') hne
  ·by_cases hgx:g=x.2.1
   ·subst hgx;simp [MemPlace.row]
   ·simp only [if_neg hgx];exact List.mem_append_right _ (hin g (by simpa [hgx] using hg))
theorem Sa{P:Program}{nm:String}{W:World}{ti M J N:TypeId}{T:Array (String×TypeId)}{f:Field}{l:List (String×Nat×List UInt8)}(h:laidMet P (l.map (S5 nm)) W)
 (hi:P.underlying ti=some (.interface T))(hrow:∀u,P.typeName? 3 u=some nm->u=M)
 (hp:P.underlying M=some (.pointer J))(he:P.underlying J=some (.struct #[f]))(F:f.type=N)(E:f.offset=0)(hs:P.underlying N=some .string)(O:P.cellsOf J=1)(D:P.cellsOf N=1)
 (hg:∀x∈l,P.globalNamed x.1=some x.2.1/\(P.globals[x.2.1]?).map (·.type)=some ti)(hn:(l.map (·.2.1)).Nodup):∃e:Nat->Addr,Ge W M (l.map (·.2.1)) e:=by
 obtain⟨U,hv,G,B⟩:=h;obtain⟨e,hS,_⟩:=IJ hi hrow hp he F E hs O D l U hv G B hg hn;exact⟨e,hS⟩
end
end Go.Proofs.YtncebikgoleolaaGreatDoor
