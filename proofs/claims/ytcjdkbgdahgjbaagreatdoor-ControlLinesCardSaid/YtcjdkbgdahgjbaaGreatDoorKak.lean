/- Steps of the proof: Base, Frl, Qk, Qu, SlV, MemO, SnapP, MapI, Laid, Err, EtA, ErrW, ErrO, ErrG. -/
import Derived.Test.YtcjdkbgdahgjbaaGreatDoorK0
import Derived.Test.YtcjdkbgdahgjbaaGreatDoorKba
import Derived.WalkKit
import Derived.WalkSpells
import Derived.WalkLawsBesides
import Derived.BigQuiet
import Derived.Deep.QuietTactic
import Derived.Deep.Draws
import Derived.Laws.Rows
import Derived.Lib.Hide
import Derived.StillTailTactics
import Derived.Laws.MakeOwn
import Derived.Laws.IdiomCopy
import Derived.Deep.RegionHeld
import Derived.Laws.OwnMore
import Derived.Laws.AppendOwn
import Derived.MapKept
import Derived.Maps.OwnIn
import Derived.WideLaws
import Derived.LaidLaws
import Derived.Stop.LaidErr
import Derived.Test.YtcjdkbgdahgjbaaGreatDoorChecked
import Derived.LaidEql
import Derived.Stop.Asserts
import Derived.RowKitTokens
set_option maxRecDepth 100000
set_option maxHeartbeats 8000000
set_option linter.all false
namespace Go.Proofs.YtcjdkbgdahgjbaaGreatDoor
open _root_.Array renaming getElem?_eq_some_iff→Aj
open _root_.Bool renaming and_eq_true→Af
open Builtin renaming append_→Bo
open Ending renaming returned→dM
open Instr renaming findNow→AV,lookup→Dx,typeAssert→Cw
open IntKind renaming i64→dN
open _root_.List renaming eq_nil_of_length_eq_zero→Er,flatMap_append→Bt,getElem?_append_right→Dc,getElem?_eq_some_iff→Ad,getElem?_take→Ds,length_append→Ag,length_cons→Ao,length_nil→Eh,length_take→A7,map_cons→Cn,mem_cons→Ac,mem_flatMap→DL,nil_append→AX
open _root_.Nat renaming le_refl→Ap,le_trans→As,lt_of_lt_of_le→AT,mul_le_mul_right→BW,zero_add→BI
open _root_.Option renaming map_eq_some_iff→B6
open Region renaming ready→AK
open Result renaming andThen→AI
open Value renaming agg→dK,bool→dL,int→dH,pointer→dJ,slice→dI,string→CZ
open World renaming block_lt_of_cell?→A4,cell?_alloc_lt→BD,cell?_of_block→Cq
section
open Go.RowKit
def Blk(w:World)(g:Nat)(t:TypeId)(cs:Array Value):Prop:=w.heap[g]? = some (.cells cs t (0,0))
section
variable {w w':World} {g:Nat} {t:TypeId} {cs:Array Value}
theorem Blk.lt(h:Blk w g t cs):g<w.heap.size:=by
 rcases Nat.lt_or_ge g w.heap.size with hlt | hge
 ·exact hlt
 ·unfold Blk at h;rw [Array.getElem?_eq_none hge] at h;cases h
theorem Blk.cell(h:Blk w g t cs)(i:Nat):w.cell? ⟨g,i,none⟩=cs[i]?:=cell_of_row w g i cs t (0,0) h
theorem Blk.frozen(h:Blk w g t cs)(i:Nat):w.frozen? ⟨g,i,none⟩=false:=by
 unfold Blk at h;simp [World.frozen?,h]
theorem Blk.new(w:World)(t:TypeId)(cs:Array Value):Blk (w.alloc (.cells cs t)) w.heap.size t cs:=heap_alloc_new w _
theorem Blk.drew(h:Blk w g t cs):Blk w.drew g t cs:=h
theorem Blk.alloc(h:Blk w g t cs)(o:Obj):Blk (w.alloc o) g t cs:=(Below.heap_alloc w o g h.lt).trans h
theorem Blk.set_(h:Blk w g t cs)(i:Nat)(u:Value):Blk (w.setCell ⟨g,i,none⟩ u) g t (cs.setIfInBounds i u):=by
 unfold Blk at h ⊢;simp [World.setCell,Array.getElem?_modify,h]
theorem Blk.far(h:Blk w g t cs){p:Addr}(hp:g≠p.block)(u:Value):Blk (w.setCell p u) g t cs:=(Below.heap_setCell w p u g hp).trans h
theorem Blk.ne_{g':Nat}{t':TypeId}{cs':Array Value}(h:Blk w g t cs)(h':Blk w g' t' cs')(hne:t≠t'):g≠g':=by
 rintro rfl;unfold Blk at h h';rw [h] at h';injection h' with h'
 injection h' with _ ht
 exact hne ht
end
structure Aa(S:List Nat)(w w':World):Prop where
 os:w'.os=w.os
 tape:w'.tape=w.tape
 output:w'.output=w.output
 size:w.heap.size≤w'.heap.size
 block:∀k,k<w.heap.size→k∉S→w'.heap[k]? = w.heap[k]?
section
variable {S S':List Nat} {a w w':World}
theorem Aa.refl(S:List Nat)(w:World):Aa S w w:=⟨rfl,rfl,rfl,Ap _,fun _ _ _=>rfl⟩
theorem Aa.trans(h:Aa S a w)(k:Aa S w w'):Aa S a w':=
 ⟨k.os.trans h.os,k.tape.trans h.tape,k.output.trans h.output,As h.size k.size,fun i hi hn=>(k.block i (AT hi h.size) hn).trans (h.block i hi hn)⟩
theorem Aa.mono(h:Aa S w w')(hs:∀k∈S,k∈S'):Aa S' w w':=⟨h.os,h.tape,h.output,h.size,fun k hk hn=>h.block k hk (fun hm=>hn (hs k hm))⟩
theorem Aa.trans'(h:Aa S a w)(k:Aa S' w w')(hs:∀i∈S',i∈S∨a.heap.size≤i):Aa S a w':=
 ⟨k.os.trans h.os,k.tape.trans h.tape,k.output.trans h.output,As h.size k.size,fun i hi hn=>(k.block i (AT hi h.size) (fun hm=>by
  rcases hs i hm with h1 | h1
  ·exact hn h1
  ·omega)).trans (h.block i hi hn)⟩
theorem Aa.drew(h:Aa S a w):Aa S a w.drew:=⟨h.os,h.tape,h.output,h.size,h.block⟩
theorem Aa.drewN(h:Aa S a w)(n:Nat):Aa S a (w.drewN n):=⟨h.os,h.tape,h.output,h.size,h.block⟩
theorem Aa.alloc(h:Aa S a w)(o:Obj):Aa S a (w.alloc o):=
 h.trans ⟨rfl,rfl,rfl,by simp,fun k hk _=>Below.heap_alloc _ _ _ hk⟩
theorem Aa.setCell(h:Aa S a w){p:Addr}(hp:p.block∈S∨a.heap.size≤p.block)(u:Value):Aa S a (w.setCell p u):=
 ⟨h.os,h.tape,h.output,by simpa [World.setCell] using h.size,fun i hi hne=>(Below.heap_setCell w p u i (by
  rintro rfl;rcases hp with hp | hp
  ·exact hne hp
  ·omega)).trans (h.block i hi hne)⟩
theorem Aa.setCells{b:Nat}(hp:b∈S∨a.heap.size≤b):∀(vs:List Value) (o:Nat) {w:World},Aa S a w→Aa S a (w.setCells b o vs)
 | [],_,_,h=>h
 | v::r,o,_,h=>Aa.setCells hp r (o+1) (h.setCell (p:=⟨b,o,none⟩) hp v)
theorem Aa.grown{row:Option Nat}(h:Aa S a w)(hg:w.grownBy w' row)(hr:∀k,row=some k→k∈S∨a.heap.size≤k):Aa S a w':=
 ⟨hg.os.trans h.os,hg.tape.trans h.tape,hg.output.trans h.output,As h.size hg.size,fun k hk hn=>(hg.block k (AT hk h.size) (fun e=>by
  rcases hr k e.symm with h1 | h1
  ·exact hn h1
  ·omega)).trans (h.block k hk hn)⟩
theorem Aa.below(h:Aa S w w'){B:Nat}(hB:B≤w.heap.size)(hs:∀k∈S,B≤k):Below B w w':=
 ⟨h.os,h.tape,h.output,h.size,fun k hk=>h.block k bB (fun hm=>by have:=hs k hm;omega)⟩
theorem Aa.of_below(h:Below w.heap.size w w')(S:List Nat):Aa S w w':=⟨h.os,h.tape,h.output,h.size,fun k hk _=>h.block k hk⟩
theorem Blk.keeps{g:Nat}{t:TypeId}{cs:Array Value}(h:Blk w g t cs)(hk:Aa S w w')(hg:g∉S):Blk w' g t cs:=(hk.block g h.lt hg).trans h
theorem Aa.cell(h:Aa S w w'){p:Addr}(hp:p.block<w.heap.size)(hn:p.block∉S):w'.cell? p=w.cell? p:=Cq (w:=w) (h.block p.block hp hn)
theorem Aa.frozen(h:Aa S w w'){p:Addr}(hp:p.block<w.heap.size)(hn:p.block∉S):w'.frozen? p=w.frozen? p:=World.frozen?_of_block (w:=w) (h.block p.block hp hn)
end
theorem Hl{a b:Bool}(h:a=b):dM (dL a) = dM (dL b):=by rw [h]
theorem FT{P:Program}(t e:TypeId)(i:TypeInfo)(z:Value)(ht:P.underlying t=some (.slice e))(hi:P.info? e=some i)(hz:i.zero=some z)
 (kl kc:IntKind)(n c:Nat)(hnc:n≤c)(hbytes:i.bytes*c≤281474976710656)(h63:c≤9223372036854775807)(w:World):
  (Instr.makeSlice t (.int kl (n:Int)) (.int kc (c:Int))).run P w = .ok (dI (some ⟨w,0,none⟩) n c) (w.alloc (.cells (madeCells z.cells (c*i.size)) e)):=by
 have hb:(i.bytes:Int)*(c:Int)≤281474976710656:=by
  have h:((i.bytes*c:Nat):Int)≤281474976710656:=by omega
  rwa [Int.natCast_mul] at h
 have hr:=run_make (P:=P) w t e i z ht hi hz kl kc n c bB bB hb bB;simp only [Int.toNat_natCast] at hr;exact hr
inductive K3|k
instance:CoeDep K3 .k (Array Value):=⟨#[dI none 0 0,dI none 0 0,dI none 0 0,dI none 0 0,dI none 0 0,dH dN 0,dI none 0 0,dH dN 0,dI none 0 0,dI none 0 0]⟩
inductive Mr|k
instance:CoeDep Mr .k (Array Value):=⟨#[dH dN 0,dH dN 0,CZ ⟨#[]⟩,dH dN 0,dH dN 0,dI none 0 0,dI none 0 0,dH dN 0]⟩
inductive Hu|k
instance:CoeDep Hu .k (Array Value):=⟨#[dI none 0 0,dI none 0 0,dI none 0 0]⟩
inductive LU|k
instance:CoeDep LU .k (Array Value):=⟨#[dI none 0 0,dI none 0 0,dI none 0 0,dI none 0 0,dH dN 0]⟩
inductive Yb|k
instance:CoeDep Yb .k (Array Value):=⟨#[dH dN 0,dH dN 0,dH dN 0,dH dN 0,dH dN 0,dH dN 0]⟩
inductive Xt|k
instance:CoeDep Xt .k (Array Value):=⟨#[CZ ⟨#[]⟩,dH dN 0,dH dN 0,CZ ⟨#[]⟩,dH dN 0,dH dN 0,dL false,dH dN 0,dH dN 0,dH dN 0,dH dN 0,CZ ⟨#[]⟩,dH dN 0,dH dN 0,dH dN 0,dH dN 0,dH dN 0]⟩
theorem Blk.ce{w:World}{b:Nat}{t:TypeId}{cs:Array Value}(h:Blk w b t cs)(i:Nat){v:Value}(hv:cs[i]? = some v:=by ((try simp only [List.getElem?_toArray,List.getElem?_cons_zero,List.getElem?_cons_succ]);try rfl)):w.cell? ⟨b,i,none⟩=some v:=(h.cell i).trans hv
theorem N5(n:Nat):(n=n+1+1)=False:=eq_false bB
theorem N6(n:Nat):(n=n+1+1+1)=False:=eq_false bB
theorem N3(n:Nat):(n+1+1=n)=False:=eq_false bB
theorem N4(n:Nat):(n+1+1+1=n)=False:=eq_false bB
section
variable {S:List Nat} {w w':World} {g:Nat} {t:TypeId} {cs:Array Value}
theorem Aa.rl(h:Aa S w w'):(∀b i,b<w.heap.size→b∉S→w'.cell? ⟨b,i,none⟩=w.cell? ⟨b,i,none⟩)∧(∀b i,b<w.heap.size→b∉S→w'.frozen? ⟨b,i,none⟩=w.frozen? ⟨b,i,none⟩)∧(∀b,b<w.heap.size→b<w'.heap.size):=
 ⟨fun b i hb hn=>h.cell (p:=⟨b,i,none⟩) hb hn,fun b i hb hn=>h.frozen (p:=⟨b,i,none⟩) hb hn,fun _ hb=>AT hb h.size⟩
theorem Blk.rl(h:Blk w g t cs):(∀i,w.cell? ⟨g,i,none⟩=cs[i]?)∧(∀i,w.frozen? ⟨g,i,none⟩=false)∧g<w.heap.size:=⟨h.cell,h.frozen,h.lt⟩
end
section
variable {P:Program} {md:Region.Mode} {ops:Array Oper} {Q:Exit→Act→World→Prop} {S:World→Prop} {S0:List Nat} {w0:World} {fuel:Nat} {listed L:Array Bool} {a A:Act} {w W:World} {oi:Oper} {v:Value}
theorem rQ(i:Nat)(h:wpAnyH P md ops Q S fuel L A w)
 (hr:(Region.ready md ops listed).contains i=true:=by decide +kernel)(hi:ops[i]? = some oi:=by(simp only [List.getElem?_toArray,List.getElem?_cons_succ,List.getElem?_cons_zero];try rfl))(hw:Region.wanted oi (yielded ops a.tmps)=true:=by rfl)
 (hs:Region.noSelect ops=true:=by kernel_rfl)(hf:Region.free md ops listed i=true:=by decide +kernel)
 (hS:S w:=by assumption)(hQ:∀c a w,Q (.panic c) (a.put oi.dst v) w→Q (.panic c) a w:=by exact fun _ _ _ h=>h)
 (hy:∀w',S w'→(execOp a.eval oi).run P w' = .ok (.value v) w':=by((intro w hSw;(try dsimp only at hSw);go_simp);try with_reducible rfl))
 (hL:listed.setIfInBounds i true=L:=by((try simp only [List.setIfInBounds_toArray,List.set_cons_zero,List.set_cons_succ]);try with_reducible rfl))
 (hA:a.put oi.dst v=A:=by((try simp only [Act.put,List.setIfInBounds_toArray,List.set_cons_zero,List.set_cons_succ]);try with_reducible rfl)):wpAnyH P md ops Q S (fuel+1) listed a w:=by
 subst hL hA;exact wpAnyH_take hi hs hf hr hQ (.inl ⟨hw,hy⟩) hS h
theorem rK(i:Nat)(h:wpAnyH P md ops Q (Aa S0 w0) fuel L A w)
 (hr:(Region.ready md ops listed).contains i=true:=by decide +kernel)(hi:ops[i]? = some oi:=by(simp only [List.getElem?_toArray,List.getElem?_cons_succ,List.getElem?_cons_zero];try rfl))(hw:Region.wanted oi (yielded ops a.tmps)=true:=by rfl)
 (hs:Region.noSelect ops=true:=by kernel_rfl)(hf:Region.free md ops listed i=true:=by decide +kernel)
 (hS:Aa S0 w0 w:=by assumption)(hQ:∀c a w,Q (.panic c) (a.put oi.dst v) w→Q (.panic c) a w:=by exact fun _ _ _ h=>h)
 (hy:∀w',((∀b i,b<w0.heap.size→b∉S0→w'.cell? ⟨b,i,none⟩=w0.cell? ⟨b,i,none⟩)∧(∀b i,b<w0.heap.size→b∉S0→w'.frozen? ⟨b,i,none⟩=w0.frozen? ⟨b,i,none⟩)∧(∀b,b<w0.heap.size→b<w'.heap.size))→(execOp a.eval oi).run P w' = .ok (.value v) w':=by((intro w rSw;go_simp);try with_reducible rfl))
 (hL:listed.setIfInBounds i true=L:=by((try simp only [List.setIfInBounds_toArray,List.set_cons_zero,List.set_cons_succ]);try with_reducible rfl))
 (hA:a.put oi.dst v=A:=by((try simp only [Act.put,List.setIfInBounds_toArray,List.set_cons_zero,List.set_cons_succ]);try with_reducible rfl)):wpAnyH P md ops Q (Aa S0 w0) (fuel+1) listed a w:=by
 subst hL hA;exact wpAnyH_take hi hs hf hr hQ (.inl ⟨hw,fun w' hw'=>hy w' hw'.rl⟩) hS h
theorem rN(i:Nat)(h:wpAnyH P md ops Q S fuel L A w)
 (hr:(Region.ready md ops listed).contains i=true:=by decide +kernel)(hi:ops[i]? = some oi:=by(simp only [List.getElem?_toArray,List.getElem?_cons_succ,List.getElem?_cons_zero];try rfl))(hw:Region.wanted oi (yielded ops a.tmps)=false:=by rfl)
 (hs:Region.noSelect ops=true:=by kernel_rfl)(hf:Region.free md ops listed i=true:=by decide +kernel)
 (hS:S w:=by assumption)(hQ:∀c a w,Q (.panic c) (a.put oi.dst undef) w→Q (.panic c) a w:=by exact fun _ _ _ h=>h)
 (hL:listed.setIfInBounds i true=L:=by((try simp only [List.setIfInBounds_toArray,List.set_cons_zero,List.set_cons_succ]);try with_reducible rfl))
 (hA:a.put oi.dst undef=A:=by((try simp only [Act.put,List.setIfInBounds_toArray,List.set_cons_zero,List.set_cons_succ]);try with_reducible rfl)):wpAnyH P md ops Q S (fuel+1) listed a w:=by
 subst hL hA;exact wpAnyH_take hi hs hf hr hQ (.inr ⟨hw,rfl⟩) hS h
theorem rC(i:Nat)(h:∀K':Act→World→Prop,Shut (∀a w,S w→(S w→wpAnyH P md ops Q S fuel L a w)→K' a w)→if Region.wanted oi (yielded ops a.tmps)=true then Oper.wp P oi a w K' Q else K' (a.put oi.dst undef) w)
 (hi:ops[i]? = some oi:=by(simp only [List.getElem?_toArray,List.getElem?_cons_succ,List.getElem?_cons_zero];try rfl))(hr:Region.ready md ops listed = [i]:=by decide +kernel)
 (hL:listed.setIfInBounds i true=L:=by((try simp only [List.setIfInBounds_toArray,List.set_cons_zero,List.set_cons_succ]);try with_reducible rfl)):wpAnyH P md ops Q S (fuel+1) listed a w:=by
 subst hL;exact wpAnyH_ready hr bA (.cons hi h .nil)
def LS(P:Program)(md:Region.Mode)(ops:Array Oper)(Q:Exit→Act→World→Prop)(S:World→Prop)(fuel:Nat)(listed:Array Bool)(a:Act)(w:World):List Nat→Prop
 | []=>True
 | j::rs=>((AK md ops listed).contains j=true→wpOp P ops Q j (fun a' w'=>S w'∧wpAnyH P md ops Q S fuel (listed.setIfInBounds j true) a' w') a w)∧LS P md ops Q S fuel listed a w rs
theorem LS.at_:∀ {C:List Nat},LS P md ops Q S fuel listed a w C→∀j∈C,(AK md ops listed).contains j=true→wpOp P ops Q j (fun a' w'=>S w'∧wpAnyH P md ops Q S fuel (listed.setIfInBounds j true) a' w') a w
 | [],_,_,hm,_=>by cases hm
 | _::_,h,j,hm,hr=>by
  rcases Ac.1 hm with rfl | hm
  ·exact h.1 hr
  ·exact LS.at_ h.2 j hm hr
theorem rB(C:List Nat)(h:LS P md ops Q S fuel listed a w C)(hC:(Region.ready md ops listed).all (fun j=>C.contains j)=true:=by decide +kernel)(hne:(Region.ready md ops listed).isEmpty=false:=by decide +kernel):wpAnyH P md ops Q S (fuel+1) listed a w:=
 wpAnyH_all rfl (fun h0=>by rw [h0] at hne;cases hne) (fun j hj=>h.at_ j (by simpa using List.all_eq_true.1 hC j hj) (by simpa using hj))
theorem rX{j:Nat}{rs:List Nat}(h:LS P md ops Q S fuel listed a w rs)(hn:(Region.ready md ops listed).contains j=false:=by decide +kernel):LS P md ops Q S fuel listed a w (j::rs):=
 ⟨fun h0=>(by rw [hn] at h0;cases h0),h⟩
theorem rZ:LS P md ops Q S fuel listed a w []:=trivial
theorem rA(j:Nat){rs:List Nat}(h:∀K':Act→World→Prop,Shut (∀a w,S w→(S w→wpAnyH P md ops Q S fuel L a w)→K' a w)→if Region.wanted oi (yielded ops a.tmps)=true then Oper.wp P oi a w K' Q else K' (a.put oi.dst undef) w)
 (hs:LS P md ops Q S fuel listed a w rs)(hi:ops[j]? = some oi:=by(simp only [List.getElem?_toArray,List.getElem?_cons_succ,List.getElem?_cons_zero];try rfl))
 (hL:listed.setIfInBounds j true=L:=by((try simp only [List.setIfInBounds_toArray,List.set_cons_zero,List.set_cons_succ]);try with_reducible rfl)):LS P md ops Q S fuel listed a w (j::rs):=by
 subst hL;exact⟨fun _=>wpOp_step hi (fun K' hK=>h K' (fun a w hS hW=>hK a w ⟨hS,hW hS⟩)),hs⟩
theorem rO{K:Act→World→Prop}(hK:Shut (∀a w,S w→(S w→wpAnyH P md ops Q S fuel listed a w)→K a w))(hS:S w)(h:S W→wpAnyH P md ops Q S fuel listed A W)(hA:a=A:=by((try simp only [Act.put,List.setIfInBounds_toArray,List.set_cons_zero,List.set_cons_succ]);try with_reducible rfl))(hW:w=W:=by((try simp only [Act.put,List.setIfInBounds_toArray,List.set_cons_zero,List.set_cons_succ]);try with_reducible rfl)):K a w:=by
 subst hA hW;exact hK.out _ _ hS h
theorem rP{K:Act→World→Prop}(hK:Shut (∀a w,Aa S0 w0 w→(Aa S0 w0 w→wpAnyH P md ops Q (Aa S0 w0) fuel listed a w)→K a w))(hS:Aa S0 w0 w)
 (h:((∀b i,b<w0.heap.size→b∉S0→W.cell? ⟨b,i,none⟩=w0.cell? ⟨b,i,none⟩)∧(∀b i,b<w0.heap.size→b∉S0→W.frozen? ⟨b,i,none⟩=w0.frozen? ⟨b,i,none⟩)∧(∀b,b<w0.heap.size→b<W.heap.size))→Aa S0 w0 W→wpAnyH P md ops Q (Aa S0 w0) fuel listed A W)
 (hA:a=A:=by((try simp only [Act.put,List.setIfInBounds_toArray,List.set_cons_zero,List.set_cons_succ]);try with_reducible rfl))(hW:w=W:=by((try simp only [Act.put,List.setIfInBounds_toArray,List.set_cons_zero,List.set_cons_succ]);try with_reducible rfl)):K a w:=by
 subst hA hW;exact hK.out _ _ hS (h hS.rl)
end
section
variable {P:Program} {md:Region.Mode} {ops:Array Oper} {Q:Exit→Act→World→Prop} {S:World→Prop} {S0:List Nat} {w0:World} {b fuel:Nat} {listed L:Array Bool} {a A:Act} {w W:World} {oi:Oper} {v:Value}
theorem tQ(i:Nat)(h:CI P md ops Q S b fuel L A w)
 (hr:(Region.ready md ops listed).contains i=true:=by decide +kernel)(hi:ops[i]? = some oi:=by(simp only [List.getElem?_toArray,List.getElem?_cons_succ,List.getElem?_cons_zero];try rfl))(hw:Region.wanted oi (yielded ops a.tmps)=true:=by rfl)
 (hs:Region.noSelect ops=true:=by kernel_rfl)(hf:Region.free md ops listed i=true:=by decide +kernel)(hb:MX md ops b i=true:=by kernel_rfl)
 (hS:S w:=by assumption)(hQ:∀c a w,Q (.panic c) (a.put oi.dst v) w→Q (.panic c) a w:=by exact fun _ _ _ h=>h)
 (hy:∀w',S w'→(execOp a.eval oi).run P w' = .ok (.value v) w':=by((intro w hSw;(try dsimp only at hSw);go_simp);try with_reducible rfl))
 (hL:listed.setIfInBounds i true=L:=by((try simp only [List.setIfInBounds_toArray,List.set_cons_zero,List.set_cons_succ]);try with_reducible rfl))
 (hA:a.put oi.dst v=A:=by((try simp only [Act.put,List.setIfInBounds_toArray,List.set_cons_zero,List.set_cons_succ]);try with_reducible rfl)):CI P md ops Q S b (fuel+1) listed a w:=by
 subst hL hA;exact Kh hi hs hf hr hb hQ (.inl ⟨hw,hy⟩) hS h
theorem tK(i:Nat)(h:CI P md ops Q (Aa S0 w0) b fuel L A w)
 (hr:(Region.ready md ops listed).contains i=true:=by decide +kernel)(hi:ops[i]? = some oi:=by(simp only [List.getElem?_toArray,List.getElem?_cons_succ,List.getElem?_cons_zero];try rfl))(hw:Region.wanted oi (yielded ops a.tmps)=true:=by rfl)
 (hs:Region.noSelect ops=true:=by kernel_rfl)(hf:Region.free md ops listed i=true:=by decide +kernel)(hb:MX md ops b i=true:=by kernel_rfl)
 (hS:Aa S0 w0 w:=by assumption)(hQ:∀c a w,Q (.panic c) (a.put oi.dst v) w→Q (.panic c) a w:=by exact fun _ _ _ h=>h)
 (hy:∀w',((∀b i,b<w0.heap.size→b∉S0→w'.cell? ⟨b,i,none⟩=w0.cell? ⟨b,i,none⟩)∧(∀b i,b<w0.heap.size→b∉S0→w'.frozen? ⟨b,i,none⟩=w0.frozen? ⟨b,i,none⟩)∧(∀b,b<w0.heap.size→b<w'.heap.size))→(execOp a.eval oi).run P w' = .ok (.value v) w':=by((intro w rSw;go_simp);try with_reducible rfl))
 (hL:listed.setIfInBounds i true=L:=by((try simp only [List.setIfInBounds_toArray,List.set_cons_zero,List.set_cons_succ]);try with_reducible rfl))
 (hA:a.put oi.dst v=A:=by((try simp only [Act.put,List.setIfInBounds_toArray,List.set_cons_zero,List.set_cons_succ]);try with_reducible rfl)):CI P md ops Q (Aa S0 w0) b (fuel+1) listed a w:=by
 subst hL hA;exact Kh hi hs hf hr hb hQ (.inl ⟨hw,fun w' hw'=>hy w' hw'.rl⟩) hS h
theorem tC(i:Nat)(h:∀K':Act→World→Prop,Shut (∀a w,S w→(S w→CI P md ops Q S b fuel L a w)→K' a w)→if Region.wanted oi (yielded ops a.tmps)=true then Oper.wp P oi a w K' Q else K' (a.put oi.dst undef) w)
 (hi:ops[i]? = some oi:=by(simp only [List.getElem?_toArray,List.getElem?_cons_succ,List.getElem?_cons_zero];try rfl))(hr:Region.ready md ops listed = [i]:=by decide +kernel)(hb:(i==b)=false:=by decide)
 (hL:listed.setIfInBounds i true=L:=by((try simp only [List.setIfInBounds_toArray,List.set_cons_zero,List.set_cons_succ]);try with_reducible rfl)):CI P md ops Q S b (fuel+1) listed a w:=by
 subst hL;exact G5 hr bA (.cons hi hb h .nil)
theorem tS(h:∀K':Act→World→Prop,Shut (∀a w,(True→wpAnyH P md ops Q (fun _=>True) fuel L a w)→K' a w)→if Region.wanted oi (yielded ops a.tmps)=true then Oper.wp P oi a w K' Q else K' (a.put oi.dst undef) w)
 (hi:ops[b]? = some oi:=by(simp only [List.getElem?_toArray,List.getElem?_cons_succ,List.getElem?_cons_zero];try rfl))(hr:Region.ready md ops listed = [b]:=by decide +kernel)
 (hL:listed.setIfInBounds b true=L:=by((try simp only [List.setIfInBounds_toArray,List.set_cons_zero,List.set_cons_succ]);try with_reducible rfl)):CI P md ops Q S b (fuel+1) listed a w:=by
 subst hL;exact G5 hr bA (.turn hi h .nil)
theorem tO{K:Act→World→Prop}(hK:Shut (∀a w,S w→(S w→CI P md ops Q S b fuel listed a w)→K a w))(hS:S w)(h:S W→CI P md ops Q S b fuel listed A W)(hA:a=A:=by((try simp only [Act.put,List.setIfInBounds_toArray,List.set_cons_zero,List.set_cons_succ]);try with_reducible rfl))(hW:w=W:=by((try simp only [Act.put,List.setIfInBounds_toArray,List.set_cons_zero,List.set_cons_succ]);try with_reducible rfl)):K a w:=by
 subst hA hW;exact hK.out _ _ hS h
theorem tP{K:Act→World→Prop}(hK:Shut (∀a w,Aa S0 w0 w→(Aa S0 w0 w→CI P md ops Q (Aa S0 w0) b fuel listed a w)→K a w))(hS:Aa S0 w0 w)
 (h:((∀b i,b<w0.heap.size→b∉S0→W.cell? ⟨b,i,none⟩=w0.cell? ⟨b,i,none⟩)∧(∀b i,b<w0.heap.size→b∉S0→W.frozen? ⟨b,i,none⟩=w0.frozen? ⟨b,i,none⟩)∧(∀b,b<w0.heap.size→b<W.heap.size))→Aa S0 w0 W→CI P md ops Q (Aa S0 w0) b fuel listed A W)
 (hA:a=A:=by((try simp only [Act.put,List.setIfInBounds_toArray,List.set_cons_zero,List.set_cons_succ]);try with_reducible rfl))(hW:w=W:=by((try simp only [Act.put,List.setIfInBounds_toArray,List.set_cons_zero,List.set_cons_succ]);try with_reducible rfl)):K a w:=by
 subst hA hW;exact hK.out _ _ hS (h hS.rl)
theorem tT{K:Act→World→Prop}(hK:Shut (∀a w,(True→wpAnyH P md ops Q (fun _=>True) fuel listed a w)→K a w))(h:True→wpAnyH P md ops Q (fun _=>True) fuel listed A W)
 (hA:a=A:=by((try simp only [Act.put,List.setIfInBounds_toArray,List.set_cons_zero,List.set_cons_succ]);try with_reducible rfl))(hW:w=W:=by((try simp only [Act.put,List.setIfInBounds_toArray,List.set_cons_zero,List.set_cons_succ]);try with_reducible rfl)):K a w:=by
 subst hA hW;exact hK.out _ _ h
end
structure AJ{α:Type}(enc:α→List Value)(n:Nat)(w:World)(a:Option Addr)(c:Nat)(xs:List α):Prop where
 le:xs.length≤c
 nil:a=none→c=0
 at_:0<xs.length→∃g off,a=some ⟨g,off,none⟩∧g<w.heap.size∧∀i (h:i<xs.length) j u,(enc xs[i])[j]? = some u→w.cell? ⟨g,off+i*n+j,none⟩=some u
section
variable {α:Type} {enc:α→List Value} {n:Nat} {w w':World} {a:Option Addr} {c:Nat} {xs:List α}
theorem AJ.keeps(h:AJ enc n w a c xs)(hk:Aa [] w w'):AJ enc n w' a c xs:=
 ⟨h.le,h.nil,fun h0=>by
  obtain⟨g,off,ha,hg,hc⟩:=h.at_ h0;exact⟨g,off,ha,AT hg hk.size,fun i hi j u hj=>(hk.cell (p:=⟨g,off+i*n+j,none⟩) hg bA).trans (hc i hi j u hj)⟩⟩
theorem AJ.none_:AJ enc n w none 0 []:=⟨Ap _,fun _=>rfl,fun h=>by simp at h⟩
theorem AJ.isNil(h:AJ enc n w none c xs):xs = []∧c=0:=by
 have hc:=h.nil rfl;have:=h.le;exact⟨Er bB,hc⟩
theorem AJ.take(h:AJ enc n w a c xs)(k:Nat):AJ enc n w a c (xs.take k):=
 ⟨As aF h.le,h.nil,fun h0=>by
  rw [A7] at h0;obtain⟨g,off,ha,hg,hc⟩:=h.at_ bB;refine⟨g,off,ha,hg,fun i hi j u hj=>?_⟩;rw [A7] at hi;rw [List.getElem_take] at hj;exact hc i bB j u hj⟩
theorem IV(hn:∀x,(enc x).length=n):∀(xs:List α) (i:Nat) (h:i<xs.length) (j:Nat),j<n→(xs.flatMap enc)[i*n+j]? = (enc xs[i])[j]?
 | [],i,h,_,_=>by simp at h
 | x::l,0,_,j,hj=>by
  rw [List.flatMap_cons,Nat.zero_mul,BI,List.getElem?_append_left (by rw [hn];exact hj)];rfl
 | x::l,i+1,h,j,hj=>by
  rw [List.flatMap_cons,Dc (by rw [hn,Nat.add_mul];omega),hn,show(i+1)*n+j - n=i*n+j by rw [Nat.add_mul];omega];rw [IV hn l i bK j hj];rfl
theorem Ea(hn:∀x,(enc x).length=n):∀(xs:List α),(xs.flatMap enc).length=xs.length*n
 | []=>by simp
 | x::l=>by rw [List.flatMap_cons,Ag,hn,Ea hn l,Ao,Nat.add_mul];omega
theorem Bn(g off j:Nat):(⟨g,off,none⟩:Addr).add j=⟨g,off+j,none⟩:=by
 unfold Addr.add;split<;>simp_all
theorem AJ.of_row{B:Nat}{e:TypeId}{v:Value}(hn:∀x,(enc x).length=n)(h:w.ownsRow B e n v xs.length (xs.flatMap enc)):
  ∃a c,v = dI a xs.length c∧AJ enc n w a c xs∧(∀g off,a=some ⟨g,off,none⟩→B≤g):=by
 rcases h.2 with⟨rfl,h0⟩ | ⟨g,c,cur,rfl,hb,hg,hle,hc,hs,ht⟩
 ·obtain rfl:=Er h0
  exact⟨none,0,rfl,.none_,fun _ _ e=>by cases e⟩
 ·refine⟨_,c,rfl,⟨hle,(fun e=>by cases e),fun h0=>⟨g,0,rfl,Blk.lt (t:=e) (cs:=cur) hg,fun i hi j u hj=>?_⟩⟩,fun g' off e=>by
   injection e with e;injection e with e1 _ _;rw [← e1];exact hb⟩
  have hjn:j<n:=by have:=(Ad.1 hj).1;rwa [hn] at this
  rw [BI,Blk.cell (t:=e) (cs:=cur) hg];have h1:=IV hn xs i hi j hjn;have hlt:i*n+j<xs.length*n:=by
   have:(i+1)*n≤xs.length*n:=BW n hi;rw [Nat.add_mul] at this;omega
  rw [hj,← ht,Ds,if_pos hlt] at h1;simpa using h1
theorem AJ.flat{p:Addr}(hn:∀x,(enc x).length=n)(h:AJ enc n w (some p) c xs):∀j u,(xs.flatMap enc)[j]? = some u→w.cell? (p.add j)=some u:=fun j u hj=>by
 have hjl:j<xs.length*n:=by have:=(Ad.1 hj).1;rwa [Ea hn] at this
 have hn0:0<n:=by
  rcases Nat.eq_zero_or_pos n with h0 | h0
  ·subst h0;simp at hjl
  ·exact h0
 have hx0:0<xs.length:=by
  rcases Nat.eq_zero_or_pos xs.length with h0 | h0
  ·rw [h0] at hjl;simp at hjl
  ·exact h0
 obtain⟨g,off,e,_,hat⟩:=h.at_ hx0;injection e with e
 subst e;have hi:j / n<xs.length:=Nat.div_lt_of_lt_mul (by rw [Nat.mul_comm];exact hjl);have hjm:j % n<n:=Nat.mod_lt _ hn0;have hjj:j / n*n+j % n=j:=by rw [Nat.mul_comm];exact Nat.div_add_mod j n
 have h2:=IV hn xs (j / n) hi (j % n) hjm;rw [hjj,hj] at h2;have h3:=hat (j / n) hi (j % n) u h2.symm;rw [Bn]
 rwa [show off+j / n*n+j % n=off+j by omega] at h3
theorem AJ.app(P:Program){B:Nat}{v:Value}{ys:List α}{t e:TypeId}{i0:TypeInfo}{z:Value}{bytes:Nat}(ht:P.underlying t=some (.slice e))(hi:P.info? e=some i0)(hz0:i0.zero=some z)(hz1:i0.size=n)(hz2:i0.bytes=bytes)(hzs:z.cells.size=n)(h0:0<n)
 (hn:∀x,(enc x).length=n)(hone:∀x,∀u∈enc x,u.oneCell'=true)
 (hv:w.ownsRow B e n v ys.length (ys.flatMap enc))(hB:B≤w.heap.size)(h:AJ enc n w a c xs)(hm:ys.length+xs.length≤1000000)(hby:bytes≤1000000)(ty:TypeId):
  ∃v' w',(Bo #[t,t] ty #[v,dI a xs.length c]).run P w = .ok v' w'∧w'.ownsRow B e n v' (ys++xs).length ((ys++xs).flatMap enc)∧w.grownBy w' v.ownBlock:=by
 rw [Ag,Bt];cases a with
 | none=>
  obtain⟨rfl,rfl⟩:=h.isNil;have:=run_append_owned_none (P:=P) (w:=w) B t ty e i0 n ht hi v ys.length _ hv;exact⟨v,w,this,by simpa using hv,⟨rfl,rfl,rfl,Ap _,fun _ _ _=>rfl⟩⟩
 | some p=>
  have hb2:(ys.length+xs.length)*bytes≤140737488355328:=As (Nat.mul_le_mul hm hby) bE;obtain⟨v',W',h1,h2,h3,_⟩:=run_append_own (P:=P) w B t ty e i0 z n bytes ht hi hz0 hz1 hz2 hzs h0 v ys.length _ hv p xs.length c (xs.flatMap enc) (Ea hn xs) (h.flat hn) (fun u hu=>by
   obtain⟨x,_,hx⟩:=DL.1 hu;exact hone x u hx) bZ hb2 hB
  exact⟨v',W',h1,h2,h3⟩
end
theorem Ar{P:Program}(w:World){ops:Array Oper}{rest:List Oper}{o:Oper}{a:Act}{Q:Exit→Act→World→Prop}(hgd:o.guard=none)(s x:Operand)(t:TypeId)
 (ho:o.op = .call { callee:=.builtin .append,args:=#[s,x],argTypes:=#[t,t] }){v u v':Value}{w':World}(hs:a.eval s=v)(hx:a.eval x=u)
 (hr:(Bo #[t,t] o.type #[v,u]).run P w = .ok v' w')(h:wpList P ops Q rest (a.put o.dst v') w'):wpList P ops Q (o::rest) a w:=by
 refine wpList_plain hgd fun K hK=>?_;unfold Oper.wp execOp;simp only [ho,resolve,invoke,builtin,Sem.run_bind,Sem.run_pure,Result.andThen_ok,List.map_toArray,Cn,List.map_nil,hs,hx,hr];exact hK _ _ h
def Dj(o:Option TypeInfo)(n:Nat):Bool:=match o with
 | none=>false
 | some i=>match i.zero with
  | none=>false
  | some z=>i.size==n&&z.cells.size==n&&decide (i.bytes≤1000000)
theorem BK{o:Option TypeInfo}{n:Nat}(h:Dj o n=true):∃i z,o=some i∧i.zero=some z∧i.size=n∧z.cells.size=n∧i.bytes≤1000000:=by
 unfold Dj at h;split at h
 ·cases h
 ·rename_i i
  split at h
  ·cases h
  ·rename_i z hz
   simp only [Af,beq_iff_eq,decide_eq_true_eq] at h;exact⟨i,z,rfl,hz,h.1.1,h.1.2,h.2⟩
section
variable {α:Type} {enc:α→List Value} {n:Nat} {w w':World}
theorem AP{B k:Nat}{e:TypeId}{sz:Nat}{v:Value}{xs:List Value}(h:w.ownsRow B e sz v k xs):∀g∈v.ownBlock.toList,B≤g:=fun g hg=>(h.lt g (by simpa using hg)).1
theorem Aa.cellsV(h:Aa [] w w'):∀(p:Addr) (v:Value),w.cell? p=some v→w'.cell? p=some v:=fun p v hv=>(h.cell (A4 w _ hv) bA).trans hv
theorem Aa.own{w0:World}{S:List Nat}(h:Aa [] w0 w)(k:Aa S w w')(hS:∀g∈S,w0.heap.size≤g):Aa [] w0 w':=h.trans' k (fun g hg=>.inr (hS g hg))
theorem AJ.one(w:World)(x:α)(e:TypeId)(_hn:(enc x).length=n):AJ enc n (w.alloc (.cells (enc x).toArray e)) (some ⟨w,0,none⟩) 1 [x]:=
 ⟨by simp,(fun h=>by cases h),fun _=>⟨w,0,rfl,by simp,fun i hi j u hj=>by
  have h0:i=0:=by simpa using hi
  subst h0;rw [(Blk.new w e (enc x).toArray).cell];simpa using hj⟩⟩
theorem C8(P:Program){B:Nat}{v:Value}{ys:List α}{t e:TypeId}(ht:P.underlying t=some (.slice e))(hi:Dj (P.info? e) n=true)(h0:0<n)(hn:∀x,(enc x).length=n)(hone:∀x,∀u∈enc x,u.oneCell'=true)
 (hv:w.ownsRow B e n v ys.length (ys.flatMap enc))(hB:B≤w.heap.size)(x:α)(hm:ys.length+1≤1000000)(ty:TypeId):
  ∃g c w',(Bo #[t,t] ty #[v,dI (some ⟨w,0,none⟩) 1 1]).run P (w.alloc (.cells (enc x).toArray e)) = .ok (dI (some ⟨g,0,none⟩) (ys.length+1) c) w'∧
   w'.ownsRow B e n (dI (some ⟨g,0,none⟩) (ys.length+1) c) (ys++[x]).length ((ys++[x]).flatMap enc)∧Aa v.ownBlock.toList w w'∧B≤g:=by
 obtain⟨i0,z,hi1,hi2,hi3,hi4,hi5⟩:=BK hi;obtain⟨v',w',h1,h2,h3⟩:=AJ.app (c:=1) P ht hi1 hi2 hi3 rfl hi4 h0 hn hone (hv.alloc _) bG (AJ.one w x e (hn x)) bT hi5 ty;rcases h2.2 with⟨_,h4⟩ | ⟨g,c,cur,rfl,hb,hg⟩
 ·simp at h4
 ·rw [show(ys++[x]).length=ys.length+1 by simp] at h1 h2 ⊢
  exact⟨g,c,w',h1,h2,((Aa.refl _ w).alloc _).grown h3 (fun k hk=>.inl Yi),hb⟩
theorem AJ.clone_run(P:Program){p:Addr}{c:Nat}{xs:List α}{t e:TypeId}(ht:P.underlying t=some (.slice e))(hi:Dj (P.info? e) n=true)(h0:0<n)(hn:∀x,(enc x).length=n)(hone:∀x,∀u∈enc x,u.oneCell'=true)
 (h:AJ enc n w (some p) c xs)(hm:xs.length≤1000000)(ty:TypeId):
  ∃a' c' w',(Bo #[t,t] ty #[dI (some ⟨w,0,none⟩) 0 0,dI (some p) xs.length c]).run P (w.alloc (.cells #[] e)) = .ok (.slice a' xs.length c') w'∧
   AJ enc n w' a' c' xs∧w'.ownsRow w.heap.size e n (.slice a' xs.length c') xs.length (xs.flatMap enc)∧Aa [] w w':=by
 obtain⟨i0,z,hi1,hi2,hi3,hi4,hi5⟩:=BK hi;have hrow:(w.alloc (.cells #[] e)).ownsRow w.heap.size e n (dI (some ⟨w,0,none⟩) 0 0) ([]:List α).length (([]:List α).flatMap enc):=by
  have:=World.ownsRow_lit (base:=w.heap.size) (e:=e) (size:=n) w #[] 0 (Ap _) bZ bA;simpa using this
 have hk0:=(Aa.refl [] w).alloc (.cells #[] e);obtain⟨v',w',h1,h2,h3⟩:=AJ.app (ys:=[]) P ht hi1 hi2 hi3 rfl hi4 h0 hn hone hrow bA (h.keeps hk0) bT hi5 ty;rw [AX] at h2;obtain⟨a',c',rfl,hs,_⟩:=AJ.of_row hn h2;exact⟨a',c',w',h1,hs,h2,hk0.grown h3 (fun k hk=>by
  simp [Value.ownBlock] at hk;exact .inr bB)⟩
theorem AJ.row{B:Nat}{e:TypeId}{a:Option Addr}{c:Nat}{xs:List α}(hn:∀x,(enc x).length=n)(h:w.ownsRow B e n (dI a xs.length c) xs.length (xs.flatMap enc)):AJ enc n w a c xs:=by
 obtain⟨a',c',e1,hs,_⟩:=AJ.of_row hn h;injection e1 with e1 _ e2
 subst e1;subst e2;exact hs
end
end
section
structure Sn where
 cur:Int
 items:List ByteArray
 used:Int
structure Po where
 l:List Sn
 next:Int
def QH:Po:=⟨[],0⟩
def FH(b:UInt8):Bool:=decide (32≤b.toNat)&&decide (b.toNat≤126)
def FQ(s:ByteArray):Bool:=s.data.toList.all FH
def Fk(s:ByteArray):Bool:=decide (s.size≤64)&&FQ s
def Dl(l:List ByteArray):Bool:=decide (l.length≤64)&&l.all Fk
def FW(p:Po):Bool:=decide (1≤p.next)&&decide (p.next≤1000000000000)&&decide (p.l.length≤3)
def Iy(next:Int)(met:List Int)(s:Sn):Bool:=!met.contains s.cur&&decide (1≤s.cur)&&decide (s.cur<next)
def Ca(next:Int):List Int→List Sn→Bool
 | _,[]=>true
 | met,s::l=>Iy next met s&&Ca next (met++[s.cur]) l
def Gj(last:Int)(s:Sn):Bool:=decide (last≤s.used)&&decide (s.used≤1000000000000)
def Bq:Int→List Sn→Bool
 | _,[]=>true
 | last,s::l=>Gj last s&&Bq s.used l
def E3(l:List Sn):Bool:=l.all fun s=>Dl s.items
def DC(p:Po):Bool:=FW p&&Ca p.next [] p.l&&Bq 0 p.l&&E3 p.l
def Eb(l:List Sn):Int:=(l.getLast?.map (·.used)).getD 0
def Cr(p:Po)(now:Int):Bool:=DC p&&decide (Eb p.l≤now)&&decide (now≤1000000000000)
def EG(now:Int)(s:Sn):Bool:=decide (now - s.used<1000)
def N9(l:List Sn)(now:Int):List Sn:=if(l.filter (EG now)).length=3 then(l.filter (EG now)).drop 1 else l.filter (EG now)
def I7(p:Po)(items:List ByteArray)(now:Int):Po×Int×Int:=
 if Cr p now&&Dl items&&decide (p.next<1000000000000) then(⟨N9 p.l now++[⟨p.next,items,now⟩],p.next+1⟩,p.next,0) else(QH,0,160)
def Gb(cursor from_ now:Int)(s:Sn):Bool:=s.cur==cursor&&EG now s&&decide (0≤from_)&&decide (from_≤s.items.length)
def CW(f:Sn→Bool):List Sn→Option Nat
 | []=>none
 | s::l=>if f s then some 0 else(CW f l).map (· + 1)
theorem KU{f:Sn→Bool}: ∀ {l:List Sn} {i:Nat},CW f l=some i→∃h:i<l.length,f l[i]=true
 | [],i,h=>by cases h
 | s::l,i,h=>by
  unfold CW at h;split at h
  ·rename_i hf
   cases h;exact⟨by simp,hf⟩
  ·cases hf:CW f l with
   | none=>rw [hf] at h;cases h
   | some j=>
    rw [hf] at h;cases h;obtain⟨h1,h2⟩:=KU hf;exact⟨by simp;omega,by simpa using h2⟩
def Jd(m:Nat)(from_ n:Int):Int:=if from_+n<m then from_+n else m
def GH(p:Po)(cursor from_ n now:Int):Po×List ByteArray×Int×Int:=
 if Cr p now then
  if n<1∨10<n then(QH,[],0,2)
  else match CW (Gb cursor from_ now) p.l with
   | none=>(QH,[],0,161)
   | some i=>match p.l[i]? with
    | none=>(QH,[],0,161)
    | some s=>(⟨p.l.eraseIdx i++[{ s with used:=now }],p.next⟩,(s.items.drop from_.toNat).take (Jd s.items.length from_ n - from_).toNat,
      if Jd s.items.length from_ n=s.items.length then -1 else Jd s.items.length from_ n,0)
 else(QH,[],0,160)
theorem Gt{p:Po}{now:Int}(h:Cr p now=true):p.l.length≤3∧1≤p.next∧p.next≤1000000000000∧now≤1000000000000∧Eb p.l≤now:=by
 simp only [Cr,DC,FW,Af,decide_eq_true_eq] at h;omega
end
section
open Go.RowKit Go.MapKept
section
variable {P:Program} {w:World} {t k e:TypeId} {d:TypeDesc} {b clock:Nat} {es:Array MapEntry} {key val z v:Value}
theorem CY(hm:P.underlying t=some (.map k e))(hd:P.underlying k=some d)(hb:w.heap[b]? = some (.map es clock))(hk:IsKey d key){i:Nat}(hf:AV d key es.toList 0=some (some (i,v))):
  (Dx t (.map (some b)) key true).run P w = .ok (.tuple #[v,dL true]) w∧(Dx t (.map (some b)) key false).run P w = .ok v w:=by
 have h1:(Instr.checkKey es.isEmpty 10000 k key).run P w = .ok () w:=run_checkKey hd hk es.isEmpty 9999;have h2:=run_findKey (P:=P) (w:=w) hd hf;have h3:(getObj b).run P w = .ok (.map es clock) w:=MapKept.run_getObj_map hb;constructor<;>simp [Dx,run_underlying hm,h3,h1,h2,AI]
theorem Eg(hm:P.underlying t=some (.map k e))(hd:P.underlying k=some d)(hb:w.heap[b]? = some (.map es clock))(hk:IsKey d key)(hf:AV d key es.toList 0=some none)(hz:(zeroValue e).run P w = .ok z w):
  (Dx t (.map (some b)) key true).run P w = .ok (.tuple #[z,dL false]) w∧(Dx t (.map (some b)) key false).run P w = .ok z w:=by
 have h1:(Instr.checkKey es.isEmpty 10000 k key).run P w = .ok () w:=run_checkKey hd hk es.isEmpty 9999;have h2:=run_findKey (P:=P) (w:=w) hd hf;have h3:(getObj b).run P w = .ok (.map es clock) w:=MapKept.run_getObj_map hb;constructor<;>simp [Dx,run_underlying hm,h3,h1,h2,hz,AI]
theorem CR(hm:P.underlying t=some (.map k e))(hd:P.underlying k=some d)(hb:w.heap[b]? = some (.map es clock))(hk:IsKey d key)(hf:AV d key es.toList 0=some none):
  (Instr.mapUpdate t (.map (some b)) key val).run P w = .ok () { w with heap:=w.heap.setIfInBounds b (.map (es.push { key,val,born:=clock }) (clock+1)) }:=by
 have h1:(Instr.checkKey false 10000 k key).run P w = .ok () w:=run_checkKey hd hk false 9999;have h2:=run_findKey (P:=P) (w:=w) hd hf;have h3:(getObj b).run P w = .ok (.map es clock) w:=MapKept.run_getObj_map hb;simp [Instr.mapUpdate,run_underlying hm,h3,h1,h2,run_setObj_map _ hb,AI]
theorem En(hm:P.underlying t=some (.map k e))(hd:P.underlying k=some d)(hk:IsKey d key)(hf:AV d key es.toList 0=some none):
  (Instr.mapUpdate t (.map (some w.heap.size)) key val).run P (w.alloc (.map es clock)) = .ok () (w.alloc (.map (es.push { key,val,born:=clock }) (clock+1))):=by
 rw [CR hm hd (heap_alloc_new w _) hk hf];have hp:(w.heap.push (.map es clock)).setIfInBounds w.heap.size (.map (es.push { key,val,born:=clock }) (clock+1))=w.heap.push (.map (es.push { key,val,born:=clock }) (clock+1)):=by
  apply Array.ext';simp [Array.setIfInBounds]
 exact congrArg (fun h=>Result.ok () { w with heap:=h }) hp
end
end
section
open Go.RowKit Go.ChangeShapes
structure Fe(w:World)(tp:TypeId)(gs:List Nat)(e:Nat→Addr):Prop where
 cell:∀g∈gs,w.cell? ⟨g,0,none⟩=some (.iface tp (dJ (some (e g))))
 row:∀g∈gs,∃c t,w.heap[(e g).block]? = some (.cells c t (0,0))
 ne:∀g∈gs,∀g'∈gs,g≠g'→e g≠e g'
theorem Fe.keeps{w w':World}{tp:TypeId}{gs:List Nat}{e:Nat→Addr}{S:List Nat}(h:Fe w tp gs e)(hk:Aa S w w')(hS:∀g∈gs,g∉S∧(e g).block∉S):Fe w' tp gs e:=
 ⟨fun g hg=>(hk.cell (p:=⟨g,0,none⟩) (A4 w _ (h.cell g hg)) (hS g hg).1).trans (h.cell g hg),fun g hg=>by
  obtain⟨c,t,hb⟩:=h.row g hg;exact⟨c,t,(hk.block _ ((Aj.1 hb).1) (hS g hg).2).trans hb⟩,h.ne⟩
theorem Fe.keep{w w':World}{tp:TypeId}{gs:List Nat}{e:Nat→Addr}(h:Fe w tp gs e)(hk:Aa [] w w'):Fe w' tp gs e:=h.keeps hk (fun _ _=>⟨by simp,by simp⟩)
end
section
open Go.RowKit Go.Extern.Stop Go.Stop Go.Extern Go.Extern.ReflectliteType
theorem M8(v:Value)(w:World):(Extern.ReflectliteType.typeOf #[.iface 447 v]).run Tryz.prog w = .ok (.iface 329 (dK #[dJ (some ⟨17,447,none⟩)])) w:=by kernel_rfl
noncomputable def X5:Array Value→Sem Value:=Extern.ReflectliteType.method fun t=>do Extern.Rtype.noPackHeld "Comparable" t;pure (dL (← typeInfo t).comparable)
theorem Il(w:World):(X5 #[dK #[dJ (some ⟨17,447,none⟩)]]).run Tryz.prog w = .ok (dL true) w:=by kernel_rfl
theorem Fi(v:Value)(w:World):(Go.method 670 329 v "Comparable").run Tryz.prog w = .ok (406,v) w:=by kernel_rfl
theorem Rv:(Tryz.prog.info? 447).map (·.comparable)=some true:=by kernel_rfl
theorem Rw:(Tryz.prog.info? 449).map (·.size)=some 1:=by kernel_rfl
theorem Ww(v:Value)(xT:TypeId)(w:World):(Cw (.iface 447 v) xT 491 true).run Tryz.prog w = .ok (.tuple #[.nilIface,dL false]) w:=run_typeAssert_lacksB Tryz.underlying491 bC bC v xT w
theorem OC(v:Value)(xT:TypeId)(w:World):(Cw (.iface 447 v) xT 337 true).run Tryz.prog w = .ok (.tuple #[.nilIface,dL false]) w:=run_typeAssert_lacksB Tryz.underlying337 bC bC v xT w
theorem N1(v:Value)(xT:TypeId)(w:World):(Cw (.iface 447 v) xT 338 true).run Tryz.prog w = .ok (.tuple #[.nilIface,dL false]) w:=run_typeAssert_lacksB Tryz.underlying338 bC bC v xT w
theorem Wx(a:Addr)(w:World):
  Calls Tryz.prog 268 #[.iface 447 (dJ (some a)),.iface 447 (dJ (some a))] w fun e w'=>e = dM (dL true)∧w=w':=by
 obtain⟨i,hi,hcmp⟩:=B6.1 Rv;obtain⟨j,hj,hjs⟩:=B6.1 Rw;have h8:=@run_callFunc_extern Tryz.prog 220 _ Extern.ReflectliteType.typeOf Tryz.func220 bC bC bC bC;have h32:=@run_callFunc_extern Tryz.prog 406 _ X5 Tryz.func406 bC bC bC bC;have tT:=M8;have cT:=Il;have mR:=Fi;have heq:=run_eql_iface_ptr_same (P:=Tryz.prog) w a Tryz.underlying128 Tryz.underlying447 hi hcmp hj;go_enter Tryz.func268,Tryz.ntmps268;go_wp2;refine wp_loop_rounds 1 ?_;rw [rounds_succ];go_wp2;go_ret;exact⟨rfl,rfl⟩
theorem XI(b:Addr)(w:World):
  Calls Tryz.prog 268 #[.nilIface,.iface 447 (dJ (some b))] w fun e w'=>e = dM (dL false)∧w=w':=by
 have hn:=run_eql_iface_nil_left (P:=Tryz.prog) w 447 (dJ (some b)) Tryz.underlying128;go_enter Tryz.func268,Tryz.ntmps268;go_wp2;go_ret;exact⟨rfl,rfl⟩
theorem UD(a b:Addr)(ca cb:Array Value)(ta tb:TypeId)(w:World)(hne:a≠b)(ha:w.heap[a.block]? = some (.cells ca ta (0,0)))(hb:w.heap[b.block]? = some (.cells cb tb (0,0))):
  Calls Tryz.prog 268 #[.iface 447 (dJ (some a)),.iface 447 (dJ (some b))] w fun e w'=>e = dM (dL false)∧w=w':=by
 obtain⟨i,hi,hcmp⟩:=B6.1 Rv;obtain⟨j,hj,hjs⟩:=B6.1 Rw;have h8:=@run_callFunc_extern Tryz.prog 220 _ Extern.ReflectliteType.typeOf Tryz.func220 bC bC bC bC;have h32:=@run_callFunc_extern Tryz.prog 406 _ X5 Tryz.func406 bC bC bC bC;have tT:=M8;have cT:=Il;have mR:=Fi;have nE:=Ww;have uE:=OC;have vE:=N1;have heq:=run_eql_iface_ptr_other (P:=Tryz.prog) w Tryz.underlying128 Tryz.underlying447 hi hcmp hj (by rw [hjs];decide) hne ha hb;go_enter Tryz.func268,Tryz.ntmps268;go_wp2;refine wp_loop_rounds 1 ?_;rw [rounds_succ];go_wp2;go_ret;exact⟨rfl,rfl⟩
def GZ(e:Nat→Addr):Option Nat→Value
 | none=>.nilIface
 | some g=>.iface 447 (dJ (some (e g)))
theorem Dk{w:World}{gs:List Nat}{e:Nat→Addr}(h:Fe w 447 gs e)(x:Option Nat)(g:Nat)(hx:∀y,x=some y→y∈gs)(hg:g∈gs)(b:Bool)(hb:(x==some g)=b):
  Calls Tryz.prog 268 #[GZ e x,.iface 447 (dJ (some (e g)))] w fun r w'=>r = dM (dL b)∧w=w':=by
 subst hb;cases x with
 | none=>exact XI _ w
 | some y=>
  by_cases hy:y=g
  ·subst hy
   have:(some y==some y)=true:=by simp
   rw [this];exact Wx _ w
  ·have:(some y==some g)=false:=by simp [hy]
   rw [this];obtain⟨c1,t1,h1⟩:=h.row y (hx y rfl);obtain⟨c2,t2,h2⟩:=h.row g hg;exact UD _ _ _ _ _ _ w (h.ne y (hx y rfl) g hg hy) h1 h2
end
section
open Go.RowKit Go.Extern.Stop Go.Stop Go.Extern
def Et(w:World):Prop:=w.cell? ⟨0,0,none⟩=some (.iface 329 (dK #[dJ (some ⟨17,128,none⟩)]))
theorem Et.keeps{S:List Nat}{w w':World}(h:Et w)(hk:Aa S w w')(hn:0∉S):Et w':=(hk.cell (p:=⟨0,0,none⟩) (A4 w _ h) hn).trans h
theorem PM(t:Value)(w:World):
  Calls Tryz.prog 106 #[.nilIface,t] w fun e w'=>e = dM (dL false)∧w=w':=by
 go_enter Tryz.func106,Tryz.ntmps106;go_wp2;go_ret;exact⟨rfl,rfl⟩
theorem dA(z:Sem Value)(f:TypeId→Addr→Nat→Nat→Sem Value)(v:Value):
  ReflectliteValue.method z f #[v]=(do match ← ReflectliteValue.parts v with | none=>z | some (t,a,fl)=>f t a fl (fl % 32)):=rfl
theorem dF(v x:Value):ReflectliteValue.set #[v,x]=(do
  let(some (dst,a,fl),some (src,b,_)):=(← ReflectliteValue.parts v,← ReflectliteValue.parts x)
   | unsupported (.noEntry "extern/(internal/reflectlite.Value).Set.zeroValue")
  if fl / ReflectliteValue.flagAddr % 2==0 then unsupported (.noEntry "extern/(internal/reflectlite.Value).Set.unaddressable")
  let val ← loadVar src b
  if ← Rtype.directlyAssignable dst src then storeVar dst a val
  else if ← Rtype.implements dst src then
   if(← Rtype.kind src)==20 then
    match val with
    | .nilIface=>unsupported (.noEntry "extern/reflectlite: a nil value of one interface type handed on as a value of another")
    | _=>storeVar dst a val
   else storeVar dst a (.iface src val)
  else panicString ("reflectlite.Set: value of type " ++ (← Rtype.spelt src) ++ " is not assignable to type " ++ (← Rtype.spelt dst))
  pure (.tuple #[])):=rfl
def Ko(s p:Nat):Prop:=(s=208∧p=210)∨(s=146∧p=226)∨(s=239∧p=240)∨(s=430∧p=433)
theorem Oy{sT pT:Nat}(T:Ko sT pT)(t:Addr)(w:World):(ReflectliteValue.unpack (.iface pT (dJ (some t)))).run Tryz.prog w
  = .ok (dK #[dJ (some ⟨17,pT,none⟩),dJ (some ⟨w,0,none⟩),.int .u64 150]) (w.alloc (.cells #[dJ (some t)] pT)):=by rcases id T with⟨rfl,rfl⟩ | ⟨rfl,rfl⟩ | ⟨rfl,rfl⟩ | ⟨rfl,rfl⟩<;>kernel_rfl
theorem U3{sT pT:Nat}(T:Ko sT pT)(a:Addr)(w:World):(ReflectliteValue.methodAny (ReflectliteValue.valueError "reflectlite.Value.Type" 0) (fun t _ _ _=>ReflectliteType.toType t) #[dK #[dJ (some ⟨17,pT,none⟩),dJ (some a),.int .u64 150]]).run Tryz.prog w
  = .ok (.iface 329 (dK #[dJ (some ⟨17,pT,none⟩)])) w:=by rcases id T with⟨rfl,rfl⟩ | ⟨rfl,rfl⟩ | ⟨rfl,rfl⟩ | ⟨rfl,rfl⟩<;>kernel_rfl
theorem Mb(h:Value)(w:World):(Go.method 670 329 (dK #[h]) "Kind").run Tryz.prog w = .ok (394,h) w:=by kernel_rfl
theorem U0{sT pT:Nat}(T:Ko sT pT)(w:World):((ReflectliteType.abiMethod fun t=>(fun a:Nat=>dH IntKind.u8 (a:Int)) <$> Rtype.kind t) #[dJ (some ⟨17,pT,none⟩)]).run Tryz.prog w = .ok (.int .u8 22) w:=by rcases id T with⟨rfl,rfl⟩ | ⟨rfl,rfl⟩ | ⟨rfl,rfl⟩ | ⟨rfl,rfl⟩<;>kernel_rfl
theorem U1{sT pT:Nat}(T:Ko sT pT)(w:World):((ReflectliteType.abiMethod fun t=>(fun a:Nat=>dH IntKind.u8 (a:Int)) <$> Rtype.kind t) #[dJ (some ⟨17,sT,none⟩)]).run Tryz.prog w = .ok (.int .u8 25) w:=by rcases id T with⟨rfl,rfl⟩ | ⟨rfl,rfl⟩ | ⟨rfl,rfl⟩ | ⟨rfl,rfl⟩<;>kernel_rfl
theorem M2{sT pT:Nat}(T:Ko sT pT)(a:Addr)(w:World):(ReflectliteValue.parts (dK #[dJ (some ⟨17,pT,none⟩),dJ (some a),.int .u64 150])).run Tryz.prog w = .ok (some (pT,a,150)) w:=by rcases id T with⟨rfl,rfl⟩ | ⟨rfl,rfl⟩ | ⟨rfl,rfl⟩ | ⟨rfl,rfl⟩<;>kernel_rfl
theorem Sp{sT pT:Nat}(T:Ko sT pT)(a p:Addr)(W:World)(ha:W.cell? a=some (dJ (some p))):
  (ReflectliteValue.method (ReflectliteValue.valueError "reflectlite.Value.IsNil" 0) ReflectliteValue.isNil #[dK #[dJ (some ⟨17,pT,none⟩),dJ (some a),.int .u64 150]]).run Tryz.prog W = .ok (dL false) W:=by
 rcases id T with⟨rfl,rfl⟩ | ⟨rfl,rfl⟩ | ⟨rfl,rfl⟩ | ⟨rfl,rfl⟩
 all_goals
  rw [dA];simp only [Sem.run_bind,M2 T,AI];simp [ReflectliteValue.isNil,loadVar,isAgg,underlying,Tryz.underlying210,Tryz.underlying226,Tryz.underlying240,Tryz.underlying433,ha,AI]
theorem Ma(h:Value)(w:World):(Go.method 670 329 (dK #[h]) "Elem").run Tryz.prog w = .ok (407,dK #[h]) w:=by kernel_rfl
theorem Ii(h:Value)(w:World):(Go.method 670 329 (dK #[h]) "Implements").run Tryz.prog w = .ok (408,dK #[h]) w:=by kernel_rfl
theorem GP(h:Value)(w:World):(Go.method 670 329 (dK #[h]) "AssignableTo").run Tryz.prog w = .ok (405,dK #[h]) w:=by kernel_rfl
theorem Uz{sT pT:Nat}(T:Ko sT pT)(w:World):(ReflectliteType.method ReflectliteType.elem #[dK #[dJ (some ⟨17,pT,none⟩)]]).run Tryz.prog w = .ok (.iface 329 (dK #[dJ (some ⟨17,sT,none⟩)])) w:=by rcases id T with⟨rfl,rfl⟩ | ⟨rfl,rfl⟩ | ⟨rfl,rfl⟩ | ⟨rfl,rfl⟩<;>kernel_rfl
theorem KS{sT pT:Nat}(T:Ko sT pT)(w:World):(ReflectliteType.relation "Implements" ReflectliteType.implements_ #[dK #[dJ (some ⟨17,sT,none⟩)],.iface 329 (dK #[dJ (some ⟨17,128,none⟩)])]).run Tryz.prog w = .ok (dL true) w:=by rcases id T with⟨rfl,rfl⟩ | ⟨rfl,rfl⟩ | ⟨rfl,rfl⟩ | ⟨rfl,rfl⟩<;>kernel_rfl
theorem Qm{sT pT:Nat}(T:Ko sT pT)(v:Value)(w:World):(ReflectliteType.typeOf #[.iface sT v]).run Tryz.prog w = .ok (.iface 329 (dK #[dJ (some ⟨17,sT,none⟩)])) w:=by rcases id T with⟨rfl,rfl⟩ | ⟨rfl,rfl⟩ | ⟨rfl,rfl⟩ | ⟨rfl,rfl⟩<;>kernel_rfl
theorem KR{sT pT:Nat}(T:Ko sT pT)(w:World):(ReflectliteType.relation "AssignableTo" ReflectliteType.assignableTo #[dK #[dJ (some ⟨17,sT,none⟩)],.iface 329 (dK #[dJ (some ⟨17,sT,none⟩)])]).run Tryz.prog w = .ok (dL true) w:=by rcases id T with⟨rfl,rfl⟩ | ⟨rfl,rfl⟩ | ⟨rfl,rfl⟩ | ⟨rfl,rfl⟩<;>kernel_rfl
theorem Oz{sT pT:Nat}(T:Ko sT pT)(n:Int)(w:World):(ReflectliteValue.unpack (.iface sT (dK #[dH dN n]))).run Tryz.prog w
  = .ok (dK #[dJ (some ⟨17,sT,none⟩),dJ (some ⟨w,0,none⟩),.int .u64 153]) (w.alloc (.cells #[dH dN n] sT)):=by rcases id T with⟨rfl,rfl⟩ | ⟨rfl,rfl⟩ | ⟨rfl,rfl⟩ | ⟨rfl,rfl⟩<;>kernel_rfl
theorem Qk{sT pT:Nat}(T:Ko sT pT)(w:World):(Rtype.elem? pT).run Tryz.prog w = .ok (some sT) w:=by rcases id T with⟨rfl,rfl⟩ | ⟨rfl,rfl⟩ | ⟨rfl,rfl⟩ | ⟨rfl,rfl⟩<;>kernel_rfl
theorem X9{sT pT:Nat}(T:Ko sT pT)(p:Addr)(w:World):(ReflectliteValue.mk sT p ReflectliteValue.flagAddr).run Tryz.prog w = .ok (dK #[dJ (some ⟨17,sT,none⟩),dJ (some p),.int .u64 409]) w:=by rcases id T with⟨rfl,rfl⟩ | ⟨rfl,rfl⟩ | ⟨rfl,rfl⟩ | ⟨rfl,rfl⟩<;>kernel_rfl
theorem So{sT pT:Nat}(T:Ko sT pT)(a p:Addr)(W:World)(ha:W.cell? a=some (dJ (some p))):
  (ReflectliteValue.method (ReflectliteValue.valueError "reflectlite.Value.Elem" 0) ReflectliteValue.elem #[dK #[dJ (some ⟨17,pT,none⟩),dJ (some a),.int .u64 150]]).run Tryz.prog W
   = .ok (dK #[dJ (some ⟨17,sT,none⟩),dJ (some p),.int .u64 409]) W:=by
 rcases id T with⟨rfl,rfl⟩ | ⟨rfl,rfl⟩ | ⟨rfl,rfl⟩ | ⟨rfl,rfl⟩
 all_goals
  rw [dA];simp only [Sem.run_bind,M2 T,AI];simp [ReflectliteValue.elem,loadVar,isAgg,underlying,Tryz.underlying210,Tryz.underlying226,Tryz.underlying240,Tryz.underlying433,ha,AI,Qk T,X9 T]
theorem Ql{sT pT:Nat}(T:Ko sT pT)(a:Addr)(w:World):(ReflectliteValue.parts (dK #[dJ (some ⟨17,sT,none⟩),dJ (some a),.int .u64 409])).run Tryz.prog w = .ok (some (sT,a,409)) w:=by rcases id T with⟨rfl,rfl⟩ | ⟨rfl,rfl⟩ | ⟨rfl,rfl⟩ | ⟨rfl,rfl⟩<;>kernel_rfl
theorem Sq{sT pT:Nat}(T:Ko sT pT)(a:Addr)(w:World):(ReflectliteValue.parts (dK #[dJ (some ⟨17,sT,none⟩),dJ (some a),.int .u64 153])).run Tryz.prog w = .ok (some (sT,a,153)) w:=by rcases id T with⟨rfl,rfl⟩ | ⟨rfl,rfl⟩ | ⟨rfl,rfl⟩ | ⟨rfl,rfl⟩<;>kernel_rfl
theorem Qj{sT pT:Nat}(T:Ko sT pT)(w:World):(Rtype.directlyAssignable sT sT).run Tryz.prog w = .ok true w:=by rcases id T with⟨rfl,rfl⟩ | ⟨rfl,rfl⟩ | ⟨rfl,rfl⟩ | ⟨rfl,rfl⟩<;>kernel_rfl
theorem U2{sT pT:Nat}(T:Ko sT pT)(b:Nat)(n:Int)(W:World)(hb:W.cell? ⟨b,0,none⟩=some (dH dN n)):(loadVar sT ⟨b,0,none⟩).run Tryz.prog W = .ok (dK #[dH dN n]) W:=by
 rcases id T with⟨rfl,rfl⟩ | ⟨rfl,rfl⟩ | ⟨rfl,rfl⟩ | ⟨rfl,rfl⟩
 all_goals
  simp [loadVar,isAgg,underlying,Tryz.underlying208,Tryz.underlying146,Tryz.underlying239,Tryz.underlying430,AI];have hc:=run_loadCells_list (P:=Tryz.prog) (w:=W) ⟨b,0,none⟩ [dH dN n] (fun j v hj=>by
   match j,hj with
   | 0,hj=>cases hj;simpa [Addr.add] using hb)
  simp only [Ao,Eh,BI] at hc;simp [hc]
theorem Wq{sT pT:Nat}(T:Ko sT pT)(ta:Addr)(b:Nat)(n:Int)(old:Value)(W:World)(hb:W.cell? ⟨b,0,none⟩=some (dH dN n))(ht:W.cell? ta=some old)(hf:W.frozen? ta=false):
  (ReflectliteValue.set #[dK #[dJ (some ⟨17,sT,none⟩),dJ (some ta),.int .u64 409],dK #[dJ (some ⟨17,sT,none⟩),dJ (some ⟨b,0,none⟩),.int .u64 153]]).run Tryz.prog W
   = .ok (.tuple #[]) (W.setCell ta (dH dN n)):=by
 rcases id T with⟨rfl,rfl⟩ | ⟨rfl,rfl⟩ | ⟨rfl,rfl⟩ | ⟨rfl,rfl⟩
 all_goals
  rw [dF];simp only [Sem.run_bind,Ql T,Sq T,AI];simp [ReflectliteValue.flagAddr,U2 T _ _ W hb,AI,Qj T,storeVar,Value.cells,storeCells,Addr.add];rw [run_store Tryz.prog W ta _ _ bD];simp [ht,hf]
theorem Nn{sT pT:Nat}(T:Ko sT pT)(n:Int)(t:Addr)(old:Value)(w:World)(hg:Et w)(ht0:w.cell? t=some old)(hf0:w.frozen? t=false):
  Calls Tryz.prog 106 #[.iface sT (dK #[dH dN n]),.iface pT (dJ (some t))] w fun ev w'=>ev = dM (dL true)∧w'=((((w.alloc (.cells #[dJ (some t)] pT)).alloc (.cells #[dJ (some ⟨17,pT,none⟩),dJ (some ⟨w,0,none⟩),.int .u64 150] 270)).alloc (.cells #[dJ (some ⟨17,pT,none⟩),dJ (some ⟨w,0,none⟩),.int .u64 150] 270)).alloc (.cells #[dH dN n] sT)).setCell t (dH dN n):=by
 unfold Et at hg;have h6:=@run_callFunc_extern Tryz.prog 163 _ (fun args=>ReflectliteValue.unpack (args.getD 0 (.tuple #[]))) Tryz.func163 bC bC bC bC;have h7:=@run_callFunc_extern Tryz.prog 164 _ (ReflectliteValue.methodAny (ReflectliteValue.valueError "reflectlite.Value.Type" 0) (fun t _ _ _=>ReflectliteType.toType t)) Tryz.func164 bC bC bC bC;have h8:=@run_callFunc_extern Tryz.prog 165 _ (ReflectliteValue.method (ReflectliteValue.valueError "reflectlite.Value.IsNil" 0) ReflectliteValue.isNil) Tryz.func165 bC bC bC bC;have h27:=@run_callFunc_extern Tryz.prog 394 _ (ReflectliteType.abiMethod fun t=>do pure (.int .u8 (← Rtype.kind t))) Tryz.func394 bC bC bC bC;have h37:=@run_callFunc_extern Tryz.prog 407 _ (ReflectliteType.method ReflectliteType.elem) Tryz.func407 bC bC bC bC;have h38:=@run_callFunc_extern Tryz.prog 408 _ (ReflectliteType.relation "Implements" ReflectliteType.implements_) Tryz.func408 bC bC bC bC;have h10:=@run_callFunc_extern Tryz.prog 220 _ ReflectliteType.typeOf Tryz.func220 bC bC bC bC;have h35:=@run_callFunc_extern Tryz.prog 405 _ (ReflectliteType.relation "AssignableTo" ReflectliteType.assignableTo) Tryz.func405 bC bC bC bC;have h11:=@run_callFunc_extern Tryz.prog 221 _ (ReflectliteValue.method (ReflectliteValue.valueError "reflectlite.Value.Elem" 0) ReflectliteValue.elem) Tryz.func221 bC bC bC bC;have h12:=@run_callFunc_extern Tryz.prog 222 _ ReflectliteValue.set Tryz.func222 bC bC bC bC;have tO:=Qm T;have mA:=GP;have a25:=KR T;have v25:=Oz T;have f6:=Oy T;have f7:=U3 T;have mK:=Mb;have mE:=Ma;have mI:=Ii;have k27:=U0 T;have k25:=U1 T;have e27:=Uz T;have i25:=KS T;have n8:=Sp T ⟨w,0,none⟩ t ((w.alloc (.cells #[dJ (some t)] pT)).alloc (.cells #[dJ (some ⟨17,pT,none⟩),dJ (some ⟨w,0,none⟩),.int .u64 150] 270)) bA;have hlt:0<w.heap.size:=A4 w _ hg;have hg2:((w.alloc (.cells #[dJ (some t)] pT)).alloc (.cells #[dJ (some ⟨17,pT,none⟩),dJ (some ⟨w,0,none⟩),.int .u64 150] 270)).cell? ⟨0,0,none⟩=some (.iface 329 (dK #[dJ (some ⟨17,128,none⟩)])):=by
  rw [BD _ _ ⟨0,0,none⟩ (by simp<;>omega),BD _ _ ⟨0,0,none⟩ hlt];exact hg
 have htl:t.block<w.heap.size:=A4 w _ ht0;have el:=So T ⟨w,0,none⟩ t (((w.alloc (.cells #[dJ (some t)] pT)).alloc (.cells #[dJ (some ⟨17,pT,none⟩),dJ (some ⟨w,0,none⟩),.int .u64 150] 270)).alloc (.cells #[dJ (some ⟨17,pT,none⟩),dJ (some ⟨w,0,none⟩),.int .u64 150] 270)) (by rw [BD _ _ ⟨w,0,none⟩ bG];simp);have st:=Wq T t (w.heap.size+1+1+1) n old ((((w.alloc (.cells #[dJ (some t)] pT)).alloc (.cells #[dJ (some ⟨17,pT,none⟩),dJ (some ⟨w,0,none⟩),.int .u64 150] 270)).alloc (.cells #[dJ (some ⟨17,pT,none⟩),dJ (some ⟨w,0,none⟩),.int .u64 150] 270)).alloc (.cells #[dH dN n] sT))
  (by rw [World.cell?_alloc_at _ _ _ _ bA];rfl)
  (by rw [BD _ _ t bG,BD _ _ t bG,BD _ _ t bG,BD _ _ t htl];exact ht0)
  (by rw [World.frozen?_alloc_old _ _ t bG,World.frozen?_alloc_old _ _ t bG,World.frozen?_alloc_old _ _ t bG,World.frozen?_alloc_old _ _ t (Nat.ne_of_lt htl)];exact hf0)
 go_enter Tryz.func106,Tryz.ntmps106;go_wp2;refine wp_loop_rounds 1 ?_;rw [rounds_succ];go_wp2;go_ret;exact⟨rfl,rfl⟩
end
section
namespace ErO
open Go.RowKit Go.Extern.Stop Go.Stop Go.Extern
theorem told_nil(w:World):Calls Tryz.prog 49 #[.nilIface] w fun e w'=>e = dM (dH dN 0)∧Aa [] w w':=by
 go_enter Tryz.func49,Tryz.ntmps49;go_wp2_with (go_at_call 106;refine(PM _ _).mono ?_;rintro e w' ⟨rfl,rfl⟩);go_ret;exact⟨rfl,(Aa.refl [] w).alloc _⟩
theorem told_why(n:Int)(w:World)(hg:Et w):Calls Tryz.prog 49 #[.iface 208 (dK #[dH dN n])] w fun e w'=>e = dM (dH dN n)∧Aa [] w w':=by
 have hE:Et (w.alloc (.cells #[dH dN 0] 208)):=hg.keeps ((Aa.refl [] w).alloc _) bA;have hb:=Blk.new w 208 #[dH dN 0];have HE:=lH hE;have HB:=lH hb;clear hE hb hg;go_enter Tryz.func49,Tryz.ntmps49;go_wp2_with (fail);refine(Nn (sT:=208) (pT:=210) (by simp [Ko]) n ⟨w,0,none⟩ _ _ HE.out (HB.out.cell 0) (HB.out.frozen 0)).mono ?_;rintro e w' ⟨rfl,hw⟩;have hc:w'.cell? ⟨w,0,none⟩=some (dH dN n):=by
  rw [hw];exact((((HB.out.alloc _).alloc _).alloc _).alloc _ |>.set_ 0 (dH dN n)).cell 0
 have hk:Aa [] w w':=by
  rw [hw];exact((((((Aa.refl [] w).alloc _).alloc _).alloc _).alloc _).alloc _).setCell (p:=⟨w,0,none⟩) (.inr (Ap _)) _
 have HK:=lH hk;clear hw hk;go_wp2;go_ret;exact⟨rfl,HK.out⟩
end ErO
namespace ErG
open Go.RowKit Go.Extern.Stop Go.Stop Go.Extern
theorem told_nil(w:World):Calls Tryz.prog 72 #[.nilIface] w fun e w'=>e = dM (dH dN 0)∧Aa [] w w':=by
 go_enter Tryz.func72,Tryz.ntmps72;go_wp2_with (go_at_call 106;refine(PM _ _).mono ?_;rintro e w' ⟨rfl,rfl⟩);go_ret;exact⟨rfl,(Aa.refl [] w).alloc _⟩
theorem told_why(n:Int)(w:World)(hg:Et w):Calls Tryz.prog 72 #[.iface 239 (dK #[dH dN n])] w fun e w'=>e = dM (dH dN n)∧Aa [] w w':=by
 have hE:Et (w.alloc (.cells #[dH dN 0] 239)):=hg.keeps ((Aa.refl [] w).alloc _) bA;have hb:=Blk.new w 239 #[dH dN 0];have HE:=lH hE;have HB:=lH hb;clear hE hb hg;go_enter Tryz.func72,Tryz.ntmps72;go_wp2_with (fail);refine(Nn (sT:=239) (pT:=240) (by simp [Ko]) n ⟨w,0,none⟩ _ _ HE.out (HB.out.cell 0) (HB.out.frozen 0)).mono ?_;rintro e w' ⟨rfl,hw⟩;have hc:w'.cell? ⟨w,0,none⟩=some (dH dN n):=by
  rw [hw];exact((((HB.out.alloc _).alloc _).alloc _).alloc _ |>.set_ 0 (dH dN n)).cell 0
 have hk:Aa [] w w':=by
  rw [hw];exact((((((Aa.refl [] w).alloc _).alloc _).alloc _).alloc _).alloc _).setCell (p:=⟨w,0,none⟩) (.inr (Ap _)) _
 have HK:=lH hk;clear hw hk;go_wp2;go_ret;exact⟨rfl,HK.out⟩
end ErG
end
end Go.Proofs.YtcjdkbgdahgjbaaGreatDoor
