/- Proofs by one and the same word, under short names. -/
import Derived.KernelRfl
import Derived.Lib.Hide
set_option linter.all false
namespace Go.Proofs.YtncebikgoleolaaGreatDoor
inductive Am|mk (b i:Nat)
abbrev A_:=Am.mk
instance(b i:Nat):CoeDep Am (A_ b i) Addr:=⟨⟨b,i,none⟩⟩
instance(b i:Nat):CoeDep (Option Am) (some (A_ b i)) (Option Addr):=⟨some ⟨b,i,none⟩⟩
inductive A1m|mk (w:World)(i:Nat)
abbrev A1:=A1m.mk
instance(w:World)(i:Nat):CoeDep A1m (A1 w i) Addr:=⟨⟨w.heap.size+1,i,none⟩⟩
instance(w:World)(i:Nat):CoeDep (Option A1m) (some (A1 w i)) (Option Addr):=⟨some ⟨w.heap.size+1,i,none⟩⟩
inductive A2m|mk (w:World)(i:Nat)
abbrev A2:=A2m.mk
instance(w:World)(i:Nat):CoeDep A2m (A2 w i) Addr:=⟨⟨w.heap.size+1+1,i,none⟩⟩
instance(w:World)(i:Nat):CoeDep (Option A2m) (some (A2 w i)) (Option Addr):=⟨some ⟨w.heap.size+1+1,i,none⟩⟩
inductive A3m|mk (w:World)(i:Nat)
abbrev A3:=A3m.mk
instance(w:World)(i:Nat):CoeDep A3m (A3 w i) Addr:=⟨⟨w.heap.size+1+1+1,i,none⟩⟩
instance(w:World)(i:Nat):CoeDep (Option A3m) (some (A3 w i)) (Option Addr):=⟨some ⟨w.heap.size+1+1+1,i,none⟩⟩
inductive A4m|mk (w:World)(i:Nat)
abbrev A4:=A4m.mk
instance(w:World)(i:Nat):CoeDep A4m (A4 w i) Addr:=⟨⟨w.heap.size+1+1+1+1,i,none⟩⟩
instance(w:World)(i:Nat):CoeDep (Option A4m) (some (A4 w i)) (Option Addr):=⟨some ⟨w.heap.size+1+1+1+1,i,none⟩⟩
inductive A5m|mk (w:World)(i:Nat)
abbrev A5:=A5m.mk
instance(w:World)(i:Nat):CoeDep A5m (A5 w i) Addr:=⟨⟨w.heap.size+1+1+1+1+1,i,none⟩⟩
instance(w:World)(i:Nat):CoeDep (Option A5m) (some (A5 w i)) (Option Addr):=⟨some ⟨w.heap.size+1+1+1+1+1,i,none⟩⟩
inductive p_m|mk (w:Nat)(i:Nat)
abbrev p_:=p_m.mk
instance(w:Nat)(i:Nat):CoeDep p_m (p_ w i) Value:=⟨.pointer (some ⟨w,i,none⟩)⟩
instance(w:Nat)(i:Nat):CoeDep (Option p_m) (some (p_ w i)) (Option Value):=⟨some (.pointer (some ⟨w,i,none⟩))⟩
inductive p1m|mk (w:World)(i:Nat)
abbrev p1:=p1m.mk
instance(w:World)(i:Nat):CoeDep p1m (p1 w i) Value:=⟨.pointer (some ⟨w.heap.size+1,i,none⟩)⟩
instance(w:World)(i:Nat):CoeDep (Option p1m) (some (p1 w i)) (Option Value):=⟨some (.pointer (some ⟨w.heap.size+1,i,none⟩))⟩
inductive p2m|mk (w:World)(i:Nat)
abbrev p2:=p2m.mk
instance(w:World)(i:Nat):CoeDep p2m (p2 w i) Value:=⟨.pointer (some ⟨w.heap.size+1+1,i,none⟩)⟩
instance(w:World)(i:Nat):CoeDep (Option p2m) (some (p2 w i)) (Option Value):=⟨some (.pointer (some ⟨w.heap.size+1+1,i,none⟩))⟩
inductive p3m|mk (w:World)(i:Nat)
abbrev p3:=p3m.mk
instance(w:World)(i:Nat):CoeDep p3m (p3 w i) Value:=⟨.pointer (some ⟨w.heap.size+1+1+1,i,none⟩)⟩
instance(w:World)(i:Nat):CoeDep (Option p3m) (some (p3 w i)) (Option Value):=⟨some (.pointer (some ⟨w.heap.size+1+1+1,i,none⟩))⟩
inductive p4m|mk (w:World)(i:Nat)
abbrev p4:=p4m.mk
instance(w:World)(i:Nat):CoeDep p4m (p4 w i) Value:=⟨.pointer (some ⟨w.heap.size+1+1+1+1,i,none⟩)⟩
instance(w:World)(i:Nat):CoeDep (Option p4m) (some (p4 w i)) (Option Value):=⟨some (.pointer (some ⟨w.heap.size+1+1+1+1,i,none⟩))⟩
inductive p5m|mk (w:World)(i:Nat)
abbrev p5:=p5m.mk
instance(w:World)(i:Nat):CoeDep p5m (p5 w i) Value:=⟨.pointer (some ⟨w.heap.size+1+1+1+1+1,i,none⟩)⟩
instance(w:World)(i:Nat):CoeDep (Option p5m) (some (p5 w i)) (Option Value):=⟨some (.pointer (some ⟨w.heap.size+1+1+1+1+1,i,none⟩))⟩
inductive p6m|mk (w:World)(i:Nat)
abbrev p6:=p6m.mk
instance(w:World)(i:Nat):CoeDep p6m (p6 w i) Value:=⟨.pointer (some ⟨w.heap.size+1+1+1+1+1+1,i,none⟩)⟩
instance(w:World)(i:Nat):CoeDep (Option p6m) (some (p6 w i)) (Option Value):=⟨some (.pointer (some ⟨w.heap.size+1+1+1+1+1+1,i,none⟩))⟩
inductive p7m|mk (w:World)(i:Nat)
abbrev p7:=p7m.mk
instance(w:World)(i:Nat):CoeDep p7m (p7 w i) Value:=⟨.pointer (some ⟨w.heap.size+1+1+1+1+1+1+1,i,none⟩)⟩
instance(w:World)(i:Nat):CoeDep (Option p7m) (some (p7 w i)) (Option Value):=⟨some (.pointer (some ⟨w.heap.size+1+1+1+1+1+1+1,i,none⟩))⟩
inductive Im|mk (x:Int)
abbrev I_:=Im.mk
instance(x:Int):CoeDep Im (I_ x) Value:=⟨.int .i64 x⟩
instance(x:Int):CoeDep (Option Im) (some (I_ x)) (Option Value):=⟨some (.int .i64 x)⟩
theorem qC{α:Type _}{a:Option α}{b c:α}(h:a=some b)(k:b=c:=by kernel_rfl):a=some c:=k▸h
def Hi(p:Prop):Prop:=p
theorem Hi.o{p:Prop}(h:Hi p):p:=h
theorem Hi.out{p:Prop}(h:Hi p):p:=h
instance:Coe World Nat:=⟨fun w=>w.heap.size⟩
theorem lH{p:Prop}(h:p):Hi p:=h
theorem eX{α:Sort _}(a:α):∃x,a=x:=⟨a,rfl⟩
theorem bA{p:Prop}(h:p:=by simp):p:=h
theorem bB{p:Prop}(h:p:=by omega):p:=h
theorem bC{p:Prop}(h:p:=by kernel_rfl):p:=h
theorem bD{p:Prop}(h:p:=by rfl):p:=h
theorem bE{p:Prop}(h:p:=by decide):p:=h
theorem bF{p:Prop}(h:p:=by exact (fun y hy=>by simp only [List.mem_cons,List.not_mem_nil,or_false] at hy;omega)):p:=h
theorem bG{p:Prop}(h:p:=by simp;omega):p:=h
theorem bH{p:Prop}(h:p:=by dsimp only;omega):p:=h
theorem bI{p:Prop}(h:p:=by simp only [List.mem_cons,List.not_mem_nil,or_false];omega):p:=h
theorem bJ{p:Prop}(h:p:=by (repeat with_reducible refine Aa.setCell ?_ (.inl (by simp)) _);with_reducible exact Aa.refl _ _):p:=h
theorem bK{p:Prop}(h:p:=by simpa using h):p:=h
theorem bL{p:Prop}(h:p:=by rw [HN.o];exact Nat.le_refl _):p:=h
theorem bM{p:Prop}(h:p:=by exact (fun y hy=>by have:=hS y hy;omega)):p:=h
theorem bN{p:Prop}(h:p:=by exact (fun y hy=>by have:=hQ y hy;omega)):p:=h
theorem bO{p:Prop}(h:p:=by rw [HN.o];exact hlt):p:=h
theorem bP{p:Prop}(h:p:=by have:=HSZ.o;omega):p:=h
theorem bQ{p:Prop}(h:p:=by ((try dsimp only);(first | exact HSS.o _ (hHeld.1.trans hk5) | exact HSS.o _ ((Aa.refl [] W2).drew) | exact HSS.o _ (hHeld.1.alloc _) | exact HSS.o _ hHeld.1))):p:=h
theorem bR{p:Prop}(h:p:=by simpa using h1):p:=h
theorem bS{p:Prop}(h:p:=by simp [MapKept.IsKey]):p:=h
theorem bT{p:Prop}(h:p:=by simpa using hm):p:=h
theorem bU{p:Prop}(h:p:=by simpa using hy):p:=h
theorem bV{p:Prop}(h:p:=by rw [hs];decide):p:=h
theorem bW{p:Prop}(h:p:=by ((try dsimp only); (first | exact VA (H7.o.box.far (p := ⟨w.heap.size, 0, none⟩) HBN.o _) | exact VA H7.o.box | exact VA (H6.o.box.alloc _) | exact VA H6.o.box | exact VA HB5.o.drew | exact VA (HB5.o.alloc _).drew))):p:=h
theorem bX{p:Prop}(h:p:=by ((try dsimp only);((try with_reducible refine Aa.drew ?_);(repeat with_reducible refine Aa.setCell ?_ (.inl (by simp)) _);with_reducible exact Aa.refl _ _))):p:=h
theorem bY{p:Prop}(h:p:=by (repeat(first | exact Aa.refl _ _ | refine Aa.drew ?_ | refine Aa.drewN ?_ _ | refine Aa.setCell ?_ (.inl (by simp)) _))):p:=h
theorem bZ{p:Prop}(h:p:=by unfold maxLen;omega):p:=h
theorem aV{p:Prop}(h:p:=by simpa using hne):p:=h
theorem aW{p:Prop}(h:p:=by simp;try omega):p:=h
theorem fA{p:Prop}(h:p:=by ((try dsimp only);((try with_reducible refine Aa.drew ?_);(repeat with_reducible refine Aa.setCell ?_ (.inl (by simp)) _);with_reducible (first | exact hkw6 | exact Aa.refl _ _)))):p:=h
theorem fB{p:Prop}(h:p:=by ((try dsimp only);(first | exact hS9 | exact hS5a _ | exact hS5 | exact HSS.o _ rfl rfl))):p:=h
theorem aF{p:Prop}(h:p:=by rw [← hwz];exact Ar _ _ _ _ (by simp)):p:=h
theorem fW{p:Prop}(h:p:=by ((try dsimp only);((try with_reducible refine Aa.drew ?_);(repeat with_reducible refine Aa.setCell ?_ (.inr (Nat.le_refl _)) _);(try with_reducible refine Aa.alloc ?_ _);with_reducible (first | exact hk5' | exact Aa.refl _ _)))):p:=h
theorem fX{p:Prop}(h:p:=by ((try dsimp only);(first | exact HS.o _ hKI | exact HS.o _ ((Aa.refl [] w2).drew) | exact HS.o _ (hHeld.1.trans hck) | exact HS.o _ (hHeld.1.alloc _)))):p:=h
theorem fY{p:Prop}(h:p:=by ((try dsimp only);((try with_reducible refine Aa.drew ?_);(repeat with_reducible refine Aa.alloc ?_ _);with_reducible exact Aa.refl _ _))):p:=h
theorem fZ{p:Prop}(h:p:=by ((try dsimp only);(repeat(with_reducible first | exact hk6 | exact hk5' | exact Aa.refl _ _ | refine Aa.drew ?_ | refine Aa.alloc ?_ _)))):p:=h
theorem gA{p:Prop}(h:p:=by rw [← hwz];simp):p:=h
theorem pD{p:Prop}(h:p:=by (try with_reducible refine Aa.drew ?_);(repeat with_reducible refine Aa.setCell ?_ (.inl (by simp)) _);with_reducible exact Aa.refl _ _):p:=h
theorem iT{p:Prop}(h:p:=by simp only [List.mem_cons,List.not_mem_nil,or_false] at hy ⊢;omega):p:=h
theorem iU{p:Prop}(h:p:=by have:=HK5.o.size;have:=HSB.o;simp;omega):p:=h
theorem iV{p:Prop}(h:p:=by rw [HLN.o];exact hkn):p:=h
theorem iW{p:Prop}(h:p:=by simp [Value.ownBlock]):p:=h
theorem iX{p:Prop}(h:p:=by simp [hk]):p:=h
theorem QW{p:Prop}(h:p:=by exact (fun y hy=>by obtain rfl:=List.mem_singleton.1 hy;exact Nat.le_refl _)):p:=h
theorem gB{p:Prop}(h:p:=by simp only [List.mem_cons,List.not_mem_nil,or_false] at hy;omega):p:=h
theorem jU{p:Prop}(h:p:=by rw [← hwz];exact(Ar _ _ _ _ (by simp)).alloc _):p:=h
theorem jV{p:Prop}(h:p:=by rw [← hwz];exact(Aa.refl [] w).alloc _):p:=h
theorem jW{p:Prop}(h:p:=by exact (fun y hy=>by have:=hgeS y hy;omega)):p:=h
theorem jX{p:Prop}(h:p:=by rw [← hw0];exact Blk.new w _ _):p:=h
theorem gC{p:Prop}(h:p:=by rintro rfl;simp at hk1):p:=h
theorem aG{p:Prop}(h:p:=by simp [Value.oneCell']):p:=h
theorem jY{p:Prop}(h:p:=by rw [← hst];exact hs):p:=h
theorem jZ{p:Prop}(h:p:=by rw [HPX.o];rfl):p:=h
theorem kA{p:Prop}(h:p:=by rw [HC.o];simp):p:=h
theorem kB{p:Prop}(h:p:=by rw [HST.o];rfl):p:=h
theorem gD{p:Prop}(h:p:=by exact (fun y hy=>by omega)):p:=h
theorem bc9{p:Prop}(h:p:=by simpa using hl):p:=h
theorem kC{p:Prop}(h:p:=by simpa using h2):p:=h
theorem kD{p:Prop}(h:p:=by simpa using hp):p:=h
theorem kE{p:Prop}(h:p:=by rw [hn];omega):p:=h
theorem lC{p:Prop}(h:p:=by ((try dsimp only);(refine HSG.o _ ?_;(try with_reducible refine Aa.drew ?_);(repeat with_reducible refine Aa.setCell ?_ (.inl (by simp)) _);with_reducible (first | exact hkw6 | exact Aa.refl _ _)))):p:=h
theorem lD{p:Prop}(h:p:=by ((try dsimp only);(refine HSP.o _ ?_;(try with_reducible refine Aa.drew ?_);(repeat with_reducible refine Aa.setCell ?_ (.inl (by simp)) _);with_reducible (first | exact hkw6 | exact Aa.refl _ _)))):p:=h
theorem lE{p:Prop}(h:p:=by ((try dsimp only);((try with_reducible refine Aa.drew ?_);(repeat with_reducible refine Aa.setCell ?_ (.inl (by simp)) _);with_reducible (first | exact hku | exact hkt | exact Aa.refl _ _)))):p:=h
theorem lF{p:Prop}(h:p:=by ((try dsimp only);((try with_reducible refine Aa.drew ?_);(repeat with_reducible refine Aa.setCell ?_ (.inl (by simp)) _);with_reducible (first | exact hkm2 | exact Aa.refl _ _)))):p:=h
theorem lG{p:Prop}(h:p:=by ((try dsimp only);(first | exact HS.o _ ((Aa.refl [cb] wd).drew) | exact HS.o _ hHeld.1 | exact HS.o _ (hk2.mono (by simp)) | exact HS.o _ (hHeld.1.trans hk9)))):p:=h
theorem lI{p:Prop}(h:p:=by ((try dsimp only);((try with_reducible refine Aa.drew ?_);with_reducible (first | exact hk36 | exact hk35 | exact hk4' | exact Aa.refl _ _)))):p:=h
theorem fC{p:Prop}(h:p:=by obtain rfl:=List.mem_singleton.1 hy;first | (simp;done) | (simp;omega) | omega):p:=h
theorem lJ{p:Prop}(h:p:=by have:=HPB.o;simp only [List.mem_cons,List.not_mem_nil,or_false];omega):p:=h
theorem lK{p:Prop}(h:p:=by ((try dsimp only);(first | exact HW1.o _ _ | exact pn))):p:=h
theorem gE{p:Prop}(h:p:=by first | (simp;done) | (simp;omega) | omega):p:=h
theorem aX{p:Prop}(h:p:=by rw [← hw0];exact(Aa.refl [] w).alloc _):p:=h
theorem kF{p:Prop}(h:p:=by rw [List.getElem?_eq_getElem hkL,hs]):p:=h
theorem lL{p:Prop}(h:p:=by have:=HST.o;simpa using this.symm):p:=h
theorem kG{p:Prop}(h:p:=by rw [← hx];exact List.getElem_mem _):p:=h
theorem lM{p:Prop}(h:p:=by rw [HLN.o];exact Nat.le_refl _):p:=h
theorem lN{p:Prop}(h:p:=by rw [ho];intro c hc';cases hc'):p:=h
theorem lO{p:Prop}(h:p:=by rw [HU.o];exact HJ.o):p:=h
theorem lP{p:Prop}(h:p:=by rw [AX.len h.t,hln]):p:=h
theorem lQ{p:Prop}(h:p:=by rw [HN.o];exact hat):p:=h
theorem lR{p:Prop}(h:p:=by rw [HN.o];exact hV):p:=h
theorem lS{p:Prop}(h:p:=by have:=hs.2.1;omega):p:=h
theorem lT{p:Prop}(h:p:=by rw [HB.o];decide):p:=h
theorem lU{p:Prop}(h:p:=by rw [hkk];exact hkL):p:=h
theorem lV{p:Prop}(h:p:=by rw [HOS.o];rfl):p:=h
theorem mM{p:Prop}(h:p:=by ((try dsimp only);(refine HSA.o _ ?_;exact(by(try with_reducible refine Aa.drew ?_);(repeat with_reducible refine Aa.setCell ?_ (.inl (by simp)) _);with_reducible exact Aa.refl _ _)))):p:=h
theorem mN{p:Prop}(h:p:=by ((try dsimp only);(refine HSH.o _ ?_;exact(by(try with_reducible refine Aa.drew ?_);(repeat with_reducible refine Aa.setCell ?_ (.inl (by simp)) _);with_reducible exact Aa.refl _ _)))):p:=h
theorem kH{p:Prop}(h:p:=by ((try dsimp only);(repeat(with_reducible first | exact Aa.refl _ _ | refine Aa.drew ?_ | refine Aa.setCell ?_ (.inl (by simp)) _)))):p:=h
theorem mO{p:Prop}(h:p:=by ((try dsimp only);((try with_reducible refine Aa.drew ?_);with_reducible (first | exact hk35 | exact hk34 | exact Aa.refl _ _)))):p:=h
theorem mP{p:Prop}(h:p:=by ((try dsimp only);(repeat(with_reducible first | exact hk5 | exact Aa.refl _ _ | refine Aa.drew ?_ | refine Aa.alloc ?_ _)))):p:=h
theorem mQ{p:Prop}(h:p:=by (repeat(first | exact Ar _ _ _ _ (by simp) | exact Blk.new _ _ _ | refine Blk.drew ?_ | refine Blk.alloc ?_ _))):p:=h
theorem mS{p:Prop}(h:p:=by exact (fun y hy=>by have:=HK2.o.size;simp only [List.mem_cons,List.not_mem_nil,or_false] at hy;omega)):p:=h
theorem mT{p:Prop}(h:p:=by ((try dsimp only);(first | exact hkT' | exact hkS' | exact(Aa.refl _ wr).drew))):p:=h
theorem mU{p:Prop}(h:p:=by ((try dsimp only);(first | exact(Aa.refl [] w2).drew | exact hku | exact hkt))):p:=h
theorem mV{p:Prop}(h:p:=by have:=HSZ.o;simp only [List.mem_cons,List.not_mem_nil,or_false] at hy;omega):p:=h
theorem mW{p:Prop}(h:p:=by intro y hy;simp only [List.mem_cons,List.not_mem_nil,or_false] at hy;omega):p:=h
theorem mX{p:Prop}(h:p:=by ((try dsimp only);(first | exact(Aa.refl [] wz).drew | exact hkt))):p:=h
theorem mY{p:Prop}(h:p:=by simp only [List.mem_cons,List.not_mem_nil,or_false] at hk;omega):p:=h
theorem mZ{p:Prop}(h:p:=by rw [← hwz];exact((Ar _ _ _ _ (by simp)).alloc _).alloc _):p:=h
theorem nB{p:Prop}(h:p:=by rw [← hwz];exact(((Blk.new w _ _).alloc _).alloc _).alloc _):p:=h
theorem nC{p:Prop}(h:p:=by exact (fun y hy=>by obtain rfl:=List.mem_singleton.1 hy;exact HBB.o)):p:=h
theorem nD{p:Prop}(h:p:=by rw [List.length_append];have:x.cells.length=3:=rfl;omega):p:=h
theorem nG{p:Prop}(h:p:=by first | exact Aa.refl _ _ | exact HOT.o.kw):p:=h
theorem nH{p:Prop}(h:p:=by rw [List.length_take,List.length_take];omega):p:=h
theorem lW{p:Prop}(h:p:=by rw [← hw0];exact Ar _ _ _ _ (by simp)):p:=h
theorem kI{p:Prop}(h:p:=by rw [← hwz];exact(Blk.new w _ _).alloc _):p:=h
theorem nI{p:Prop}(h:p:=by simp only [Nat.min_def];split<;>omega):p:=h
theorem nJ{p:Prop}(h:p:=by unfold Bn;rw [if_pos HB.o];rfl):p:=h
theorem nK{p:Prop}(h:p:=by rw [hsn,List.length_append,hj];rfl):p:=h
theorem nL{p:Prop}(h:p:=by rw [List.length_map,HN.o];omega):p:=h
theorem nM{p:Prop}(h:p:=by exact (fun y hy=>by rw [hy];exact HSB.o)):p:=h
theorem nN{p:Prop}(h:p:=by rw [← hwz];exact Blk.new w _ _):p:=h
theorem nO{p:Prop}(h:p:=by rw [List.length_take,hF];omega):p:=h
theorem nP{p:Prop}(h:p:=by rw [List.length_take];omega):p:=h
theorem nQ{p:Prop}(h:p:=by rw [HCQ.o];exact HB4.o):p:=h
theorem nR{p:Prop}(h:p:=by exact (fun y hy=>by simpa using hy)):p:=h
theorem Tb{p:Prop}(h:p:=by simpa using hq):p:=h
theorem aY{p:Prop}(h:p:=by have:=HWS.o;omega):p:=h
theorem kJ{p:Prop}(h:p:=by ((try dsimp only);(first | exact hHeld | exact((Aa.refl [] wr).drew).mono (by simp) | exact hHeld.alloc _ | exact hk4))):p:=h
theorem kK{p:Prop}(h:p:=by have:=HOL.o;simp only [List.mem_cons,List.not_mem_nil,or_false];omega):p:=h
theorem fD{p:Prop}(h:p:=by rw [HM.o];exact hlt):p:=h
theorem gF{p:Prop}(h:p:=by rw [A0 HX1.o,A0 HX2.o,HP.o,he]):p:=h
theorem lX{p:Prop}(h:p:=by rw [← hw0];exact((Aa.refl [] w).alloc _).alloc _):p:=h
theorem lY{p:Prop}(h:p:=by rw [← hwz];exact((Aa.refl [] w).alloc _).alloc _):p:=h
theorem gG{p:Prop}(h:p:=by rw [HM.o];exact Nat.le_refl _):p:=h
theorem gH{p:Prop}(h:p:=by rw [← HN.o,← HM.o,e]):p:=h
theorem lZ{p:Prop}(h:p:=by rw [HN.o];exact h1):p:=h
theorem mB{p:Prop}(h:p:=by rw [HVK.o];omega):p:=h
theorem nS{p:Prop}(h:p:=by (repeat(with_reducible first | exact Aa.refl _ _ | refine Aa.drew ?_ | refine Aa.alloc ?_ _ | refine Aa.trans ?_ hk7 | refine Aa.trans ?_ hk5 | refine Aa.trans ?_ hk3))):p:=h
theorem nT{p:Prop}(h:p:=by ((try dsimp only);(first | exact((Aa.refl [] wr).drew).mono (by simp) | exact((Aa.refl [] wr).drew.alloc _).mono (by simp) | exact hk4))):p:=h
theorem nU{p:Prop}(h:p:=by ((try dsimp only);(first | exact HC9.o | exact HCA.o | exact(World.cell?_alloc_lt _ _ _ HGW.o).trans HCA.o))):p:=h
theorem nV{p:Prop}(h:p:=by exact (fun y hy=>by have:=HOL.o;simp only [List.mem_cons,List.not_mem_nil,or_false] at hy;omega)):p:=h
theorem K3{p:Prop}(h:p:=by assumption):p:=h
theorem kL{p:Prop}(h:p:=by decide +kernel):p:=h
theorem gI{p:Prop}(h:p:=by exact (fun y hy=>by obtain rfl:=List.mem_singleton.1 hy;exact⟨HLc.o,HLT.o⟩)):p:=h
theorem gJ{p:Prop}(h:p:=by exact (fun y hy=>by obtain rfl:=List.mem_singleton.1 hy;exact HLc.o)):p:=h
theorem iY{p:Prop}(h:p:=by simpa using hx):p:=h
theorem kM{p:Prop}(h:p:=by unfold Func.isWrapper;first | (rw [if_pos (by decide +kernel)];kernel_rfl) | (rw [if_neg (by decide +kernel)];exact⟨rfl,rfl⟩)):p:=h
theorem nX{p:Prop}(h:p:=by exact (fun y hy=>by obtain rfl:=List.mem_singleton.1 hy;exact HLz.o)):p:=h
theorem uY{p:Prop}(h:p:=by have:=HNW.o;omega):p:=h
theorem uZ{p:Prop}(h:p:=by exact (fun y hy=>by obtain rfl:=List.mem_singleton.1 hy;exact HLy.o)):p:=h
theorem vA{p:Prop}(h:p:=by rw [List.length_map];have:=HLB.o;omega):p:=h
theorem vB{p:Prop}(h:p:=by have:=HYL.o;omega):p:=h
theorem vC{p:Prop}(h:p:=by have:=HS0.o;omega):p:=h
theorem vF{p:Prop}(h:p:=by ((try dsimp only);(repeat(with_reducible first | exact hkU' | exact hkT' | exact Aa.refl _ _ | refine Aa.drew ?_ | refine Aa.alloc ?_ _)))):p:=h
theorem vG{p:Prop}(h:p:=by rw [HTK.o,List.length_append,List.length_singleton];exact HR4.o):p:=h
theorem vH{p:Prop}(h:p:=by rw [← hys,List.length_map,List.length_take];omega):p:=h
end Go.Proofs.YtncebikgoleolaaGreatDoor
