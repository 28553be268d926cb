/- Proofs by one and the same word, under short names. -/
import Derived.KernelRfl
import Derived.Lib.Hide
set_option linter.all false
namespace Go.Proofs.YtcjdkbgdahgjbaaGreatDoor
instance:Coe World Nat:=⟨fun w=>w.heap.size⟩
theorem lH{p:Prop}(h:p):RowKit.Hid p:=h
theorem eX{α:Sort _}(a:α):∃x,a=x:=⟨a,rfl⟩
theorem bA{p:Prop}(h:p:=by simp):p:=h
theorem bB{p:Prop}(h:p:=by omega):p:=h
theorem bC{p:Prop}(h:p:=by kernel_rfl):p:=h
theorem bD{p:Prop}(h:p:=by rfl):p:=h
theorem bE{p:Prop}(h:p:=by decide):p:=h
theorem bF{p:Prop}(h:p:=by exact (fun y hy=>by simp only [List.mem_cons,List.not_mem_nil,or_false] at hy;omega)):p:=h
theorem bG{p:Prop}(h:p:=by simp;omega):p:=h
theorem bH{p:Prop}(h:p:=by dsimp only;omega):p:=h
theorem bI{p:Prop}(h:p:=by simp only [List.mem_cons,List.not_mem_nil,or_false];omega):p:=h
theorem bJ{p:Prop}(h:p:=by (repeat with_reducible refine Aa.setCell ?_ (.inl (by simp)) _);with_reducible exact Aa.refl _ _):p:=h
theorem bK{p:Prop}(h:p:=by simpa using h):p:=h
theorem bL{p:Prop}(h:p:=by rw [HN.out];exact Nat.le_refl _):p:=h
theorem bM{p:Prop}(h:p:=by exact (fun y hy=>by have:=hS y hy;omega)):p:=h
theorem bN{p:Prop}(h:p:=by exact (fun y hy=>by have:=hQ y hy;omega)):p:=h
theorem bO{p:Prop}(h:p:=by rw [HN.out];exact hlt):p:=h
theorem bP{p:Prop}(h:p:=by have:=HSZ.out;omega):p:=h
theorem bQ{p:Prop}(h:p:=by ((try dsimp only);(first | exact HSS.out _ (hHeld.1.trans hk5) | exact HSS.out _ ((Aa.refl [] W2).drew) | exact HSS.out _ (hHeld.1.alloc _) | exact HSS.out _ hHeld.1))):p:=h
theorem bR{p:Prop}(h:p:=by simpa using h1):p:=h
theorem bS{p:Prop}(h:p:=by simp [MapKept.IsKey]):p:=h
theorem bT{p:Prop}(h:p:=by simpa using hm):p:=h
theorem bU{p:Prop}(h:p:=by simpa using hy):p:=h
theorem bV{p:Prop}(h:p:=by rw [hs];decide):p:=h
theorem bW{p:Prop}(h:p:=by ((try dsimp only); (first | exact RT (H7.out.box.far (p := ⟨w.heap.size, 0, none⟩) HBN.out _) | exact RT H7.out.box | exact RT (H6.out.box.alloc _) | exact RT H6.out.box | exact RT HB5.out.drew | exact RT (HB5.out.alloc _).drew))):p:=h
theorem bX{p:Prop}(h:p:=by ((try dsimp only);((try with_reducible refine Aa.drew ?_);(repeat with_reducible refine Aa.setCell ?_ (.inl (by simp)) _);with_reducible exact Aa.refl _ _))):p:=h
theorem bY{p:Prop}(h:p:=by (repeat(first | exact Aa.refl _ _ | refine Aa.drew ?_ | refine Aa.drewN ?_ _ | refine Aa.setCell ?_ (.inl (by simp)) _))):p:=h
theorem bZ{p:Prop}(h:p:=by unfold maxLen;omega):p:=h
theorem Wi{p:Prop}(h:p:=by simpa using hne):p:=h
theorem Wj{p:Prop}(h:p:=by simp;try omega):p:=h
theorem Xc{p:Prop}(h:p:=by ((try dsimp only);((try with_reducible refine Aa.drew ?_);(repeat with_reducible refine Aa.setCell ?_ (.inl (by simp)) _);with_reducible (first | exact hkw6 | exact Aa.refl _ _)))):p:=h
theorem Xd{p:Prop}(h:p:=by ((try dsimp only);(first | exact hS9 | exact hS5a _ | exact hS5 | exact HSS.out _ rfl rfl))):p:=h
theorem Xe{p:Prop}(h:p:=by rw [← hwz];exact Aq _ _ _ _ (by simp)):p:=h
theorem Xx{p:Prop}(h:p:=by ((try dsimp only);((try with_reducible refine Aa.drew ?_);(repeat with_reducible refine Aa.setCell ?_ (.inr (Nat.le_refl _)) _);(try with_reducible refine Aa.alloc ?_ _);with_reducible (first | exact hk5' | exact Aa.refl _ _)))):p:=h
theorem Xy{p:Prop}(h:p:=by ((try dsimp only);(first | exact HS.out _ hKI | exact HS.out _ ((Aa.refl [] w2).drew) | exact HS.out _ (hHeld.1.trans hck) | exact HS.out _ (hHeld.1.alloc _)))):p:=h
theorem Xz{p:Prop}(h:p:=by ((try dsimp only);((try with_reducible refine Aa.drew ?_);(repeat with_reducible refine Aa.alloc ?_ _);with_reducible exact Aa.refl _ _))):p:=h
theorem X0{p:Prop}(h:p:=by ((try dsimp only);(repeat(with_reducible first | exact hk6 | exact hk5' | exact Aa.refl _ _ | refine Aa.drew ?_ | refine Aa.alloc ?_ _)))):p:=h
theorem X4{p:Prop}(h:p:=by rw [← hwz];simp):p:=h
theorem dG{p:Prop}(h:p:=by (try with_reducible refine Aa.drew ?_);(repeat with_reducible refine Aa.setCell ?_ (.inl (by simp)) _);with_reducible exact Aa.refl _ _):p:=h
theorem Yc{p:Prop}(h:p:=by simp only [List.mem_cons,List.not_mem_nil,or_false] at hy ⊢;omega):p:=h
theorem Yd{p:Prop}(h:p:=by exact (fun y hy=>by obtain rfl:=List.mem_singleton.1 hy;exact Nat.le_refl _)):p:=h
theorem Ye{p:Prop}(h:p:=by have:=HK5.out.size;have:=HSB.out;simp;omega):p:=h
theorem Yf{p:Prop}(h:p:=by rw [HLN.out];exact hkn):p:=h
theorem Yg{p:Prop}(h:p:=by simp [Value.ownBlock]):p:=h
theorem bb6{p:Prop}(h:p:=by simpa using hl):p:=h
theorem Yh{p:Prop}(h:p:=by simpa using hx):p:=h
theorem Yi{p:Prop}(h:p:=by simp [hk]):p:=h
theorem Y5{p:Prop}(h:p:=by simp only [List.mem_cons,List.not_mem_nil,or_false] at hy;omega):p:=h
theorem Y6{p:Prop}(h:p:=by rw [← hwz];exact(Aq _ _ _ _ (by simp)).alloc _):p:=h
theorem Y7{p:Prop}(h:p:=by rw [← hwz];exact(Aa.refl [] w).alloc _):p:=h
theorem Y8{p:Prop}(h:p:=by exact (fun y hy=>by have:=hgeS y hy;omega)):p:=h
theorem Y9{p:Prop}(h:p:=by rw [← hw0];exact Blk.new w _ _):p:=h
theorem YA{p:Prop}(h:p:=by rintro rfl;simp at hk1):p:=h
theorem YB{p:Prop}(h:p:=by simp [Value.oneCell']):p:=h
theorem YC{p:Prop}(h:p:=by rw [← hst];exact hs):p:=h
theorem YD{p:Prop}(h:p:=by rw [HPX.out];rfl):p:=h
theorem YE{p:Prop}(h:p:=by rw [HST.out];rfl):p:=h
theorem YF{p:Prop}(h:p:=by rw [HC.out];simp):p:=h
theorem YG{p:Prop}(h:p:=by exact (fun y hy=>by omega)):p:=h
theorem YH{p:Prop}(h:p:=by simpa using hp):p:=h
theorem YI{p:Prop}(h:p:=by simpa using h2):p:=h
theorem YJ{p:Prop}(h:p:=by rw [hn];omega):p:=h
theorem Zh{p:Prop}(h:p:=by ((try dsimp only);(refine HSG.out _ ?_;(try with_reducible refine Aa.drew ?_);(repeat with_reducible refine Aa.setCell ?_ (.inl (by simp)) _);with_reducible (first | exact hkw6 | exact Aa.refl _ _)))):p:=h
theorem Zi{p:Prop}(h:p:=by ((try dsimp only);(refine HSP.out _ ?_;(try with_reducible refine Aa.drew ?_);(repeat with_reducible refine Aa.setCell ?_ (.inl (by simp)) _);with_reducible (first | exact hkw6 | exact Aa.refl _ _)))):p:=h
theorem Zj{p:Prop}(h:p:=by ((try dsimp only);((try with_reducible refine Aa.drew ?_);(repeat with_reducible refine Aa.setCell ?_ (.inl (by simp)) _);with_reducible (first | exact hku | exact hkt | exact Aa.refl _ _)))):p:=h
theorem Zk{p:Prop}(h:p:=by ((try dsimp only);((try with_reducible refine Aa.drew ?_);(repeat with_reducible refine Aa.setCell ?_ (.inl (by simp)) _);with_reducible (first | exact hkm2 | exact Aa.refl _ _)))):p:=h
theorem Zl{p:Prop}(h:p:=by ((try dsimp only);(first | exact HS.out _ ((Aa.refl [cb] wd).drew) | exact HS.out _ hHeld.1 | exact HS.out _ (hk2.mono (by simp)) | exact HS.out _ (hHeld.1.trans hk9)))):p:=h
theorem Zm{p:Prop}(h:p:=by ((try dsimp only);((try with_reducible refine Aa.drew ?_);with_reducible (first | exact hk36 | exact hk35 | exact hk4' | exact Aa.refl _ _)))):p:=h
theorem Zn{p:Prop}(h:p:=by obtain rfl:=List.mem_singleton.1 hy;first | (simp;done) | (simp;omega) | omega):p:=h
theorem Zo{p:Prop}(h:p:=by have:=HPB.out;simp only [List.mem_cons,List.not_mem_nil,or_false];omega):p:=h
theorem Zp{p:Prop}(h:p:=by ((try dsimp only);(first | exact HW1.out _ _ | exact pn))):p:=h
theorem Zq{p:Prop}(h:p:=by first | (simp;done) | (simp;omega) | omega):p:=h
theorem Zr{p:Prop}(h:p:=by rw [← hw0];exact(Aa.refl [] w).alloc _):p:=h
theorem Zs{p:Prop}(h:p:=by rw [List.getElem?_eq_getElem hkL,hs]):p:=h
theorem Zt{p:Prop}(h:p:=by have:=HST.out;simpa using this.symm):p:=h
theorem Zu{p:Prop}(h:p:=by rw [← hx];exact List.getElem_mem _):p:=h
theorem Zv{p:Prop}(h:p:=by rw [HLN.out];exact Nat.le_refl _):p:=h
theorem Zw{p:Prop}(h:p:=by rw [ho];intro c hc';cases hc'):p:=h
theorem Zx{p:Prop}(h:p:=by rw [HU.out];exact HJ.out):p:=h
theorem Zy{p:Prop}(h:p:=by rw [AC.len h.t,hln]):p:=h
theorem Zz{p:Prop}(h:p:=by rw [HN.out];exact hat):p:=h
theorem Z0{p:Prop}(h:p:=by rw [HN.out];exact hV):p:=h
theorem Z1{p:Prop}(h:p:=by have:=hs.2.1;omega):p:=h
theorem Z2{p:Prop}(h:p:=by rw [HB.out];decide):p:=h
theorem Z3{p:Prop}(h:p:=by rw [hkk];exact hkL):p:=h
theorem Z4{p:Prop}(h:p:=by rw [HOS.out];rfl):p:=h
theorem ZC{p:Prop}(h:p:=by ((try dsimp only);(refine HSA.out _ ?_;exact(by(try with_reducible refine Aa.drew ?_);(repeat with_reducible refine Aa.setCell ?_ (.inl (by simp)) _);with_reducible exact Aa.refl _ _)))):p:=h
theorem ZD{p:Prop}(h:p:=by ((try dsimp only);(refine HSH.out _ ?_;exact(by(try with_reducible refine Aa.drew ?_);(repeat with_reducible refine Aa.setCell ?_ (.inl (by simp)) _);with_reducible exact Aa.refl _ _)))):p:=h
theorem ZE{p:Prop}(h:p:=by ((try dsimp only);(repeat(with_reducible first | exact Aa.refl _ _ | refine Aa.drew ?_ | refine Aa.setCell ?_ (.inl (by simp)) _)))):p:=h
theorem ZF{p:Prop}(h:p:=by ((try dsimp only);((try with_reducible refine Aa.drew ?_);with_reducible (first | exact hk35 | exact hk34 | exact Aa.refl _ _)))):p:=h
theorem ZG{p:Prop}(h:p:=by ((try dsimp only);(repeat(with_reducible first | exact hk5 | exact Aa.refl _ _ | refine Aa.drew ?_ | refine Aa.alloc ?_ _)))):p:=h
theorem ZH{p:Prop}(h:p:=by (repeat(first | exact Aq _ _ _ _ (by simp) | exact Blk.new _ _ _ | refine Blk.drew ?_ | refine Blk.alloc ?_ _))):p:=h
theorem ZI{p:Prop}(h:p:=by exact (fun y hy=>by have:=HK2.out.size;simp only [List.mem_cons,List.not_mem_nil,or_false] at hy;omega)):p:=h
theorem ZJ{p:Prop}(h:p:=by ((try dsimp only);(first | exact hkT' | exact hkS' | exact(Aa.refl _ wr).drew))):p:=h
theorem ZK{p:Prop}(h:p:=by ((try dsimp only);(first | exact(Aa.refl [] w2).drew | exact hku | exact hkt))):p:=h
theorem ZL{p:Prop}(h:p:=by have:=HSZ.out;simp only [List.mem_cons,List.not_mem_nil,or_false] at hy;omega):p:=h
theorem ZM{p:Prop}(h:p:=by intro y hy;simp only [List.mem_cons,List.not_mem_nil,or_false] at hy;omega):p:=h
theorem ZN{p:Prop}(h:p:=by ((try dsimp only);(first | exact(Aa.refl [] wz).drew | exact hkt))):p:=h
theorem ZO{p:Prop}(h:p:=by simp only [List.mem_cons,List.not_mem_nil,or_false] at hk;omega):p:=h
theorem ZP{p:Prop}(h:p:=by rw [← hwz];exact((Aq _ _ _ _ (by simp)).alloc _).alloc _):p:=h
theorem ZQ{p:Prop}(h:p:=by rw [← hwz];exact(((Blk.new w _ _).alloc _).alloc _).alloc _):p:=h
theorem ZR{p:Prop}(h:p:=by exact (fun y hy=>by obtain rfl:=List.mem_singleton.1 hy;exact HBB.out)):p:=h
theorem ZS{p:Prop}(h:p:=by rw [List.length_append];have:x.cells.length=3:=rfl;omega):p:=h
theorem ZT{p:Prop}(h:p:=by first | exact Aa.refl _ _ | exact HOT.out.kw):p:=h
theorem ZU{p:Prop}(h:p:=by rw [List.length_take,List.length_take];omega):p:=h
theorem ZV{p:Prop}(h:p:=by rw [← hw0];exact Aq _ _ _ _ (by simp)):p:=h
theorem ZW{p:Prop}(h:p:=by rw [← hwz];exact(Blk.new w _ _).alloc _):p:=h
theorem ZX{p:Prop}(h:p:=by simp only [Nat.min_def];split<;>omega):p:=h
theorem ZY{p:Prop}(h:p:=by unfold AO;rw [if_pos HB.out];rfl):p:=h
theorem ZZ{p:Prop}(h:p:=by rw [hsn,List.length_append,hj];rfl):p:=h
theorem aB{p:Prop}(h:p:=by rw [List.length_map,HN.out];omega):p:=h
theorem aC{p:Prop}(h:p:=by exact (fun y hy=>by rw [hy];exact HSB.out)):p:=h
theorem aD{p:Prop}(h:p:=by rw [← hwz];exact Blk.new w _ _):p:=h
theorem aE{p:Prop}(h:p:=by rw [List.length_take,hF];omega):p:=h
theorem aF{p:Prop}(h:p:=by rw [List.length_take];omega):p:=h
theorem aG{p:Prop}(h:p:=by rw [HCQ.out];exact HB4.out):p:=h
theorem aH{p:Prop}(h:p:=by exact (fun y hy=>by simpa using hy)):p:=h
end Go.Proofs.YtcjdkbgdahgjbaaGreatDoor
