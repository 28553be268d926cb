/- Steps. -/
import Derived.Test.YtncebikgoleolaaGreatDoorKaj
import Derived.Test.YtncebikgoleolaaGreatDoorKap
set_option maxRecDepth 100000
set_option maxHeartbeats 8000000
set_option linter.all false
namespace Go.Proofs.YtncebikgoleolaaGreatDoor
open Tryz
open Ending renaming returned→pJ
open IntKind renaming i64→pK
open _root_.List renaming getD_eq_getElem?_getD→AO
open Oper renaming semAt_some→pN
open Value renaming agg→pH,bool→pI,int→pE,slice→pF,string→Dz
section
open Go.RowKit Go.Shelf
attribute [local go_sem] pN Lr Ls Lp Lq
attribute [local go_sem ↓] wp_at_zero wp_at_succ
def OV(js:List Bq)(conn:Int):Bq×Bool:=match BF js conn with
 | some i=>(js.getD i job0,true)
 | none=>(job0,false)
theorem OI(G J M N O T U X Y:Value)(ja:Option Addr)(ln jc:Nat)(js:List Bq)(hln:js.length=ln)(B:ln<=1000)(conn:Int)(w:World)(hl:Kt w ja jc js):
  Calls prog 14 #[pH #[G,J,M,N,O,T,U,X,pF ja ln jc,Y],I_ conn] w fun x w'=>x = pJ (.tuple #[pH (jobA (OV js conn).1),pI (OV js conn).2])/\Aa [] w w':=by
 obtain⟨w0,hw0⟩:=eX ((w.alloc (.cells #[G,J,M,N,O,T,U,X,pF ja ln jc,Y] 36)).alloc (.cells #[pE pK 0,I_ 0,Dz ⟨#[]⟩,Dz ⟨#[]⟩,I_ 0,I_ 0,Dz ⟨#[]⟩,I_ 0,I_ 0,pI false,I_ 0,I_ 0,I_ 0,I_ 0,Dz ⟨#[]⟩,I_ 0,I_ 0,I_ 0,I_ 0,I_ 0,I_ 0,Dz ⟨#[]⟩,I_ 0,I_ 0] 67));have hk0:Aa [] w w0:=by rw [<- hw0];exact((Aa.refl [] w).alloc _).alloc _
 have hb0:Blk w0 w 36 #[G,J,M,N,O,T,U,X,pF ja ln jc,Y]:=by rw [<- hw0];exact(Blk.new w _ _).alloc _
 have hb1:Blk w0 (w+1) 67 (jobA job0):=by rw [<- hw0];exact Ar _ _ _ _ bA
 have q0:=hb0.rl;have HP:=JX G J M N O T U X Y ja ln jc js hln B conn w0 (hl.keeps hk0);have HB0:=lH hb0;have HB1:=lH hb1;have HK0:=lH hk0;have HL:=lH hl;have HLN:=lH hln;obtain⟨R,hR⟩:=eX (OV js conn);rw [hR];unfold OV at hR;have HLT:=lH (fun k (h:BF js conn=some k)=>Pu h);obtain⟨pl,E⟩:=eX (BF js conn);rw [E] at hR HP HLT;have HR:=lH hR;clear hk0 hb0 hb1 hl hln hR E;go_enter func14,ntmps14;go_wp2_with fail;refine HP.mono ?_;rintro e w1 ⟨rfl,hk1⟩;have HK1:=lH (HK0.o.trans hk1);have q1:=(HB0.o.keeps hk1 bA).rl;have HB:=lH (HB1.o.keeps hk1 bA);clear hw0 q0 hk1 HB0 HB1 HP;cases pl with
 | none=>
  have F:Hi ((job0,false)=R):=lH HR.o;simp only [Option.getD_none,Option.isSome_none];go_wp2_with (refine wpList_store_row bD 67 _ _ bD (w+1) (jobA job0) bD bD 67 (jobA job0) HB.o (D2 _) rfl (Gp _) ?_);refine bodyPost_ret (v:=.tuple #[pH (jobA job0),pI false]) ?_ rfl ⟨by rw [<- F.o],?_⟩
  ·exact AS rfl _ _ (w+1) 67 (jobA job0) _ (pI false) rfl rfl (HB.o.row _) underlying67 rfl (D2 _)
  ·exact HK1.o.own (Br _ _ _) bF
 | some k=>
  have D:k<js.length:=HLT.o k rfl;have F:Hi ((js.getD k job0,true)=R):=lH HR.o;obtain⟨g1,o1,v,rfl,hg1,hx1,hat1⟩:=(HL.o.keeps HK1.o).at_k (k:=k) D;have HQ:=lH (JC hat1);have hgd:js.getD k job0=v:=by rw [AO,hx1];rfl
  rw [hgd] at F;have i1:(0:Int)<=(k:Int):=bB;have i2:(k:Int)<(ln:Int):=by have:=HLN.o;omega
  simp only [Option.getD_some,Option.isSome_some];clear hat1 hx1 hgd D;go_wp2_with (first | (refine Ay bD 67 _ bD g1 (o1+k*24) bD (jobA v) _ HQ.o underlying67 rfl (D2 v) ?_) | (refine wpList_store_row bD 67 _ _ bD (w+1) (jobA v) bD bD 67 (jobA job0) HB.o (D2 v) rfl (Gp v) ?_));refine bodyPost_ret (v:=.tuple #[pH (jobA v),pI true]) ?_ rfl ⟨by rw [<- F.o],?_⟩
  ·exact AS rfl _ _ (w+1) 67 (jobA v) _ (pI true) rfl rfl (HB.o.row _) underlying67 rfl (D2 _)
  ·exact HK1.o.own (Br _ _ _) bF
end
end Go.Proofs.YtncebikgoleolaaGreatDoor
