/- Steps. -/
import Derived.Test.YtjieiikpolahfaaGreatDoorKal
import Derived.Deep.Slices
import Derived.Deep.Fields
import Derived.Lib.SmallJoins
import Derived.ProofKit
import Derived.JoinedOf
import Derived.SevenTiedAt
import Derived.LaidLaws
import Derived.LaidHandle
import Derived.LaidMore
import Derived.BigRegion
import Derived.Deep.RegionHeld
import Derived.Deep.DeepCutAuto
set_option maxRecDepth 100000
set_option maxHeartbeats 8000000
set_option linter.all false
namespace Go.Proofs.YtjieiikpolahfaaGreatDoor
open Go.Proofs.Tryz
open DataW renaming trod→AJ
open IntKind renaming i64→pK
open _root_.List renaming drop_eq_nil_of_le→AI,drop_zero→BC,getElem?_eq_getElem→Aq,getElem?_eq_some_iff→Ad,getElem_mem→pS,length_map→Bd,mem_map→BO,range→AC,take_append_drop→Dn
open _root_.Nat renaming add_zero→AT,mul_one→pR
open Value renaming agg→pH,int→pE,slice→pF
open World renaming block_lt_of_cell?→Be
section
open Go.RowKit Go.Shelf Go.WideShapes Go.ChangeShapes Go.ChangeAt Go.Deep
theorem Cb(cs:List Value)(o c B:Nat)(h:o+c=B):cs.drop o=(cs.drop o).take c++cs.drop B:=by
 rw [<- h,<- List.drop_drop,Dn]
theorem AR.map{α β:Type}{enc:β->List Value}{n:Nat}{w:World}{a:Option Addr}{c:Nat}(f:α->β){xs:List α}(h:AR (fun x=>enc (f x)) n w a c xs):AR enc n w a c (xs.map f):=
 ⟨by rw [Bd];exact h.le,h.nil,fun h0=>by
  rw [Bd] at h0;obtain⟨g,off,ha,hg,hat⟩:=h.at_ h0;refine⟨g,off,ha,hg,fun i hi j u hu=>?_⟩;rw [Bd] at hi;rw [List.getElem_map] at hu;exact hat i hi j u hu⟩
section
variable {H:Type} {enc:TypeId×Value->H} {W:World} {base:Nat} {spare:Nat->Bool} {held:Bool}
theorem Az{B:Array Field}{t ft:TypeId}{o c fuel:Nat}{cs:List Value}{x:DataW H×List MemPlace}(ht:prog.underlying t=some (.struct B))(i:Nat){f:Field}(hi:B[i]? = some f)(hl:i<B.size)(he:f.type=ft)(ho:f.offset=o)(D:prog.cellsOf ft=c)
 (h:AJ enc prog W base spare held fuel t cs=some x):∃n y,AJ enc prog W base spare held n ft ((cs.drop o).take c)=some y:=by
 obtain⟨xs,n,_,_,_,E,hf⟩:=DataW.trod_struct ht h;have:=hf i f hi;rw [he,ho,D,Aq bB] at this;exact⟨n,_,this⟩
theorem EH{B:Array Field}{t:TypeId}{c fuel:Nat}{cs:List Value}{x:DataW H×List MemPlace}(ht:prog.underlying t=some (.struct B))(D:prog.cellsOf t=c)(h:AJ enc prog W base spare held fuel t cs=some x):cs.length=c:=by
 obtain⟨xs,n,_,_,hl,_,_⟩:=DataW.trod_struct ht h;rw [<- D];exact hl
theorem ES{α:Type}[Inhabited α]{t e:TypeId}{n:Nat}{en:α->List Value}{ok:α->Prop}(ht:prog.underlying t=some (.slice e))(U:prog.cellsOf e=n)(h0:0<n)(hn:∀y,(en y).length=n)
 (hr:∀fuel cs x,AJ enc prog W base spare held fuel e cs=some x->∃y,cs=en y/\ok y){fuel:Nat}{cs:List Value}{x:DataW H×List MemPlace}(h:AJ enc prog W base spare held fuel t cs=some x):
  ∃(a:Option Addr) (xs:List α) (c:Nat),cs = [pF a xs.length c]/\AR en n W a c xs/\xs.length<=9223372036854775807/\∀y∈xs,ok y:=by
 rcases open_slice ht h with⟨F,_⟩ | ⟨a,len,cap,m,n',D,Pl,F,_,hl,hm,O,_,hx⟩
 ·exact⟨none,[],0,F,.none_,by simp,fun _ h=>by cases h⟩
 ·have aa:len<=m:=by rw [O];split<;>omega
  have M:∀i,i<len->∃y:α,ok y/\∀j,j<n->W.cell? ((a.add (i*n)).add j)=(en y)[j]?:=fun i hi=>by
   obtain⟨T,h1,h2⟩:=hx i bB;rw [U] at h1;obtain⟨_,Y,hat⟩:=World.cells?_some h1;obtain⟨y,rfl,hy⟩:=hr _ _ _ h2;exact⟨y,hy,fun j hj=>hat j hj⟩
  obtain⟨X,J⟩:=choose_lt M;refine⟨some a,(AC len).map X,cap,by rw [F];simp,⟨by simpa using hl,(fun e=>by cases e),fun hp=>?_⟩,by unfold maxLen at hm;simp;omega,fun y hy=>?_⟩
  ·have G:0<len:=kD;obtain⟨b,off,E⟩:=a;have hne:(en (X 0))[0]?≠none:=by
    have:=hn (X 0);rw [Aq bB];simp
   have hsp:E=none:=by
    have:=(J 0 G).2 0 h0;simp only [Nat.zero_mul,Addr.add,if_true] at this;rcases hz:W.cell? ⟨b,off,E⟩ with _ | v
    ·rw [hz] at this;exact absurd this.symm hne
    ·unfold World.cell? at hz
     split at hz
     ·split at hz
      ·cases hz
      ·rename_i hn';simpa using hn'
     ·cases hz
   subst hsp;have B:∀i j,(((A_ b off):Addr).add (i*n)).add j=(A_ b (off+i*n+j)):=fun i j=>by
    unfold Addr.add;split<;>split<;>simp_all
   refine⟨b,off,rfl,?_,fun i hi j u hu=>?_⟩
   ·have:=(J 0 G).2 0 h0
    rw [B,Aq (by have:=hn (X 0);omega)] at this;exact Be W _ this
   ·have N:i<len:=by simpa using hi
    have hj:j<n:=by rw [<- hn (X i)];simp only [List.getElem_map,List.getElem_range] at hu;exact(Ad.1 hu).1
    have:=(J i N).2 j hj;rw [B] at this;rw [this];simpa only [List.getElem_map,List.getElem_range] using hu
  ·obtain⟨i,hi,rfl⟩:=BO.1 hy
   exact(J i (List.mem_range.1 hi)).1
theorem ki:prog.cellsOf 3=1:=bC
theorem ks:prog.cellsOf 9=1:=bC
theorem kb:prog.cellsOf 4=1:=bC
theorem Fg{fuel:Nat}{cs:List Value}{x:DataW H×List MemPlace}(h:AJ enc prog W base spare held fuel 3 cs=some x):∃n,cs=Fb n/\(-9223372036854775808<=n/\n<=9223372036854775807):=by
 obtain⟨n,e,_,hw⟩:=DataW.trod_int underlying3 h;have e1:IntKind.i64.min = -9223372036854775808:=bE;have B:IntKind.i64.max=9223372036854775807:=bE;exact⟨n,e,by simpa [Lit.wf,e1,B] using hw⟩
theorem NG{fuel:Nat}{cs:List Value}{x:DataW H×List MemPlace}(h:AJ enc prog W base spare held fuel 9 cs=some x):∃s:ByteArray,cs=Fd s/\s.size<=maxLen:=by
 obtain⟨s,e,_,hw⟩:=DataW.trod_string underlying9 h;exact⟨s,e,hw⟩
theorem kR{fuel:Nat}{cs:List Value}{x:DataW H×List MemPlace}(h:AJ enc prog W base spare held fuel 4 cs=some x):∃b,cs=JM b/\True:=by
 obtain⟨s,e,_⟩:=DataW.trod_bool underlying4 h;exact⟨s,e,trivial⟩
theorem RY:prog.cellsOf 51=2:=bC
theorem WL{fuel:Nat}{cs:List Value}{x:DataW H×List MemPlace}(h:AJ enc prog W base spare held fuel 51 cs=some x):∃y:Int×Int,cs = [pE pK y.1,I_ y.2]/\True:=by
 have hl:=EH underlying51 RY h;obtain⟨_,_,h0⟩:=Az underlying51 0 rfl bE (ft:=3) (o:=0) (c:=1) rfl rfl ki h;obtain⟨F,D,J⟩:=Fg h0;have B:=Cb cs 0 1 1 rfl;rw [D] at B;obtain⟨_,_,h1⟩:=Az underlying51 1 rfl bE (ft:=3) (o:=1) (c:=1) rfl rfl ki h;obtain⟨G,e1,M⟩:=Fg h1;have g1:=Cb cs 1 1 2 rfl;rw [e1] at g1;have E:cs.drop 2 = []:=AI bB;rw [BC] at B;refine⟨(F,G),?_,trivial⟩;rw [B,g1,E];rfl
theorem UR:prog.cellsOf 53=2:=bC
theorem Zv{fuel:Nat}{cs:List Value}{x:DataW H×List MemPlace}(h:AJ enc prog W base spare held fuel 53 cs=some x):∃y:Int×Int,cs = [pE pK y.1,I_ y.2]/\True:=by
 have hl:=EH underlying53 UR h;obtain⟨_,_,h0⟩:=Az underlying53 0 rfl bE (ft:=3) (o:=0) (c:=1) rfl rfl ki h;obtain⟨F,D,J⟩:=Fg h0;have B:=Cb cs 0 1 1 rfl;rw [D] at B;obtain⟨_,_,h1⟩:=Az underlying53 1 rfl bE (ft:=3) (o:=1) (c:=1) rfl rfl ki h;obtain⟨G,e1,M⟩:=Fg h1;have g1:=Cb cs 1 1 2 rfl;rw [e1] at g1;have E:cs.drop 2 = []:=AI bB;rw [BC] at B;refine⟨(F,G),?_,trivial⟩;rw [B,g1,E];rfl
theorem Nq:prog.cellsOf 44=2:=bC
theorem Py{fuel:Nat}{cs:List Value}{x:DataW H×List MemPlace}(h:AJ enc prog W base spare held fuel 44 cs=some x):∃y:Int×Int,cs = [pE pK y.1,I_ y.2]/\True:=by
 have hl:=EH underlying44 Nq h;obtain⟨_,_,h0⟩:=Az underlying44 0 rfl bE (ft:=3) (o:=0) (c:=1) rfl rfl ki h;obtain⟨F,D,J⟩:=Fg h0;have B:=Cb cs 0 1 1 rfl;rw [D] at B;obtain⟨_,_,h1⟩:=Az underlying44 1 rfl bE (ft:=3) (o:=1) (c:=1) rfl rfl ki h;obtain⟨G,e1,M⟩:=Fg h1;have g1:=Cb cs 1 1 2 rfl;rw [e1] at g1;have E:cs.drop 2 = []:=AI bB;rw [BC] at B;refine⟨(F,G),?_,trivial⟩;rw [B,g1,E];rfl
theorem TJ:prog.cellsOf 55=5:=bC
theorem Vb{fuel:Nat}{cs:List Value}{x:DataW H×List MemPlace}(h:AJ enc prog W base spare held fuel 55 cs=some x):∃y:EX,cs=B8 y/\True:=by
 have hl:=EH underlying55 TJ h;obtain⟨_,_,h0⟩:=Az underlying55 0 rfl bE (ft:=4) (o:=0) (c:=1) rfl rfl kb h;obtain⟨M,F,N⟩:=kR h0;have B:=Cb cs 0 1 1 rfl;rw [F] at B;obtain⟨_,_,h1⟩:=Az underlying55 1 rfl bE (ft:=51) (o:=1) (c:=2) rfl rfl RY h;obtain⟨D,e1,O⟩:=WL h1;have g1:=Cb cs 1 2 3 rfl;rw [e1] at g1;obtain⟨_,_,h2⟩:=Az underlying55 2 rfl bE (ft:=53) (o:=3) (c:=2) rfl rfl UR h;obtain⟨E,G,T⟩:=Zv h2;have g2:=Cb cs 3 2 5 rfl;rw [G] at g2;have J:cs.drop 5 = []:=AI bB;rw [BC] at B;refine⟨⟨M,D.1,D.2,E.1,E.2⟩,?_,trivial⟩;rw [B,g1,g2,J];rfl
theorem YH:prog.cellsOf 81=2:=bC
theorem dQ{fuel:Nat}{cs:List Value}{x:DataW H×List MemPlace}(h:AJ enc prog W base spare held fuel 81 cs=some x):∃y:GF,cs=Eg y/\y.name.size<=maxLen:=by
 have hl:=EH underlying81 YH h;obtain⟨_,_,h0⟩:=Az underlying81 0 rfl bE (ft:=9) (o:=0) (c:=1) rfl rfl ks h;obtain⟨G,D,F⟩:=NG h0;have B:=Cb cs 0 1 1 rfl;rw [D] at B;obtain⟨_,_,h1⟩:=Az underlying81 1 rfl bE (ft:=3) (o:=1) (c:=1) rfl rfl ki h;obtain⟨J,e1,M⟩:=Fg h1;have g1:=Cb cs 1 1 2 rfl;rw [e1] at g1;have E:cs.drop 2 = []:=AI bB;rw [BC] at B;refine⟨⟨G,J⟩,?_,F⟩;rw [B,g1,E];rfl
theorem YG:prog.cellsOf 209=4:=bC
theorem dP{fuel:Nat}{cs:List Value}{x:DataW H×List MemPlace}(h:AJ enc prog W base spare held fuel 209 cs=some x):∃y:El,cs=BT y/\y.key.size<=maxLen:=by
 have hl:=EH underlying209 YG h;obtain⟨_,_,h0⟩:=Az underlying209 0 rfl bE (ft:=3) (o:=0) (c:=1) rfl rfl ki h;obtain⟨N,E,X⟩:=Fg h0;have B:=Cb cs 0 1 1 rfl;rw [E] at B;obtain⟨_,_,h1⟩:=Az underlying209 1 rfl bE (ft:=9) (o:=1) (c:=1) rfl rfl ks h;obtain⟨O,e1,M⟩:=NG h1;have g1:=Cb cs 1 1 2 rfl;rw [e1] at g1;obtain⟨_,_,h2⟩:=Az underlying209 2 rfl bE (ft:=3) (o:=2) (c:=1) rfl rfl ki h;obtain⟨T,F,Y⟩:=Fg h2;have g2:=Cb cs 2 1 3 rfl;rw [F] at g2;obtain⟨_,_,h3⟩:=Az underlying209 3 rfl bE (ft:=3) (o:=3) (c:=1) rfl rfl ki h;obtain⟨U,G,q3⟩:=Fg h3;have D:=Cb cs 3 1 4 rfl;rw [G] at D;have J:cs.drop 4 = []:=AI bB;rw [BC] at B;refine⟨⟨N,O,T,U⟩,?_,M⟩;rw [B,g1,g2,D,J];rfl
theorem YE:prog.cellsOf 73=3:=bC
theorem dN{fuel:Nat}{cs:List Value}{x:DataW H×List MemPlace}(h:AJ enc prog W base spare held fuel 73 cs=some x):∃y:IA,cs=Cu y/\True:=by
 have hl:=EH underlying73 YE h;obtain⟨_,_,h0⟩:=Az underlying73 0 rfl bE (ft:=9) (o:=0) (c:=1) rfl rfl ks h;obtain⟨G,D,N⟩:=NG h0;have B:=Cb cs 0 1 1 rfl;rw [D] at B;obtain⟨_,_,h1⟩:=Az underlying73 1 rfl bE (ft:=3) (o:=1) (c:=1) rfl rfl ki h;obtain⟨J,e1,O⟩:=Fg h1;have g1:=Cb cs 1 1 2 rfl;rw [e1] at g1;obtain⟨_,_,h2⟩:=Az underlying73 2 rfl bE (ft:=9) (o:=2) (c:=1) rfl rfl ks h;obtain⟨M,E,T⟩:=NG h2;have g2:=Cb cs 2 1 3 rfl;rw [E] at g2;have F:cs.drop 3 = []:=AI bB;rw [BC] at B;refine⟨⟨G,J,M⟩,?_,trivial⟩;rw [B,g1,g2,F];rfl
theorem YF:prog.cellsOf 57=12:=bC
theorem dO{fuel:Nat}{cs:List Value}{x:DataW H×List MemPlace}(h:AJ enc prog W base spare held fuel 57 cs=some x):∃y:FW,cs=PY y/\-9223372036854775808<=y.at_/\y.at_<=9223372036854775807:=by
 have hl:=EH underlying57 YF h;obtain⟨_,_,h0⟩:=Az underlying57 0 rfl bE (ft:=3) (o:=0) (c:=1) rfl rfl ki h;obtain⟨y0,M,q0⟩:=Fg h0;have B:=Cb cs 0 1 1 rfl;rw [M] at B;obtain⟨_,_,h1⟩:=Az underlying57 1 rfl bE (ft:=9) (o:=1) (c:=1) rfl rfl ks h;obtain⟨y1,e1,q1⟩:=NG h1;have g1:=Cb cs 1 1 2 rfl;rw [e1] at g1;obtain⟨_,_,h2⟩:=Az underlying57 2 rfl bE (ft:=3) (o:=2) (c:=1) rfl rfl ki h;obtain⟨y2,N,q2⟩:=Fg h2;have g2:=Cb cs 2 1 3 rfl;rw [N] at g2;obtain⟨_,_,h3⟩:=Az underlying57 3 rfl bE (ft:=3) (o:=3) (c:=1) rfl rfl ki h;obtain⟨y3,O,q3⟩:=Fg h3;have D:=Cb cs 3 1 4 rfl;rw [O] at D;obtain⟨_,_,h4⟩:=Az underlying57 4 rfl bE (ft:=55) (o:=4) (c:=5) rfl rfl TJ h;obtain⟨y4,T,q4⟩:=Vb h4;have E:=Cb cs 4 5 9 rfl;rw [T] at E;obtain⟨_,_,h5⟩:=Az underlying57 5 rfl bE (ft:=9) (o:=9) (c:=1) rfl rfl ks h;obtain⟨y5,U,q5⟩:=NG h5;have F:=Cb cs 9 1 10 rfl;rw [U] at F;obtain⟨_,_,h6⟩:=Az underlying57 6 rfl bE (ft:=3) (o:=10) (c:=1) rfl rfl ki h;obtain⟨y6,X,q6⟩:=Fg h6;have G:=Cb cs 10 1 11 rfl;rw [X] at G;obtain⟨_,_,h7⟩:=Az underlying57 7 rfl bE (ft:=3) (o:=11) (c:=1) rfl rfl ki h;obtain⟨y7,Y,q7⟩:=Fg h7;have J:=Cb cs 11 1 12 rfl;rw [Y] at J;have gz:cs.drop 12 = []:=AI bB;rw [BC] at B;refine⟨⟨y0,y1,y2,y3,y4,y5,y6,y7⟩,?_,q3⟩;rw [B,g1,g2,D,E,F,G,J,gz];rfl
theorem YK:prog.cellsOf 59=17:=bC
theorem dT{fuel:Nat}{cs:List Value}{x:DataW H×List MemPlace}(h:AJ enc prog W base spare held fuel 59 cs=some x):∃y:QK,cs=PZ y/\-9223372036854775808<=y.com.at_/\y.com.at_<=9223372036854775807:=by
 have hl:=EH underlying59 YK h;obtain⟨_,_,h0⟩:=Az underlying59 0 rfl bE (ft:=9) (o:=0) (c:=1) rfl rfl ks h;obtain⟨Y,G,q0⟩:=NG h0;have B:=Cb cs 0 1 1 rfl;rw [G] at B;obtain⟨_,_,h1⟩:=Az underlying59 1 rfl bE (ft:=3) (o:=1) (c:=1) rfl rfl ki h;obtain⟨y1,e1,q1⟩:=Fg h1;have g1:=Cb cs 1 1 2 rfl;rw [e1] at g1;obtain⟨_,_,h2⟩:=Az underlying59 2 rfl bE (ft:=57) (o:=2) (c:=12) rfl rfl YF h;obtain⟨y2,J,X⟩:=dO h2;have g2:=Cb cs 2 12 14 rfl;rw [J] at g2;obtain⟨_,_,h3⟩:=Az underlying59 3 rfl bE (ft:=3) (o:=14) (c:=1) rfl rfl ki h;obtain⟨y3,M,q3⟩:=Fg h3;have D:=Cb cs 14 1 15 rfl;rw [M] at D;obtain⟨_,_,h4⟩:=Az underlying59 4 rfl bE (ft:=3) (o:=15) (c:=1) rfl rfl ki h;obtain⟨y4,N,q4⟩:=Fg h4;have E:=Cb cs 15 1 16 rfl;rw [N] at E;obtain⟨_,_,U⟩:=Az underlying59 5 rfl bE (ft:=3) (o:=16) (c:=1) rfl rfl ki h;obtain⟨y5,O,q5⟩:=Fg U;have F:=Cb cs 16 1 17 rfl;rw [O] at F;have T:cs.drop 17 = []:=AI bB;rw [BC] at B;refine⟨⟨Y,y1,y2,y3,y4,y5⟩,?_,X⟩;rw [B,g1,g2,D,E,F,T];rfl
theorem fG:prog.cellsOf 61=24:=bC
theorem iF{fuel:Nat}{cs:List Value}{x:DataW H×List MemPlace}(h:AJ enc prog W base spare held fuel 61 cs=some x):∃y:Bq,cs=encJob y/\-9223372036854775808<=y.req.com.at_/\y.req.com.at_<=9223372036854775807:=by
 have hl:=EH underlying61 fG h;obtain⟨_,_,h0⟩:=Az underlying61 0 rfl bE (ft:=3) (o:=0) (c:=1) rfl rfl ki h;obtain⟨y0,M,q0⟩:=Fg h0;have B:=Cb cs 0 1 1 rfl;rw [M] at B;obtain⟨_,_,h1⟩:=Az underlying61 1 rfl bE (ft:=3) (o:=1) (c:=1) rfl rfl ki h;obtain⟨y1,e1,q1⟩:=Fg h1;have g1:=Cb cs 1 1 2 rfl;rw [e1] at g1;obtain⟨_,_,h2⟩:=Az underlying61 2 rfl bE (ft:=9) (o:=2) (c:=1) rfl rfl ks h;obtain⟨y2,N,q2⟩:=NG h2;have g2:=Cb cs 2 1 3 rfl;rw [N] at g2;obtain⟨_,_,h3⟩:=Az underlying61 3 rfl bE (ft:=59) (o:=3) (c:=17) rfl rfl YK h;obtain⟨y3,O,q3⟩:=dT h3;have D:=Cb cs 3 17 20 rfl;rw [O] at D;obtain⟨_,_,h4⟩:=Az underlying61 4 rfl bE (ft:=3) (o:=20) (c:=1) rfl rfl ki h;obtain⟨y4,T,q4⟩:=Fg h4;have E:=Cb cs 20 1 21 rfl;rw [T] at E;obtain⟨_,_,h5⟩:=Az underlying61 5 rfl bE (ft:=9) (o:=21) (c:=1) rfl rfl ks h;obtain⟨y5,U,q5⟩:=NG h5;have F:=Cb cs 21 1 22 rfl;rw [U] at F;obtain⟨_,_,h6⟩:=Az underlying61 6 rfl bE (ft:=44) (o:=22) (c:=2) rfl rfl Nq h;obtain⟨J,X,q6⟩:=Py h6;have G:=Cb cs 22 2 24 rfl;rw [X] at G;have Y:cs.drop 24 = []:=AI bB;rw [BC] at B;refine⟨⟨y0,y1,y2,y3,y4,y5,J.1,J.2⟩,?_,q3⟩;rw [B,g1,g2,D,E,F,G,Y];rfl
instance:Inhabited EX:=⟨IW⟩
instance:Inhabited El:=⟨⟨0,⟨#[]⟩,0,0⟩⟩
instance:Inhabited GF:=⟨⟨⟨#[]⟩,0⟩⟩
instance:Inhabited Bq:=⟨job0⟩
instance:Inhabited IA:=⟨⟨⟨#[]⟩,0,⟨#[]⟩⟩⟩
theorem YN:prog.cellsOf 23=1:=bC
theorem Vc{fuel:Nat}{cs:List Value}{x:DataW H×List MemPlace}(h:AJ enc prog W base spare held fuel 23 cs=some x):
  ∃y:Option Addr×List Int×Nat,cs = [pF y.1 y.2.1.length y.2.2]/\AR Fb 1 W y.1 y.2.2 y.2.1/\y.2.1.length<=9223372036854775807/\∀z∈y.2.1,(-9223372036854775808<=z/\z<=9223372036854775807):=by
 obtain⟨a,xs,c,e,hs,hl,hz⟩:=ES (α:=Int) (en:=Fb) (ok:=fun z=>(-9223372036854775808<=z/\z<=9223372036854775807)) underlying23 ki bE Eu (fun fuel cs x h=>Fg h) h;exact⟨(a,xs,c),e,hs,hl,hz⟩
theorem cZ:prog.cellsOf 24=1:=bC
theorem Zy{fuel:Nat}{cs:List Value}{x:DataW H×List MemPlace}(h:AJ enc prog W base spare held fuel 24 cs=some x):
  ∃y:Option Addr×List Bool×Nat,cs = [pF y.1 y.2.1.length y.2.2]/\AR JM 1 W y.1 y.2.2 y.2.1/\y.2.1.length<=9223372036854775807/\∀z∈y.2.1,True:=by
 obtain⟨a,xs,c,e,hs,hl,hz⟩:=ES (α:=Bool) (en:=JM) (ok:=fun z=>True) underlying24 kb bE KG (fun fuel cs x h=>kR h) h;exact⟨(a,xs,c),e,hs,hl,hz⟩
theorem gZ:prog.cellsOf 64=1:=bC
theorem dX{fuel:Nat}{cs:List Value}{x:DataW H×List MemPlace}(h:AJ enc prog W base spare held fuel 64 cs=some x):
  ∃y:Option Addr×List ByteArray×Nat,cs = [pF y.1 y.2.1.length y.2.2]/\AR Fd 1 W y.1 y.2.2 y.2.1/\y.2.1.length<=9223372036854775807/\∀z∈y.2.1,z.size<=maxLen:=by
 obtain⟨a,xs,c,e,hs,hl,hz⟩:=ES (α:=ByteArray) (en:=Fd) (ok:=fun z=>z.size<=maxLen) underlying64 ks bE DY (fun fuel cs x h=>NG h) h;exact⟨(a,xs,c),e,hs,hl,hz⟩
theorem dC:prog.cellsOf 128=1:=bC
theorem Z1{fuel:Nat}{cs:List Value}{x:DataW H×List MemPlace}(h:AJ enc prog W base spare held fuel 128 cs=some x):
  ∃y:Option Addr×List EX×Nat,cs = [pF y.1 y.2.1.length y.2.2]/\AR B8 5 W y.1 y.2.2 y.2.1/\y.2.1.length<=9223372036854775807/\∀z∈y.2.1,True:=by
 obtain⟨a,xs,c,e,hs,hl,hz⟩:=ES (α:=EX) (en:=B8) (ok:=fun z=>True) underlying128 TJ bE Cv (fun fuel cs x h=>Vb h) h;exact⟨(a,xs,c),e,hs,hl,hz⟩
theorem dA:prog.cellsOf 129=1:=bC
theorem Zz{fuel:Nat}{cs:List Value}{x:DataW H×List MemPlace}(h:AJ enc prog W base spare held fuel 129 cs=some x):
  ∃y:Option Addr×List El×Nat,cs = [pF y.1 y.2.1.length y.2.2]/\AR BT 4 W y.1 y.2.2 y.2.1/\y.2.1.length<=9223372036854775807/\∀z∈y.2.1,z.key.size<=maxLen:=by
 obtain⟨a,xs,c,e,hs,hl,hz⟩:=ES (α:=El) (en:=BT) (ok:=fun z=>z.key.size<=maxLen) underlying129 YG bE D0 (fun fuel cs x h=>dP h) h;exact⟨(a,xs,c),e,hs,hl,hz⟩
theorem dB:prog.cellsOf 22=1:=bC
theorem Z0{fuel:Nat}{cs:List Value}{x:DataW H×List MemPlace}(h:AJ enc prog W base spare held fuel 22 cs=some x):
  ∃y:Option Addr×List GF×Nat,cs = [pF y.1 y.2.1.length y.2.2]/\AR Eg 2 W y.1 y.2.2 y.2.1/\y.2.1.length<=9223372036854775807/\∀z∈y.2.1,z.name.size<=maxLen:=by
 obtain⟨a,xs,c,e,hs,hl,hz⟩:=ES (α:=GF) (en:=Eg) (ok:=fun z=>z.name.size<=maxLen) underlying22 YH bE Fc (fun fuel cs x h=>dQ h) h;exact⟨(a,xs,c),e,hs,hl,hz⟩
theorem cY:prog.cellsOf 34=1:=bC
theorem Zx{fuel:Nat}{cs:List Value}{x:DataW H×List MemPlace}(h:AJ enc prog W base spare held fuel 34 cs=some x):
  ∃y:Option Addr×List IA×Nat,cs = [pF y.1 y.2.1.length y.2.2]/\AR Cu 3 W y.1 y.2.2 y.2.1/\y.2.1.length<=9223372036854775807/\∀z∈y.2.1,True:=by
 obtain⟨a,xs,c,e,hs,hl,hz⟩:=ES (α:=IA) (en:=Cu) (ok:=fun z=>True) underlying34 YE bE DL (fun fuel cs x h=>dN h) h;exact⟨(a,xs,c),e,hs,hl,hz⟩
theorem gY:prog.cellsOf 33=1:=bC
theorem dW{fuel:Nat}{cs:List Value}{x:DataW H×List MemPlace}(h:AJ enc prog W base spare held fuel 33 cs=some x):
  ∃y:Option Addr×List Bq×Nat,cs = [pF y.1 y.2.1.length y.2.2]/\AR encJob 24 W y.1 y.2.2 y.2.1/\y.2.1.length<=9223372036854775807/\∀z∈y.2.1,(-9223372036854775808<=z.req.com.at_/\z.req.com.at_<=9223372036854775807):=by
 obtain⟨a,xs,c,e,hs,hl,hz⟩:=ES (α:=Bq) (en:=encJob) (ok:=fun z=>(-9223372036854775808<=z.req.com.at_/\z.req.com.at_<=9223372036854775807)) underlying33 fG bE Dc (fun fuel cs x h=>iF h) h;exact⟨(a,xs,c),e,hs,hl,hz⟩
theorem YM:prog.cellsOf 131=8:=bC
theorem dV{fuel:Nat}{cs:List Value}{x:DataW H×List MemPlace}(h:AJ enc prog W base spare held fuel 131 cs=some x):∃y:TV×Ten,cs=BE y.1/\(Cj W y.1 y.2/\y.2.name.size<=maxLen/\y.2.rules.length<=9223372036854775807/\y.2.creds.length<=9223372036854775807/\∀c∈y.2.creds,c.key.size<=maxLen):=by
 have hl:=EH underlying131 YM h;obtain⟨_,_,h0⟩:=Az underlying131 0 rfl bE (ft:=44) (o:=0) (c:=2) rfl rfl Nq h;obtain⟨B,e0,q0⟩:=Py h0;have F:=Cb cs 0 2 2 rfl;rw [e0] at F;obtain⟨_,_,h1⟩:=Az underlying131 1 rfl bE (ft:=9) (o:=2) (c:=1) rfl rfl ks h;obtain⟨U,e1,q1⟩:=NG h1;have g1:=Cb cs 2 1 3 rfl;rw [e1] at g1;obtain⟨_,_,h2⟩:=Az underlying131 2 rfl bE (ft:=3) (o:=3) (c:=1) rfl rfl ki h;obtain⟨X,e2,q2⟩:=Fg h2;have g2:=Cb cs 3 1 4 rfl;rw [e2] at g2;obtain⟨_,_,h3⟩:=Az underlying131 3 rfl bE (ft:=3) (o:=4) (c:=1) rfl rfl ki h;obtain⟨Y,e3,q3⟩:=Fg h3;have J:=Cb cs 4 1 5 rfl;rw [e3] at J;obtain⟨_,_,h4⟩:=Az underlying131 4 rfl bE (ft:=128) (o:=5) (c:=1) rfl rfl dC h;obtain⟨D,e4,T⟩:=Z1 h4;have M:=Cb cs 5 1 6 rfl;rw [e4] at M;obtain⟨_,_,h5⟩:=Az underlying131 5 rfl bE (ft:=129) (o:=6) (c:=1) rfl rfl dA h;obtain⟨E,e5,G⟩:=Zz h5;have N:=Cb cs 6 1 7 rfl;rw [e5] at N;obtain⟨_,_,h6⟩:=Az underlying131 6 rfl bE (ft:=3) (o:=7) (c:=1) rfl rfl ki h;obtain⟨y6,e6,q6⟩:=Fg h6;have O:=Cb cs 7 1 8 rfl;rw [e6] at O;have gz:cs.drop 8 = []:=AI bB;rw [BC] at F;refine⟨(⟨B.1,B.2,U,X,Y,D.1,D.2.1.length,D.2.2,E.1,E.2.1.length,E.2.2,y6⟩,⟨B.1,B.2,U,X,Y,D.2.1,E.2.1,y6⟩),?_,⟨⟨rfl,rfl,rfl,rfl,rfl,rfl,rfl,rfl,T.1,G.1⟩,q1,T.2.1,G.2.1,G.2.2⟩⟩;rw [F,g1,g2,J,M,N,O,gz];rfl
instance:Inhabited (TV×Ten):=⟨(⟨0,0,⟨#[]⟩,0,0,none,0,0,none,0,0,0⟩,IX)⟩
theorem hH:prog.cellsOf 27=1:=bC
theorem dY{fuel:Nat}{cs:List Value}{x:DataW H×List MemPlace}(h:AJ enc prog W base spare held fuel 27 cs=some x):
  ∃y:Option Addr×List (TV×Ten)×Nat,cs = [pF y.1 y.2.1.length y.2.2]/\AR (fun y:TV×Ten=>BE y.1) 8 W y.1 y.2.2 y.2.1/\y.2.1.length<=9223372036854775807/\∀z∈y.2.1,(Cj W z.1 z.2/\z.2.name.size<=maxLen/\z.2.rules.length<=9223372036854775807/\z.2.creds.length<=9223372036854775807/\∀c∈z.2.creds,c.key.size<=maxLen):=by
 obtain⟨a,xs,c,e,hs,hl,hz⟩:=ES (α:=(TV×Ten)) (en:=(fun y:TV×Ten=>BE y.1)) (ok:=fun z=>(Cj W z.1 z.2/\z.2.name.size<=maxLen/\z.2.rules.length<=9223372036854775807/\z.2.creds.length<=9223372036854775807/\∀c∈z.2.creds,c.key.size<=maxLen)) underlying27 YM bE (fun y=>CF y.1) (fun fuel cs x h=>dV h) h;exact⟨(a,xs,c),e,hs,hl,hz⟩
theorem eR{a:Option Addr}{c:Nat}{xs:List ByteArray}(h:AR Fd 1 W a c xs)(hl:xs.length<=9223372036854775807)(hz:∀z∈xs,z.size<=maxLen):J5 W a xs:=
 ⟨hz,hl,fun h0=>by
  obtain⟨g,off,ha,hg,hat⟩:=h.at_ h0;exact⟨g,off,ha,hg,fun i hi=>by
   have:=hat i hi 0 _ rfl
   rwa [pR,AT] at this⟩⟩
theorem YL:prog.cellsOf 147=3:=bC
theorem dU{fuel:Nat}{cs:List Value}{x:DataW H×List MemPlace}(h:AJ enc prog W base spare held fuel 147 cs=some x):∃y:SV×Sn,cs=y.1.cells/\X5 W y.1 y.2:=by
 have hl:=EH underlying147 YL h;obtain⟨_,_,h0⟩:=Az underlying147 0 rfl bE (ft:=3) (o:=0) (c:=1) rfl rfl ki h;obtain⟨F,J,O⟩:=Fg h0;have D:=Cb cs 0 1 1 rfl;rw [J] at D;obtain⟨_,_,h1⟩:=Az underlying147 1 rfl bE (ft:=64) (o:=1) (c:=1) rfl rfl gZ h;obtain⟨B,e1,E⟩:=dX h1;have g1:=Cb cs 1 1 2 rfl;rw [e1] at g1;obtain⟨_,_,h2⟩:=Az underlying147 2 rfl bE (ft:=3) (o:=2) (c:=1) rfl rfl ki h;obtain⟨G,M,T⟩:=Fg h2;have g2:=Cb cs 2 1 3 rfl;rw [M] at g2;have N:cs.drop 3 = []:=AI bB;rw [BC] at D;refine⟨(⟨F,B.1,B.2.1.length,B.2.2,G⟩,⟨F,B.2.1,G⟩),?_,⟨rfl,rfl,rfl,eR E.1 E.2.1 E.2.2⟩⟩;rw [D,g1,g2,N];rfl
instance:Inhabited (SV×Sn):=⟨(⟨0,none,0,0,0⟩,⟨0,[],0⟩)⟩
theorem dD:prog.cellsOf 30=1:=bC
theorem Z2{fuel:Nat}{cs:List Value}{x:DataW H×List MemPlace}(h:AJ enc prog W base spare held fuel 30 cs=some x):
  ∃y:Option Addr×List (SV×Sn)×Nat,cs = [pF y.1 y.2.1.length y.2.2]/\AR (fun y:SV×Sn=>y.1.cells) 3 W y.1 y.2.2 y.2.1/\y.2.1.length<=9223372036854775807/\∀z∈y.2.1,X5 W z.1 z.2:=by
 obtain⟨a,xs,c,e,hs,hl,hz⟩:=ES (α:=(SV×Sn)) (en:=(fun y:SV×Sn=>y.1.cells)) (ok:=fun z=>X5 W z.1 z.2) underlying30 YL bE (fun _=>rfl) (fun fuel cs x h=>dU h) h;exact⟨(a,xs,c),e,hs,hl,hz⟩
theorem dM{a:Option Addr}{c:Nat}{xs:List (SV×Sn)}(h:AR (fun y:SV×Sn=>y.1.cells) 3 W a c xs)(hl:xs.length<=9223372036854775807)(hz:∀z∈xs,X5 W z.1 z.2):Ib W a (xs.map (·.1)) (xs.map (·.2)):=
 ⟨by simpa using hl,fun hn=>by
  have h0:0<xs.length:=by cases xs with
   | nil=>exact absurd rfl hn
   | cons _ _=>simp
  obtain⟨g,off,D,hg,hat⟩:=h.at_ h0;refine⟨g,off,D,hg,fun i hi=>?_⟩;have B:i<xs.length:=by simpa using hi
  simp only [List.getElem_map];exact⟨hat i B 0 _ rfl,hat i B 1 _ rfl,hat i B 2 _ rfl⟩,by simp,fun i h1 h2=>by
  have B:i<xs.length:=bR;simp only [List.getElem_map];exact hz _ (pS B)⟩
theorem fH:∀ {xs:List (TV×Ten)},(∀z∈xs,Cj W z.1 z.2)->AX W (xs.map (·.1)) (xs.map (·.2))
 | [],_=>trivial
 | x::l,h=>⟨h x bA,fH fun z hz=>h z (by simp [hz])⟩
theorem US:prog.cellsOf 26=3:=bC
theorem Zw{fuel:Nat}{cs:List Value}{x:DataW H×List MemPlace}(h:AJ enc prog W base spare held fuel 26 cs=some x):∃y:DF×Fz,cs = [pF y.1.ga y.2.gens.length y.1.gc,pF y.1.ua y.2.used.length y.1.uc,pF y.1.fa y.2.free.length y.1.fc]/\(F1 W y.1.ga y.1.gc y.2.gens/\GX W y.1.ua y.1.uc y.2.used/\F1 W y.1.fa y.1.fc y.2.free):=by
 have hl:=EH underlying26 US h;obtain⟨_,_,h0⟩:=Az underlying26 0 rfl bE (ft:=23) (o:=0) (c:=1) rfl rfl YN h;obtain⟨D,G,N⟩:=Vc h0;have B:=Cb cs 0 1 1 rfl;rw [G] at B;obtain⟨_,_,h1⟩:=Az underlying26 1 rfl bE (ft:=24) (o:=1) (c:=1) rfl rfl cZ h;obtain⟨E,e1,O⟩:=Zy h1;have g1:=Cb cs 1 1 2 rfl;rw [e1] at g1;obtain⟨_,_,h2⟩:=Az underlying26 2 rfl bE (ft:=23) (o:=2) (c:=1) rfl rfl YN h;obtain⟨F,J,T⟩:=Vc h2;have g2:=Cb cs 2 1 3 rfl;rw [J] at g2;have M:cs.drop 3 = []:=AI bB;rw [BC] at B;refine⟨(⟨D.1,D.2.2,E.1,E.2.2,F.1,F.2.2⟩,⟨D.2.1,E.2.1,F.2.1⟩),?_,⟨N.1,O.1,T.1⟩⟩;rw [B,g1,g2,M];rfl
theorem YJ:prog.cellsOf 29=5:=bC
theorem dS{fuel:Nat}{cs:List Value}{x:DataW H×List MemPlace}(h:AJ enc prog W base spare held fuel 29 cs=some x):∃y:B6×CJ,cs = [pF y.1.s.ga y.2.slots.gens.length y.1.s.gc,pF y.1.s.ua y.2.slots.used.length y.1.s.uc,pF y.1.s.fa y.2.slots.free.length y.1.s.fc,pF y.1.la y.1.lv.length y.1.lc,I_ y.2.seq]/\(Lw W y.1 y.2/\y.1.lv.length<=9223372036854775807):=by
 have hl:=EH underlying29 YJ h;obtain⟨_,_,h0⟩:=Az underlying29 0 rfl bE (ft:=26) (o:=0) (c:=3) rfl rfl US h;obtain⟨G,J,F⟩:=Zw h0;have E:=Cb cs 0 3 3 rfl;rw [J] at E;obtain⟨_,_,h1⟩:=Az underlying29 1 rfl bE (ft:=27) (o:=3) (c:=1) rfl rfl hH h;obtain⟨D,e1,B⟩:=dY h1;have g1:=Cb cs 3 1 4 rfl;rw [e1] at g1;obtain⟨_,_,h2⟩:=Az underlying29 2 rfl bE (ft:=3) (o:=4) (c:=1) rfl rfl ki h;obtain⟨O,M,T⟩:=Fg h2;have g2:=Cb cs 4 1 5 rfl;rw [M] at g2;have N:cs.drop 5 = []:=AI bB;rw [BC] at E;refine⟨(⟨G.1,D.1,D.2.2,D.2.1.map (·.1)⟩,⟨G.2,D.2.1.map (·.2),O⟩),?_,⟨⟨F.1,F.2.1,F.2.2,AR.map (α:=TV×Ten) (enc:=BE) (fun z=>z.1) B.1,fH fun z hz=>(B.2.2 z hz).1,fun t ht=>by
  obtain⟨z,hz,rfl⟩:=BO.1 ht;exact(B.2.2 z hz).2⟩,by simpa using B.2.1⟩⟩
 rw [E,g1,g2,N];simp [Fb]
theorem YI:prog.cellsOf 32=2:=bC
theorem dR{fuel:Nat}{cs:List Value}{x:DataW H×List MemPlace}(h:AJ enc prog W base spare held fuel 32 cs=some x):∃y:(Option Addr×List (SV×Sn)×Nat)×Int,cs = [pF y.1.1 y.1.2.1.length y.1.2.2,I_ y.2]/\(Ib W y.1.1 (y.1.2.1.map (·.1)) (y.1.2.1.map (·.2))):=by
 have hl:=EH underlying32 YI h;obtain⟨_,_,h0⟩:=Az underlying32 0 rfl bE (ft:=30) (o:=0) (c:=1) rfl rfl dD h;obtain⟨G,E,D⟩:=Z2 h0;have B:=Cb cs 0 1 1 rfl;rw [E] at B;obtain⟨_,_,h1⟩:=Az underlying32 1 rfl bE (ft:=3) (o:=1) (c:=1) rfl rfl ki h;obtain⟨J,e1,M⟩:=Fg h1;have g1:=Cb cs 1 1 2 rfl;rw [e1] at g1;have F:cs.drop 2 = []:=AI bB;rw [BC] at B;refine⟨(G,J),?_,dM D.1 D.2.1 D.2.2⟩;rw [B,g1,F];rfl
theorem kQ:prog.cellsOf 36=10:=bC
theorem Jp{v:Value}{d:DataW H}{p:List MemPlace}(hv:Value.okWide prog W .any 0 36 v)(h:DataW.Trod enc prog W base spare held 36 v d p):∃(u:CV) (c:BN),v = pH (ctlA u)/\GY W u c:=by
 obtain⟨B,rfl,_⟩:=okWide_struct underlying36 hv;obtain⟨fuel,h⟩:=h;obtain⟨cs,D⟩:=eX ((pH B).cells.toList);rw [D] at h;have hl:=EH underlying36 kQ h;obtain⟨_,_,h0⟩:=Az underlying36 0 rfl bE (ft:=22) (o:=0) (c:=1) rfl rfl dB h;obtain⟨G,e0,O⟩:=Z0 h0;have N:=Cb cs 0 1 1 rfl;rw [e0] at N;obtain⟨_,_,h1⟩:=Az underlying36 1 rfl bE (ft:=29) (o:=1) (c:=5) rfl rfl YJ h;obtain⟨E,e1,Y⟩:=dS h1;have g1:=Cb cs 1 5 6 rfl;rw [e1] at g1;obtain⟨_,_,h2⟩:=Az underlying36 2 rfl bE (ft:=32) (o:=6) (c:=2) rfl rfl YI h;obtain⟨F,e2,q2⟩:=dR h2;have g2:=Cb cs 6 2 8 rfl;rw [e2] at g2;obtain⟨_,_,h3⟩:=Az underlying36 3 rfl bE (ft:=33) (o:=8) (c:=1) rfl rfl gY h;obtain⟨J,e3,T⟩:=dW h3;have U:=Cb cs 8 1 9 rfl;rw [e3] at U;obtain⟨_,_,h4⟩:=Az underlying36 4 rfl bE (ft:=34) (o:=9) (c:=1) rfl rfl cY h;obtain⟨M,e4,q4⟩:=Zx h4;have X:=Cb cs 9 1 10 rfl;rw [e4] at X;have gz:cs.drop 10 = []:=AI bB;rw [BC] at N;refine⟨⟨G.1,G.2.1.length,G.2.2,E.1,E.2.slots.gens.length,E.2.slots.used.length,E.2.slots.free.length,E.1.lv.length,E.2.seq,F.1.1,F.1.2.1.length,F.1.2.2,F.1.2.1.map (·.1),F.2,J.1,J.2.1.length,J.2.2,M.1,M.2.1.length,M.2.2⟩,⟨G.2.1,E.2,⟨F.1.2.1.map (·.2),F.2⟩,J.2.1,M.2.1⟩,?_,?_⟩
 ·rw [N,g1,g2,U,X,gz] at D
  refine congrArg pH ?_;show B=_;obtain⟨l⟩:=B;rw [show l=_ from D];rfl
 ·exact { o:=O.1,on:=rfl,ol:=O.2.1,os:=O.2.2,r:=Y.1,g:=rfl,u:=rfl,f:=rfl,l:=rfl,ll:=Y.2,q:=rfl,p:=q2,pn:=by simp,nx:=rfl,j:=T.1,jn:=rfl,jl:=T.2.1,js:=T.2.2,d:=q4.1,dn:=rfl,dl:=q4.2.1 }
end
end
section
theorem u5:True:=trivial
end
end Go.Proofs.YtjieiikpolahfaaGreatDoor
