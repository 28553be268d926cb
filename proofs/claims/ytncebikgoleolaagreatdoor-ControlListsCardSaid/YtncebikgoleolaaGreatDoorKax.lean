/- Steps. -/
import Derived.Test.YtncebikgoleolaaGreatDoorK0
import Derived.Shelf.Strings.Builder1
import Derived.Shelf.Strings.Builder2
import Derived.Shelf.Strings.OnBuilder
import Derived.Shelf.Small.Utf8
import Derived.Shelf.Small.Strs
import Derived.Shelf.Utf8.RuneCount
import Derived.Shelf.Strconv.Atoi
import Derived.Shelf.Strconv.Itoa0
import Derived.Shelf.Strconv.Itoa1
import Derived.Shelf.LaysM
import Derived.Shelf.Strconv.Itoa2
import Derived.Shelf.Strconv.Itoa3
import Derived.Shelf.Strconv.AtoiErrFast
import Derived.Shelf.Strconv.ParseIntEmpty
import Derived.Shelf.Strconv.AtoiFail
import Derived.Shelf.Strconv.Clone
import Derived.Shelf.Strconv.SyntaxError
import Derived.Shelf.LaysC
import Derived.Shelf.Strconv.ToError
import Derived.Shelf.Strconv.Lower
import Derived.Shelf.Strconv.ParseUint10
import Derived.Shelf.Strconv.ParseUint10Empty
import Derived.Shelf.Strconv.ParseUint10Any
import Derived.Shelf.Strconv.ParseInt10
import Derived.Shelf.Strconv.AtoiLong
import Derived.Shelf.Strconv.AtoiInnerAll
import Derived.Shelf.Strconv.RangeError
import Derived.Shelf.Strconv.ToErrorRange
import Derived.Shelf.Strconv.AtoiAll
import Derived.Shelf.Strings.Search1
import Derived.Shelf.Strings.Search2
import Derived.Shelf.Strings.Search3
import Derived.Shelf.Strings.Cut
import Derived.Shelf.Strings.Count
import Derived.Shelf.Strings.Shaped
import Derived.Shelf.Strings.Split
import Derived.Shelf.Strings.Runes
import Derived.Shelf.Strings.RuneCount
import Derived.Shelf.Strings.IndexAny
import Derived.Shelf.Strings.AsciiSet
import Derived.Shelf.Strings.IndexAnyAll
import Derived.Ground.Names2Prog
import Derived.Shelf.Slices.Clone
import Derived.Ground.SlgnProg
import Derived.Shelf.SlicesE.Clone
import Derived.Test.YtncebikgoleolaaGreatDoorProg
set_option maxRecDepth 100000
set_option maxHeartbeats 8000000
set_option linter.all false
namespace Go.Proofs.YtncebikgoleolaaGreatDoor
open Tryz
open Ending renaming returned→pJ
open IntKind renaming i64→pK
open Lib renaming atoiAll→vI
open Value renaming bool→pI,int→pE,pointer→pG,slice→pF,string→Dz
end Go.Proofs.YtncebikgoleolaaGreatDoor
section
open Go.Proofs.YtncebikgoleolaaGreatDoor Go.Proofs.Tryz
namespace Go.Proofs
open Ending renaming returned→pJ
open IntKind renaming i64→pK
open Lib renaming atoiAll→vI
open Value renaming bool→pI,int→pE,pointer→pG,slice→pF,string→Dz
open Go.Shelf
def Tryz.lays156_ren:Go.Shelf.Ren:=⟨fun | 156=>221 | 165=>243 | 166=>244 | 169=>245 | 240=>266 | 241=>267 | 276=>289 | 277=>290 | n=>n,fun | 31=>41 | 9=>9 | 3=>3 | 4=>4 | 0=>0 | 20=>20 | 72=>392 | 76=>328 | 70=>390 | 37=>166 | 75=>116 | 127=>436 | 164=>225 | 5=>5 | 80=>301 | n=>n,fun | n=>n⟩
theorem Tryz.lays156:Go.Proofs.Lays.n156 prog lays156_ren:={ mixed:=by kernel_rfl,f156:=qC func221,f165:=qC func243,f166:=qC func244,f169:=qC func245,f240:=qC func266,f241:=qC func267,f276:=qC func289,f277:=qC func290,t0:=underlying0,a0:=isAgg0,z0:=sizeOf0,v0:=zeroValue0,t3:=underlying3,a3:=isAgg3,z3:=sizeOf3,v3:=zeroValue3,t4:=underlying4,a4:=isAgg4,z4:=sizeOf4,v4:=zeroValue4,t9:=underlying9,a9:=isAgg9,z9:=sizeOf9,v9:=zeroValue9,t20:=underlying20,a20:=isAgg20,z20:=sizeOf20,v20:=zeroValue20,t31:=underlying41,a31:=isAgg41,z31:=sizeOf41,v31:=zeroValue41,t37:=underlying166,a37:=isAgg166,z37:=sizeOf166,v37:=zeroValue166,t70:=underlying390,a70:=isAgg390,z70:=sizeOf390,v70:=zeroValue390,t72:=underlying392,a72:=isAgg392,z72:=sizeOf392,v72:=zeroValue392,t75:=underlying116,a75:=isAgg116,z75:=sizeOf116,v75:=zeroValue116,t76:=underlying328,a76:=isAgg328,z76:=sizeOf328,v76:=zeroValue328,t127:=underlying436,a127:=isAgg436,z127:=sizeOf436,v127:=zeroValue436,t164:=underlying225,a164:=isAgg225,z164:=sizeOf225,v164:=zeroValue225 }
theorem Tryz.Builder_Extra_156:Builder.Extra prog lays156_ren:={ sizeBuilder:=by kernel_rfl,liesBuilder:=by kernel_rfl,t5:=underlying5,a5:=isAgg5,z5:=sizeOf5,v5:=zeroValue5,infoByte:=by kernel_rfl,cellsByte:=by kernel_rfl,sizeByte:=by kernel_rfl,neB5:=by decide }
open Go.RowKit in
theorem Tryz.strings_Join_none(a:Option Addr)(c:Nat)(sep:ByteArray)(w:World):
  Calls prog 221 #[pF a 0 c,Dz sep] w fun e w'=>e = pJ (Dz ⟨#[]⟩)/\w'=w:=Any.strings_Join_none lays156 Tryz.Builder_Extra_156 a c sep w
open Go.RowKit in
theorem Tryz.strings_Join(bk o c:Nat)(xs:List ByteArray)(sep:ByteArray)(w:World)(hcells:∀(j:Nat) x,xs[j]? = some x->w.cell? (A_ bk (o+j))=some (Dz x))(hbk:bk<w.heap.size)(hN:xs.length<=140737488355328)(hcap:xs.length<=c)(hlen:(Lib.join (xs.map (·.data.toList)) sep.data.toList).length<=140737488355328):
  Calls prog 221 #[pF (some (A_ bk o)) xs.length c,Dz sep] w fun e w'=>e = pJ (Dz ⟨(Lib.join (xs.map (·.data.toList)) sep.data.toList).toArray⟩)/\Below w w w':=Any.strings_Join lays156 Tryz.Builder_Extra_156 bk o c xs sep w hcells hbk hN hcap hlen
def Tryz.laysM171_ren:Go.Shelf.Ren:=⟨fun | 171=>163 | 243=>199 | 246=>219 | 283=>236 | 284=>237 | 285=>238 | 286=>239 | 129=>259 | 317=>258 | 318=>260 | 319=>261 | 320=>262 | 337=>280 | 338=>281 | n=>n,fun | 3=>3 | 9=>9 | 2=>2 | 4=>4 | 171=>381 | 0=>0 | 53=>382 | 37=>166 | 5=>5 | 173=>385 | 212=>415 | 51=>416 | 20=>20 | 213=>417 | 46=>396 | 232=>469 | 233=>470 | n=>n,fun | 17=>12 | 18=>14 | 19=>15 | n=>n⟩
theorem Tryz.laysM171:Go.Proofs.LaysM.n171 prog laysM171_ren:={ mixed:=by kernel_rfl,f129:=qC func259,f171:=qC func163,f243:=qC func199,f246:=qC func219,f283:=qC func236,f284:=qC func237,f285:=qC func238,f286:=qC func239,f317:=qC func258,f318:=qC func260,f319:=qC func261,f320:=qC func262,f337:=qC func280,f338:=qC func281,t0:=underlying0,a0:=isAgg0,z0:=sizeOf0,v0:=zeroValue0,t2:=underlying2,a2:=isAgg2,z2:=sizeOf2,v2:=zeroValue2,t3:=underlying3,a3:=isAgg3,z3:=sizeOf3,v3:=zeroValue3,t4:=underlying4,a4:=isAgg4,z4:=sizeOf4,v4:=zeroValue4,t5:=underlying5,a5:=isAgg5,z5:=sizeOf5,v5:=zeroValue5,t9:=underlying9,a9:=isAgg9,z9:=sizeOf9,v9:=zeroValue9,t20:=underlying20,a20:=isAgg20,z20:=sizeOf20,v20:=zeroValue20,t37:=underlying166,a37:=isAgg166,z37:=sizeOf166,v37:=zeroValue166,t46:=underlying396,a46:=isAgg396,z46:=sizeOf396,v46:=zeroValue396,t51:=underlying416,a51:=isAgg416,z51:=sizeOf416,v51:=zeroValue416,t53:=underlying382,a53:=isAgg382,z53:=sizeOf382,v53:=zeroValue382,t171:=underlying381,a171:=isAgg381,z171:=sizeOf381,v171:=zeroValue381,t173:=underlying385,a173:=isAgg385,z173:=sizeOf385,v173:=zeroValue385,t212:=underlying415,a212:=isAgg415,z212:=sizeOf415,v212:=zeroValue415,t213:=underlying417,a213:=isAgg417,z213:=sizeOf417,t232:=underlying469,a232:=isAgg469,z232:=sizeOf469,v232:=zeroValue469,t233:=underlying470,a233:=isAgg470,z233:=sizeOf470,v233:=zeroValue470,g17:=by kernel_rfl,g18:=by kernel_rfl,g19:=by kernel_rfl,i0:=by kernel_rfl,i2:=by kernel_rfl,i3:=by kernel_rfl,i4:=by kernel_rfl,i5:=by kernel_rfl,i9:=by kernel_rfl,i20:=by kernel_rfl,i37:=by kernel_rfl,i46:=by kernel_rfl,i51:=by kernel_rfl,i53:=by kernel_rfl,i171:=by kernel_rfl,i173:=by kernel_rfl,i212:=by kernel_rfl,i232:=by kernel_rfl,i233:=by kernel_rfl,m17:=by kernel_rfl,m18:=by kernel_rfl,m19:=by kernel_rfl }
open Go.RowKit Go.Sort Go.Lib in
theorem Tryz.strconv_Itoa(n:Int)(h0 : -9223372036854775808<=n)(h1:n<=9223372036854775807)(w:World)(htab:Lib.TabIs prog w "internal/strconv.uint64pow10" .u64 Lib.pow10Tab) :
  Calls prog 163 #[pE pK n] w fun e w'=>e = pJ (Dz ⟨(Lib.itoa n).toArray⟩)/\∃k os,w'=grow (w.drewN k) os:=Any.strconv_Itoa laysM171 n h0 h1 w htab
def Tryz.laysC172_ren:Go.Shelf.Ren:=⟨fun | 172=>183 | 244=>212 | 245=>213 | 247=>227 | 279=>228 | 280=>229 | 281=>230 | 282=>231 | 287=>248 | 316=>249 | 171=>163 | 205=>250 | 321=>269 | 322=>270 | 243=>199 | 246=>219 | 283=>236 | 284=>237 | 285=>238 | 286=>239 | 129=>259 | 317=>258 | 318=>260 | 319=>261 | 320=>262 | 337=>280 | 338=>281 | n=>n,fun | 9=>9 | 3=>3 | 75=>116 | 76=>328 | 4=>4 | 5=>5 | 167=>369 | 37=>166 | 0=>0 | 85=>370 | 2=>2 | 168=>372 | 53=>382 | 175=>394 | 46=>396 | 210=>398 | 127=>436 | 145=>440 | 143=>438 | 21=>21 | 171=>381 | 173=>385 | 212=>415 | 51=>416 | 20=>20 | 213=>417 | 232=>469 | 233=>470 | 80=>301 | n=>n,fun | 15=>9 | 16=>10 | 17=>12 | 18=>14 | 19=>15 | n=>n⟩
theorem Tryz.laysC172:Go.Proofs.LaysC.n172 prog laysC172_ren:={ mixed:=by kernel_rfl,f129:=qC func259,f171:=qC func163,f172:=qC func183,f205:=qC func250,f243:=qC func199,f244:=qC func212,f245:=qC func213,f246:=qC func219,f247:=qC func227,f279:=qC func228,f280:=qC func229,f281:=qC func230,f282:=qC func231,f283:=qC func236,f284:=qC func237,f285:=qC func238,f286:=qC func239,f287:=qC func248,f316:=qC func249,f317:=qC func258,f318:=qC func260,f319:=qC func261,f320:=qC func262,f321:=qC func269,f322:=qC func270,f337:=qC func280,f338:=qC func281,t0:=underlying0,a0:=isAgg0,z0:=sizeOf0,v0:=zeroValue0,t2:=underlying2,a2:=isAgg2,z2:=sizeOf2,v2:=zeroValue2,t3:=underlying3,a3:=isAgg3,z3:=sizeOf3,v3:=zeroValue3,t4:=underlying4,a4:=isAgg4,z4:=sizeOf4,v4:=zeroValue4,t5:=underlying5,a5:=isAgg5,z5:=sizeOf5,v5:=zeroValue5,t9:=underlying9,a9:=isAgg9,z9:=sizeOf9,v9:=zeroValue9,t20:=underlying20,a20:=isAgg20,z20:=sizeOf20,v20:=zeroValue20,t21:=underlying21,a21:=isAgg21,z21:=sizeOf21,v21:=zeroValue21,t37:=underlying166,a37:=isAgg166,z37:=sizeOf166,v37:=zeroValue166,t46:=underlying396,a46:=isAgg396,z46:=sizeOf396,v46:=zeroValue396,t51:=underlying416,a51:=isAgg416,z51:=sizeOf416,v51:=zeroValue416,t53:=underlying382,a53:=isAgg382,z53:=sizeOf382,v53:=zeroValue382,t75:=underlying116,a75:=isAgg116,z75:=sizeOf116,v75:=zeroValue116,t76:=underlying328,a76:=isAgg328,z76:=sizeOf328,v76:=zeroValue328,t85:=underlying370,a85:=isAgg370,z85:=sizeOf370,v85:=zeroValue370,t127:=underlying436,a127:=isAgg436,z127:=sizeOf436,v127:=zeroValue436,t143:=underlying438,a143:=isAgg438,z143:=sizeOf438,v143:=zeroValue438,t145:=underlying440,a145:=isAgg440,z145:=sizeOf440,v145:=zeroValue440,t167:=underlying369,a167:=isAgg369,z167:=sizeOf369,v167:=zeroValue369,t168:=underlying372,a168:=isAgg372,z168:=sizeOf372,v168:=zeroValue372,t171:=underlying381,a171:=isAgg381,z171:=sizeOf381,v171:=zeroValue381,t173:=underlying385,a173:=isAgg385,z173:=sizeOf385,v173:=zeroValue385,t175:=underlying394,a175:=isAgg394,z175:=sizeOf394,v175:=zeroValue394,t210:=underlying398,a210:=isAgg398,z210:=sizeOf398,v210:=zeroValue398,t212:=underlying415,a212:=isAgg415,z212:=sizeOf415,v212:=zeroValue415,t213:=underlying417,a213:=isAgg417,z213:=sizeOf417,t232:=underlying469,a232:=isAgg469,z232:=sizeOf469,v232:=zeroValue469,t233:=underlying470,a233:=isAgg470,z233:=sizeOf470,v233:=zeroValue470,g15:=by kernel_rfl,g16:=by kernel_rfl,g17:=by kernel_rfl,g18:=by kernel_rfl,g19:=by kernel_rfl,t80:=underlying301,a80:=isAgg301,z80:=sizeOf301,v80:=zeroValue301,i0:=by kernel_rfl,i2:=by kernel_rfl,i3:=by kernel_rfl,i4:=by kernel_rfl,i5:=by kernel_rfl,i9:=by kernel_rfl,i20:=by kernel_rfl,i21:=by kernel_rfl,i37:=by kernel_rfl,i46:=by kernel_rfl,i51:=by kernel_rfl,i53:=by kernel_rfl,i75:=by kernel_rfl,i76:=by kernel_rfl,i80:=by kernel_rfl,i85:=by kernel_rfl,i127:=by kernel_rfl,i143:=by kernel_rfl,i145:=by kernel_rfl,i167:=by kernel_rfl,i168:=by kernel_rfl,i171:=by kernel_rfl,i173:=by kernel_rfl,i175:=by kernel_rfl,i210:=by kernel_rfl,i212:=by kernel_rfl,i232:=by kernel_rfl,i233:=by kernel_rfl,m15:=by kernel_rfl,m16:=by kernel_rfl,m17:=by kernel_rfl,m18:=by kernel_rfl,m19:=by kernel_rfl,c0:=by kernel_rfl,c2:=by kernel_rfl,c3:=by kernel_rfl,c4:=by kernel_rfl,c5:=by kernel_rfl,c9:=by kernel_rfl,c20:=by kernel_rfl,c21:=by kernel_rfl,c37:=by kernel_rfl,c46:=by kernel_rfl,c51:=by kernel_rfl,c53:=by kernel_rfl,c75:=by kernel_rfl,c76:=by kernel_rfl,c80:=by kernel_rfl,c85:=by kernel_rfl,c127:=by kernel_rfl,c143:=by kernel_rfl,c145:=by kernel_rfl,c167:=by kernel_rfl,c168:=by kernel_rfl,c171:=by kernel_rfl,c173:=by kernel_rfl,c175:=by kernel_rfl,c210:=by kernel_rfl,c212:=by kernel_rfl,c213:=by kernel_rfl,c232:=by kernel_rfl,c233:=by kernel_rfl }
open Go.RowKit in
theorem Tryz.strconv_Atoi_ok(s:ByteArray)(hmax:s.size<=9223372036854775806)(v:Int)(h:vI s.data.toList = .ok v)(w:World):
  Calls prog 183 #[Dz s] w fun e w'=>e = pJ (.tuple #[pE pK v,.nilIface])/\(w'=w\/∃t,w'=Lib.bytesWorld w 5 t):=Any.strconv_Atoi_ok laysC172 s hmax v h w
open Go.RowKit in
theorem Tryz.strconv_Atoi_syntax(s:ByteArray)(hlim:s.size<=281474976710656)(h:vI s.data.toList=vI [])(ev:Value)(w:World)(hv:w.cell? (A_ 9 0)=some ev)(hev:ev = .nilIface\/∃te pe,ev = .iface te pe):
  Calls prog 183 #[Dz s] w fun e w'=>∃N,e = pJ (.tuple #[pE pK (0),.iface 372 (p_ N 0)])/\w.heap.size<=N/\w'.heap[N]? = some (.cells #[Dz ⟨#[65,116,111,105]⟩,Dz s,ev] 398 (0,0))/\Below w w w':=Any.strconv_Atoi_syntax laysC172 s hlim h ev w hv hev
open Go.RowKit in
theorem Tryz.strconv_Atoi_range(s:ByteArray)(hlim:s.size<=281474976710656)(h:vI s.data.toList = .range)(ev:Value)(w:World)(hv:w.cell? (A_ 10 0)=some ev)(hev:ev = .nilIface\/∃te pe,ev = .iface te pe):
  Calls prog 183 #[Dz s] w fun e w'=>∃N,e = pJ (.tuple #[pE pK (Lib.atoiSat s.data.toList),.iface 372 (p_ N 0)])/\w.heap.size<=N/\w'.heap[N]? = some (.cells #[Dz ⟨#[65,116,111,105]⟩,Dz s,ev] 398 (0,0))/\Below w w w':=Any.strconv_Atoi_range laysC172 s hlim h ev w hv hev
def Tryz.lays145_ren:Go.Shelf.Ren:=⟨fun | 145=>251 | 220=>271 | 219=>292 | 217=>305 | 225=>298 | 224=>297 | 267=>306 | 266=>314 | 314=>315 | n=>n,fun | 9=>9 | 4=>4 | 59=>400 | 3=>3 | 5=>5 | 46=>396 | 146=>503 | 51=>416 | n=>n,fun | 1=>16 | n=>n⟩
theorem Tryz.lays145:Go.Proofs.Lays.n145 prog lays145_ren:={ mixed:=by kernel_rfl,f145:=qC func251,f217:=qC func305,f219:=qC func292,f220:=qC func271,f224:=qC func297,f225:=qC func298,f266:=qC func314,f267:=qC func306,f314:=qC func315,t3:=underlying3,a3:=isAgg3,z3:=sizeOf3,v3:=zeroValue3,t4:=underlying4,a4:=isAgg4,z4:=sizeOf4,v4:=zeroValue4,t5:=underlying5,a5:=isAgg5,z5:=sizeOf5,v5:=zeroValue5,t9:=underlying9,a9:=isAgg9,z9:=sizeOf9,v9:=zeroValue9,t46:=underlying396,a46:=isAgg396,z46:=sizeOf396,v46:=zeroValue396,t51:=underlying416,a51:=isAgg416,z51:=sizeOf416,v51:=zeroValue416,t59:=underlying400,a59:=isAgg400,z59:=sizeOf400,v59:=zeroValue400,t146:=underlying503,a146:=isAgg503,z146:=sizeOf503,v146:=zeroValue503,g1:=by kernel_rfl }
open Go.RowKit Go.Lib in
theorem Tryz.strings_Cut(s sep:ByteArray)(m:Int)(w:World)(hs:s.size<4294967281)(hm:w.cell? (A_ 16 0)=some (I_ m)):
  Calls prog 251 #[Dz s,Dz sep] w fun e w'=>e = pJ (.tuple #[Dz ⟨(Lib.cut s.data.toList sep.data.toList).1.toArray⟩,Dz ⟨(Lib.cut s.data.toList sep.data.toList).2.1.toArray⟩,pI (Lib.cut s.data.toList sep.data.toList).2.2])/\∃n,w'=w.drewN n:=Any.strings_Cut lays145 s sep m w hs hm
def Tryz.lays138_ren:Go.Shelf.Ren:=⟨fun | 138=>385 | 195=>386 | 218=>387 | 143=>388 | 219=>292 | 217=>305 | 225=>298 | 224=>297 | 267=>306 | 266=>314 | 314=>315 | n=>n,fun | 9=>9 | 3=>3 | 4=>4 | 5=>5 | 0=>0 | 46=>396 | 146=>503 | 51=>416 | n=>n,fun | 1=>16 | n=>n⟩
theorem Tryz.lays138:Go.Proofs.Lays.n138 prog lays138_ren:={ mixed:=by kernel_rfl,f138:=qC func385,f143:=qC func388,f195:=qC func386,f217:=qC func305,f218:=qC func387,f219:=qC func292,f224:=qC func297,f225:=qC func298,f266:=qC func314,f267:=qC func306,f314:=qC func315,t0:=underlying0,a0:=isAgg0,z0:=sizeOf0,v0:=zeroValue0,t3:=underlying3,a3:=isAgg3,z3:=sizeOf3,v3:=zeroValue3,t4:=underlying4,a4:=isAgg4,z4:=sizeOf4,v4:=zeroValue4,t5:=underlying5,a5:=isAgg5,z5:=sizeOf5,v5:=zeroValue5,t9:=underlying9,a9:=isAgg9,z9:=sizeOf9,v9:=zeroValue9,t46:=underlying396,a46:=isAgg396,z46:=sizeOf396,v46:=zeroValue396,t51:=underlying416,a51:=isAgg416,z51:=sizeOf416,v51:=zeroValue416,t146:=underlying503,a146:=isAgg503,z146:=sizeOf503,v146:=zeroValue503,g1:=by kernel_rfl }
open Go.RowKit Go.Lib in
theorem Tryz.strings_Count_one(s:ByteArray)(c:UInt8)(w:World):
  Calls prog 385 #[Dz s,Dz ⟨#[c]⟩] w fun e w'=>e = pJ (I_ (Lib.countByte s.data.toList c))/\w'=w:=Any.strings_Count_one lays138 s c w
def Tryz.lays150_ren:Go.Shelf.Ren:=⟨fun | 150=>240 | 153=>263 | 152=>282 | 226=>283 | 227=>284 | 228=>285 | 137=>295 | 119=>296 | 224=>297 | 225=>298 | 217=>305 | 266=>314 | n=>n,fun | 9=>9 | 4=>4 | 3=>3 | 5=>5 | 21=>21 | 117=>457 | 116=>456 | 0=>0 | 46=>396 | 124=>473 | n=>n,fun | n=>n⟩
theorem Tryz.lays150:Go.Proofs.Lays.n150 prog lays150_ren:={ mixed:=by kernel_rfl,f119:=qC func296,f137:=qC func295,f150:=qC func240,f152:=qC func282,f153:=qC func263,f217:=qC func305,f224:=qC func297,f225:=qC func298,f226:=qC func283,f227:=qC func284,f228:=qC func285,f266:=qC func314,t0:=underlying0,a0:=isAgg0,z0:=sizeOf0,v0:=zeroValue0,t3:=underlying3,a3:=isAgg3,z3:=sizeOf3,v3:=zeroValue3,t4:=underlying4,a4:=isAgg4,z4:=sizeOf4,v4:=zeroValue4,t5:=underlying5,a5:=isAgg5,z5:=sizeOf5,v5:=zeroValue5,t9:=underlying9,a9:=isAgg9,z9:=sizeOf9,v9:=zeroValue9,t21:=underlying21,a21:=isAgg21,z21:=sizeOf21,v21:=zeroValue21,t46:=underlying396,a46:=isAgg396,z46:=sizeOf396,v46:=zeroValue396,t116:=underlying456,a116:=isAgg456,z116:=sizeOf456,t117:=underlying457,a117:=isAgg457,z117:=sizeOf457,v117:=zeroValue457,t124:=underlying473,a124:=isAgg473,z124:=sizeOf473,v124:=zeroValue473 }
open Go.RowKit Go.Lib in
theorem Tryz.strings_ContainsAny_laid(s chars:ByteArray)(w:World)(hs:s.size<4294967281)(hcs:chars.size<4294967281)(has:∀(j:Nat) b,s.data.toList[j]? = some b->b.toNat<128)(hac:∀(j:Nat) b,chars.data.toList[j]? = some b->b.toNat<128):
  Calls prog 240 #[Dz s,Dz chars] w fun e w'=>e = pJ (pI (Lib.containsAny s.data.toList chars.data.toList))/\Below w w w':=Any.strings_ContainsAny_laid lays150 bC s chars w hs hcs has hac
end Go.Proofs
end
namespace Go.Proofs.YtncebikgoleolaaGreatDoor
open Tryz
end Go.Proofs.YtncebikgoleolaaGreatDoor
