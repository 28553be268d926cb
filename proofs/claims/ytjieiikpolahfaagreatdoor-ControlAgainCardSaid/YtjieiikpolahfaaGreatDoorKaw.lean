/- Steps. -/
import Derived.Test.YtjieiikpolahfaaGreatDoorK0
import Derived.Shelf.Strings.Builder1
import Derived.Shelf.Strings.Builder2
import Derived.Shelf.Strings.OnBuilder
import Derived.Shelf.Small.Utf8
import Derived.Shelf.Small.Strs
import Derived.Shelf.Strconv.Atoi
import Derived.Shelf.Strconv.Itoa0
import Derived.Shelf.Strconv.Itoa1
import Derived.Shelf.LaysM
import Derived.Shelf.Strconv.Itoa2
import Derived.Shelf.Strconv.Itoa3
import Derived.Shelf.Strconv.AtoiErrFast
import Derived.Shelf.Strconv.ParseIntEmpty
import Derived.Shelf.Strconv.AtoiFail
import Derived.Shelf.Strconv.Clone
import Derived.Shelf.Strconv.SyntaxError
import Derived.Shelf.LaysC
import Derived.Shelf.Strconv.ToError
import Derived.Shelf.Strconv.Lower
import Derived.Shelf.Strconv.ParseUint10
import Derived.Shelf.Strconv.ParseUint10Empty
import Derived.Shelf.Strconv.ParseUint10Any
import Derived.Shelf.Strconv.ParseInt10
import Derived.Shelf.Strconv.AtoiLong
import Derived.Shelf.Strconv.AtoiInnerAll
import Derived.Shelf.Strconv.RangeError
import Derived.Shelf.Strconv.ToErrorRange
import Derived.Shelf.Strconv.AtoiAll
import Derived.Shelf.Strings.Search1
import Derived.Shelf.Strings.Search2
import Derived.Shelf.Strings.Search3
import Derived.Shelf.Strings.Cut
import Derived.Shelf.Strings.Count
import Derived.Shelf.Strings.Shaped
import Derived.Shelf.Strings.Split
import Derived.Shelf.Strings.Runes
import Derived.Shelf.Strings.RuneCount
import Derived.Shelf.Strings.IndexAny
import Derived.Shelf.Strings.AsciiSet
import Derived.Shelf.Strings.IndexAnyAll
import Derived.Test.YtjieiikpolahfaaGreatDoorProg
set_option maxRecDepth 100000
set_option maxHeartbeats 8000000
set_option linter.all false
namespace Go.Proofs.YtjieiikpolahfaaGreatDoor
open Tryz
open Ending renaming returned→pJ
open IntKind renaming i64→pK
open Value renaming bool→pI,int→pE,pointer→pG,slice→pF,string→Dz
end Go.Proofs.YtjieiikpolahfaaGreatDoor
section
open Go.Proofs.YtjieiikpolahfaaGreatDoor Go.Proofs.Tryz
namespace Go.Proofs
open Ending renaming returned→pJ
open IntKind renaming i64→pK
open Value renaming bool→pI,int→pE,pointer→pG,slice→pF,string→Dz
open Go.Shelf
def Tryz.lays156_ren:Go.Shelf.Ren:=⟨fun | 156=>245 | 165=>274 | 166=>275 | 169=>276 | 240=>289 | 241=>290 | 276=>304 | 277=>305 | n=>n,fun | 31=>64 | 9=>9 | 3=>3 | 4=>4 | 0=>0 | 20=>20 | 72=>431 | 76=>192 | 70=>429 | 37=>174 | 75=>95 | 127=>401 | 164=>226 | 5=>5 | 80=>120 | n=>n,fun | n=>n⟩
theorem Tryz.lays156:Go.Proofs.Lays.n156 prog lays156_ren:={ mixed:=by kernel_rfl,f156:=qC func245,f165:=qC func274,f166:=qC func275,f169:=qC func276,f240:=qC func289,f241:=qC func290,f276:=qC func304,f277:=qC func305,t0:=underlying0,a0:=isAgg0,z0:=sizeOf0,v0:=zeroValue0,t3:=underlying3,a3:=isAgg3,z3:=sizeOf3,v3:=zeroValue3,t4:=underlying4,a4:=isAgg4,z4:=sizeOf4,v4:=zeroValue4,t9:=underlying9,a9:=isAgg9,z9:=sizeOf9,v9:=zeroValue9,t20:=underlying20,a20:=isAgg20,z20:=sizeOf20,v20:=zeroValue20,t31:=underlying64,a31:=isAgg64,z31:=sizeOf64,v31:=zeroValue64,t37:=underlying174,a37:=isAgg174,z37:=sizeOf174,v37:=zeroValue174,t70:=underlying429,a70:=isAgg429,z70:=sizeOf429,v70:=zeroValue429,t72:=underlying431,a72:=isAgg431,z72:=sizeOf431,v72:=zeroValue431,t75:=underlying95,a75:=isAgg95,z75:=sizeOf95,v75:=zeroValue95,t76:=underlying192,a76:=isAgg192,z76:=sizeOf192,v76:=zeroValue192,t127:=underlying401,a127:=isAgg401,z127:=sizeOf401,v127:=zeroValue401,t164:=underlying226,a164:=isAgg226,z164:=sizeOf226,v164:=zeroValue226 }
theorem Tryz.Builder_Extra_156:Builder.Extra prog lays156_ren:={ sizeBuilder:=by kernel_rfl,liesBuilder:=by kernel_rfl,t5:=underlying5,a5:=isAgg5,z5:=sizeOf5,v5:=zeroValue5,infoByte:=by kernel_rfl,cellsByte:=by kernel_rfl,sizeByte:=by kernel_rfl,neB5:=by decide }
open Go.RowKit in
theorem Tryz.strings_Join_none(a:Option Addr)(c:Nat)(sep:ByteArray)(w:World):
  Calls prog 245 #[pF a 0 c,Dz sep] w fun e w'=>e = pJ (Dz ⟨#[]⟩)/\w'=w:=Any.strings_Join_none lays156 Tryz.Builder_Extra_156 a c sep w
open Go.RowKit in
theorem Tryz.strings_Join(bk o c:Nat)(xs:List ByteArray)(sep:ByteArray)(w:World)(hcells:∀(j:Nat) x,xs[j]? = some x->w.cell? (A_ bk (o+j))=some (Dz x))(hbk:bk<w.heap.size)(hN:xs.length<=140737488355328)(hcap:xs.length<=c)(hlen:(Lib.join (xs.map (·.data.toList)) sep.data.toList).length<=140737488355328):
  Calls prog 245 #[pF (some (A_ bk o)) xs.length c,Dz sep] w fun e w'=>e = pJ (Dz ⟨(Lib.join (xs.map (·.data.toList)) sep.data.toList).toArray⟩)/\Below w w w':=Any.strings_Join lays156 Tryz.Builder_Extra_156 bk o c xs sep w hcells hbk hN hcap hlen
def Tryz.laysM171_ren:Go.Shelf.Ren:=⟨fun | 171=>94 | 243=>147 | 246=>191 | 283=>225 | 284=>226 | 285=>227 | 286=>228 | 129=>255 | 317=>254 | 318=>256 | 319=>257 | 320=>258 | 337=>279 | 338=>280 | n=>n,fun | 3=>3 | 9=>9 | 2=>2 | 4=>4 | 171=>364 | 0=>0 | 53=>357 | 37=>174 | 5=>5 | 173=>367 | 212=>407 | 51=>408 | 20=>20 | 213=>409 | 46=>360 | 232=>459 | 233=>460 | n=>n,fun | 17=>12 | 18=>14 | 19=>15 | n=>n⟩
theorem Tryz.laysM171:Go.Proofs.LaysM.n171 prog laysM171_ren:={ mixed:=by kernel_rfl,f129:=qC func255,f171:=qC func94,f243:=qC func147,f246:=qC func191,f283:=qC func225,f284:=qC func226,f285:=qC func227,f286:=qC func228,f317:=qC func254,f318:=qC func256,f319:=qC func257,f320:=qC func258,f337:=qC func279,f338:=qC func280,t0:=underlying0,a0:=isAgg0,z0:=sizeOf0,v0:=zeroValue0,t2:=underlying2,a2:=isAgg2,z2:=sizeOf2,v2:=zeroValue2,t3:=underlying3,a3:=isAgg3,z3:=sizeOf3,v3:=zeroValue3,t4:=underlying4,a4:=isAgg4,z4:=sizeOf4,v4:=zeroValue4,t5:=underlying5,a5:=isAgg5,z5:=sizeOf5,v5:=zeroValue5,t9:=underlying9,a9:=isAgg9,z9:=sizeOf9,v9:=zeroValue9,t20:=underlying20,a20:=isAgg20,z20:=sizeOf20,v20:=zeroValue20,t37:=underlying174,a37:=isAgg174,z37:=sizeOf174,v37:=zeroValue174,t46:=underlying360,a46:=isAgg360,z46:=sizeOf360,v46:=zeroValue360,t51:=underlying408,a51:=isAgg408,z51:=sizeOf408,v51:=zeroValue408,t53:=underlying357,a53:=isAgg357,z53:=sizeOf357,v53:=zeroValue357,t171:=underlying364,a171:=isAgg364,z171:=sizeOf364,v171:=zeroValue364,t173:=underlying367,a173:=isAgg367,z173:=sizeOf367,v173:=zeroValue367,t212:=underlying407,a212:=isAgg407,z212:=sizeOf407,v212:=zeroValue407,t213:=underlying409,a213:=isAgg409,z213:=sizeOf409,t232:=underlying459,a232:=isAgg459,z232:=sizeOf459,v232:=zeroValue459,t233:=underlying460,a233:=isAgg460,z233:=sizeOf460,v233:=zeroValue460,g17:=by kernel_rfl,g18:=by kernel_rfl,g19:=by kernel_rfl,i0:=by kernel_rfl,i2:=by kernel_rfl,i3:=by kernel_rfl,i4:=by kernel_rfl,i5:=by kernel_rfl,i9:=by kernel_rfl,i20:=by kernel_rfl,i37:=by kernel_rfl,i46:=by kernel_rfl,i51:=by kernel_rfl,i53:=by kernel_rfl,i171:=by kernel_rfl,i173:=by kernel_rfl,i212:=by kernel_rfl,i232:=by kernel_rfl,i233:=by kernel_rfl,m17:=by kernel_rfl,m18:=by kernel_rfl,m19:=by kernel_rfl }
open Go.RowKit Go.Sort Go.Lib in
theorem Tryz.strconv_Itoa(n:Int)(h0 : -9223372036854775808<=n)(h1:n<=9223372036854775807)(w:World)(htab:Lib.TabIs prog w "internal/strconv.uint64pow10" .u64 Lib.pow10Tab) :
  Calls prog 94 #[pE pK n] w fun e w'=>e = pJ (Dz ⟨(Lib.itoa n).toArray⟩)/\∃k os,w'=grow (w.drewN k) os:=Any.strconv_Itoa laysM171 n h0 h1 w htab
def Tryz.laysC172_ren:Go.Shelf.Ren:=⟨fun | 172=>93 | 244=>145 | 245=>146 | 247=>186 | 279=>187 | 280=>188 | 281=>189 | 282=>190 | 287=>222 | 316=>223 | 171=>94 | 205=>224 | 321=>252 | 322=>253 | 243=>147 | 246=>191 | 283=>225 | 284=>226 | 285=>227 | 286=>228 | 129=>255 | 317=>254 | 318=>256 | 319=>257 | 320=>258 | 337=>279 | 338=>280 | n=>n,fun | 9=>9 | 3=>3 | 75=>95 | 76=>192 | 4=>4 | 5=>5 | 167=>323 | 37=>174 | 0=>0 | 85=>324 | 2=>2 | 168=>326 | 53=>357 | 175=>358 | 46=>360 | 210=>362 | 127=>401 | 145=>404 | 143=>402 | 21=>21 | 171=>364 | 173=>367 | 212=>407 | 51=>408 | 20=>20 | 213=>409 | 232=>459 | 233=>460 | 80=>120 | n=>n,fun | 15=>4 | 16=>5 | 17=>12 | 18=>14 | 19=>15 | n=>n⟩
theorem Tryz.laysC172:Go.Proofs.LaysC.n172 prog laysC172_ren:={ mixed:=by kernel_rfl,f129:=qC func255,f171:=qC func94,f172:=qC func93,f205:=qC func224,f243:=qC func147,f244:=qC func145,f245:=qC func146,f246:=qC func191,f247:=qC func186,f279:=qC func187,f280:=qC func188,f281:=qC func189,f282:=qC func190,f283:=qC func225,f284:=qC func226,f285:=qC func227,f286:=qC func228,f287:=qC func222,f316:=qC func223,f317:=qC func254,f318:=qC func256,f319:=qC func257,f320:=qC func258,f321:=qC func252,f322:=qC func253,f337:=qC func279,f338:=qC func280,t0:=underlying0,a0:=isAgg0,z0:=sizeOf0,v0:=zeroValue0,t2:=underlying2,a2:=isAgg2,z2:=sizeOf2,v2:=zeroValue2,t3:=underlying3,a3:=isAgg3,z3:=sizeOf3,v3:=zeroValue3,t4:=underlying4,a4:=isAgg4,z4:=sizeOf4,v4:=zeroValue4,t5:=underlying5,a5:=isAgg5,z5:=sizeOf5,v5:=zeroValue5,t9:=underlying9,a9:=isAgg9,z9:=sizeOf9,v9:=zeroValue9,t20:=underlying20,a20:=isAgg20,z20:=sizeOf20,v20:=zeroValue20,t21:=underlying21,a21:=isAgg21,z21:=sizeOf21,v21:=zeroValue21,t37:=underlying174,a37:=isAgg174,z37:=sizeOf174,v37:=zeroValue174,t46:=underlying360,a46:=isAgg360,z46:=sizeOf360,v46:=zeroValue360,t51:=underlying408,a51:=isAgg408,z51:=sizeOf408,v51:=zeroValue408,t53:=underlying357,a53:=isAgg357,z53:=sizeOf357,v53:=zeroValue357,t75:=underlying95,a75:=isAgg95,z75:=sizeOf95,v75:=zeroValue95,t76:=underlying192,a76:=isAgg192,z76:=sizeOf192,v76:=zeroValue192,t85:=underlying324,a85:=isAgg324,z85:=sizeOf324,v85:=zeroValue324,t127:=underlying401,a127:=isAgg401,z127:=sizeOf401,v127:=zeroValue401,t143:=underlying402,a143:=isAgg402,z143:=sizeOf402,v143:=zeroValue402,t145:=underlying404,a145:=isAgg404,z145:=sizeOf404,v145:=zeroValue404,t167:=underlying323,a167:=isAgg323,z167:=sizeOf323,v167:=zeroValue323,t168:=underlying326,a168:=isAgg326,z168:=sizeOf326,v168:=zeroValue326,t171:=underlying364,a171:=isAgg364,z171:=sizeOf364,v171:=zeroValue364,t173:=underlying367,a173:=isAgg367,z173:=sizeOf367,v173:=zeroValue367,t175:=underlying358,a175:=isAgg358,z175:=sizeOf358,v175:=zeroValue358,t210:=underlying362,a210:=isAgg362,z210:=sizeOf362,v210:=zeroValue362,t212:=underlying407,a212:=isAgg407,z212:=sizeOf407,v212:=zeroValue407,t213:=underlying409,a213:=isAgg409,z213:=sizeOf409,t232:=underlying459,a232:=isAgg459,z232:=sizeOf459,v232:=zeroValue459,t233:=underlying460,a233:=isAgg460,z233:=sizeOf460,v233:=zeroValue460,g15:=by kernel_rfl,g16:=by kernel_rfl,g17:=by kernel_rfl,g18:=by kernel_rfl,g19:=by kernel_rfl,t80:=underlying120,a80:=isAgg120,z80:=sizeOf120,v80:=zeroValue120,i0:=by kernel_rfl,i2:=by kernel_rfl,i3:=by kernel_rfl,i4:=by kernel_rfl,i5:=by kernel_rfl,i9:=by kernel_rfl,i20:=by kernel_rfl,i21:=by kernel_rfl,i37:=by kernel_rfl,i46:=by kernel_rfl,i51:=by kernel_rfl,i53:=by kernel_rfl,i75:=by kernel_rfl,i76:=by kernel_rfl,i80:=by kernel_rfl,i85:=by kernel_rfl,i127:=by kernel_rfl,i143:=by kernel_rfl,i145:=by kernel_rfl,i167:=by kernel_rfl,i168:=by kernel_rfl,i171:=by kernel_rfl,i173:=by kernel_rfl,i175:=by kernel_rfl,i210:=by kernel_rfl,i212:=by kernel_rfl,i232:=by kernel_rfl,i233:=by kernel_rfl,m15:=by kernel_rfl,m16:=by kernel_rfl,m17:=by kernel_rfl,m18:=by kernel_rfl,m19:=by kernel_rfl,c0:=by kernel_rfl,c2:=by kernel_rfl,c3:=by kernel_rfl,c4:=by kernel_rfl,c5:=by kernel_rfl,c9:=by kernel_rfl,c20:=by kernel_rfl,c21:=by kernel_rfl,c37:=by kernel_rfl,c46:=by kernel_rfl,c51:=by kernel_rfl,c53:=by kernel_rfl,c75:=by kernel_rfl,c76:=by kernel_rfl,c80:=by kernel_rfl,c85:=by kernel_rfl,c127:=by kernel_rfl,c143:=by kernel_rfl,c145:=by kernel_rfl,c167:=by kernel_rfl,c168:=by kernel_rfl,c171:=by kernel_rfl,c173:=by kernel_rfl,c175:=by kernel_rfl,c210:=by kernel_rfl,c212:=by kernel_rfl,c213:=by kernel_rfl,c232:=by kernel_rfl,c233:=by kernel_rfl }
open Go.RowKit in
theorem Tryz.strconv_Atoi_ok(s:ByteArray)(hmax:s.size<=9223372036854775806)(v:Int)(h:Lib.atoiAll s.data.toList = .ok v)(w:World):
  Calls prog 93 #[Dz s] w fun e w'=>e = pJ (.tuple #[pE pK v,.nilIface])/\(w'=w\/∃t,w'=Lib.bytesWorld w 5 t):=Any.strconv_Atoi_ok laysC172 s hmax v h w
open Go.RowKit in
theorem Tryz.strconv_Atoi_syntax(s:ByteArray)(hlim:s.size<=281474976710656)(h:Lib.atoiAll s.data.toList = Lib.atoiAll [])(ev:Value)(w:World)(hv:w.cell? (A_ 4 0)=some ev)(hev:ev = .nilIface\/∃te pe,ev = .iface te pe):
  Calls prog 93 #[Dz s] w fun e w'=>∃N,e = pJ (.tuple #[pE pK (0),.iface 326 (p_ N 0)])/\w.heap.size<=N/\w'.heap[N]? = some (.cells #[Dz ⟨#[65,116,111,105]⟩,Dz s,ev] 362 (0,0))/\Below w w w':=Any.strconv_Atoi_syntax laysC172 s hlim h ev w hv hev
open Go.RowKit in
theorem Tryz.strconv_Atoi_range(s:ByteArray)(hlim:s.size<=281474976710656)(h:Lib.atoiAll s.data.toList = .range)(ev:Value)(w:World)(hv:w.cell? (A_ 5 0)=some ev)(hev:ev = .nilIface\/∃te pe,ev = .iface te pe):
  Calls prog 93 #[Dz s] w fun e w'=>∃N,e = pJ (.tuple #[pE pK (Lib.atoiSat s.data.toList),.iface 326 (p_ N 0)])/\w.heap.size<=N/\w'.heap[N]? = some (.cells #[Dz ⟨#[65,116,111,105]⟩,Dz s,ev] 362 (0,0))/\Below w w w':=Any.strconv_Atoi_range laysC172 s hlim h ev w hv hev
def Tryz.lays145_ren:Go.Shelf.Ren:=⟨fun | 145=>230 | 220=>260 | 219=>281 | 217=>291 | 225=>292 | 224=>293 | 267=>294 | 266=>306 | 314=>307 | n=>n,fun | 9=>9 | 4=>4 | 59=>370 | 3=>3 | 5=>5 | 46=>360 | 146=>472 | 51=>408 | n=>n,fun | 1=>16 | n=>n⟩
theorem Tryz.lays145:Go.Proofs.Lays.n145 prog lays145_ren:={ mixed:=by kernel_rfl,f145:=qC func230,f217:=qC func291,f219:=qC func281,f220:=qC func260,f224:=qC func293,f225:=qC func292,f266:=qC func306,f267:=qC func294,f314:=qC func307,t3:=underlying3,a3:=isAgg3,z3:=sizeOf3,v3:=zeroValue3,t4:=underlying4,a4:=isAgg4,z4:=sizeOf4,v4:=zeroValue4,t5:=underlying5,a5:=isAgg5,z5:=sizeOf5,v5:=zeroValue5,t9:=underlying9,a9:=isAgg9,z9:=sizeOf9,v9:=zeroValue9,t46:=underlying360,a46:=isAgg360,z46:=sizeOf360,v46:=zeroValue360,t51:=underlying408,a51:=isAgg408,z51:=sizeOf408,v51:=zeroValue408,t59:=underlying370,a59:=isAgg370,z59:=sizeOf370,v59:=zeroValue370,t146:=underlying472,a146:=isAgg472,z146:=sizeOf472,v146:=zeroValue472,g1:=by kernel_rfl }
open Go.RowKit Go.Lib in
theorem Tryz.strings_Cut(s sep:ByteArray)(m:Int)(w:World)(hs:s.size<4294967281)(hm:w.cell? (A_ 16 0)=some (I_ m)):
  Calls prog 230 #[Dz s,Dz sep] w fun e w'=>e = pJ (.tuple #[Dz ⟨(Lib.cut s.data.toList sep.data.toList).1.toArray⟩,Dz ⟨(Lib.cut s.data.toList sep.data.toList).2.1.toArray⟩,pI (Lib.cut s.data.toList sep.data.toList).2.2])/\∃n,w'=w.drewN n:=Any.strings_Cut lays145 s sep m w hs hm
def Tryz.lays138_ren:Go.Shelf.Ren:=⟨fun | 138=>392 | 195=>393 | 218=>394 | 143=>395 | 219=>281 | 217=>291 | 225=>292 | 224=>293 | 267=>294 | 266=>306 | 314=>307 | n=>n,fun | 9=>9 | 3=>3 | 4=>4 | 5=>5 | 0=>0 | 46=>360 | 146=>472 | 51=>408 | n=>n,fun | 1=>16 | n=>n⟩
theorem Tryz.lays138:Go.Proofs.Lays.n138 prog lays138_ren:={ mixed:=by kernel_rfl,f138:=qC func392,f143:=qC func395,f195:=qC func393,f217:=qC func291,f218:=qC func394,f219:=qC func281,f224:=qC func293,f225:=qC func292,f266:=qC func306,f267:=qC func294,f314:=qC func307,t0:=underlying0,a0:=isAgg0,z0:=sizeOf0,v0:=zeroValue0,t3:=underlying3,a3:=isAgg3,z3:=sizeOf3,v3:=zeroValue3,t4:=underlying4,a4:=isAgg4,z4:=sizeOf4,v4:=zeroValue4,t5:=underlying5,a5:=isAgg5,z5:=sizeOf5,v5:=zeroValue5,t9:=underlying9,a9:=isAgg9,z9:=sizeOf9,v9:=zeroValue9,t46:=underlying360,a46:=isAgg360,z46:=sizeOf360,v46:=zeroValue360,t51:=underlying408,a51:=isAgg408,z51:=sizeOf408,v51:=zeroValue408,t146:=underlying472,a146:=isAgg472,z146:=sizeOf472,v146:=zeroValue472,g1:=by kernel_rfl }
open Go.RowKit Go.Lib in
theorem Tryz.strings_Count_one(s:ByteArray)(c:UInt8)(w:World):
  Calls prog 392 #[Dz s,Dz ⟨#[c]⟩] w fun e w'=>e = pJ (I_ (Lib.countByte s.data.toList c))/\w'=w:=Any.strings_Count_one lays138 s c w
def Tryz.lays150_ren:Go.Shelf.Ren:=⟨fun | 150=>271 | 153=>286 | 152=>297 | 226=>298 | 227=>299 | 228=>300 | 137=>309 | 119=>310 | 224=>293 | 225=>292 | 217=>291 | 266=>306 | n=>n,fun | 9=>9 | 4=>4 | 3=>3 | 5=>5 | 21=>21 | 117=>465 | 116=>464 | 0=>0 | 46=>360 | 124=>476 | n=>n,fun | n=>n⟩
theorem Tryz.lays150:Go.Proofs.Lays.n150 prog lays150_ren:={ mixed:=by kernel_rfl,f119:=qC func310,f137:=qC func309,f150:=qC func271,f152:=qC func297,f153:=qC func286,f217:=qC func291,f224:=qC func293,f225:=qC func292,f226:=qC func298,f227:=qC func299,f228:=qC func300,f266:=qC func306,t0:=underlying0,a0:=isAgg0,z0:=sizeOf0,v0:=zeroValue0,t3:=underlying3,a3:=isAgg3,z3:=sizeOf3,v3:=zeroValue3,t4:=underlying4,a4:=isAgg4,z4:=sizeOf4,v4:=zeroValue4,t5:=underlying5,a5:=isAgg5,z5:=sizeOf5,v5:=zeroValue5,t9:=underlying9,a9:=isAgg9,z9:=sizeOf9,v9:=zeroValue9,t21:=underlying21,a21:=isAgg21,z21:=sizeOf21,v21:=zeroValue21,t46:=underlying360,a46:=isAgg360,z46:=sizeOf360,v46:=zeroValue360,t116:=underlying464,a116:=isAgg464,z116:=sizeOf464,t117:=underlying465,a117:=isAgg465,z117:=sizeOf465,v117:=zeroValue465,t124:=underlying476,a124:=isAgg476,z124:=sizeOf476,v124:=zeroValue476 }
open Go.RowKit Go.Lib in
theorem Tryz.strings_ContainsAny_laid(s chars:ByteArray)(w:World)(hs:s.size<4294967281)(hcs:chars.size<4294967281)(has:∀(j:Nat) b,s.data.toList[j]? = some b->b.toNat<128)(hac:∀(j:Nat) b,chars.data.toList[j]? = some b->b.toNat<128):
  Calls prog 271 #[Dz s,Dz chars] w fun e w'=>e = pJ (pI (Lib.containsAny s.data.toList chars.data.toList))/\Below w w w':=Any.strings_ContainsAny_laid lays150 bC s chars w hs hcs has hac
end Go.Proofs
end
namespace Go.Proofs.YtjieiikpolahfaaGreatDoor
open Tryz
end Go.Proofs.YtjieiikpolahfaaGreatDoor
