/- The library's functions that the texts below call: the kit's contracts, laid over this program. No condition. -/
import Derived.Shelf.Strings.Builder1
import Derived.Shelf.Strings.Builder2
import Derived.Shelf.Strings.OnBuilder
import Derived.Shelf.Small.Bits
import Derived.Shelf.Small.Strs
import Derived.Shelf.Strings.BuilderF
import Derived.Shelf.Utf8.RuneCount
import Derived.Shelf.Strconv.Atoi
import Derived.Shelf.Strconv.Itoa0
import Derived.Shelf.Strconv.Itoa1
import Derived.Shelf.LaysM
import Derived.Shelf.Strconv.Itoa2
import Derived.Shelf.Strconv.Itoa3
import Derived.Shelf.Strconv.AtoiErrFast
import Derived.Shelf.Strconv.ParseIntEmpty
import Derived.Shelf.Strconv.AtoiFail
import Derived.Shelf.Strconv.Clone
import Derived.Shelf.Strconv.SyntaxError
import Derived.Shelf.LaysC
import Derived.Shelf.Strconv.ToError
import Derived.Shelf.Strconv.AtoiErr
import Derived.Shelf.Strconv.ErrVar
import Derived.Shelf.Strconv.Lower
import Derived.Shelf.Strconv.ParseUint10
import Derived.Shelf.Strconv.ParseUint10Empty
import Derived.Shelf.Strconv.ParseUint10Any
import Derived.Shelf.Strconv.ParseInt10
import Derived.Shelf.Strconv.AtoiLong
import Derived.Shelf.Strconv.AtoiInnerAll
import Derived.Shelf.Strconv.RangeError
import Derived.Shelf.Strconv.ToErrorRange
import Derived.Shelf.Strconv.AtoiAll
import Derived.Shelf.Strconv.ErrVarAll
import Derived.Shelf.Strings.Search1
import Derived.Shelf.Strings.Search2
import Derived.Shelf.Strings.Search3
import Derived.Shelf.Strings.Count
import Derived.Shelf.Strings.Shaped
import Derived.Shelf.Sort.Plain
import Derived.Shelf.Strings.Split
import Derived.Shelf.Strings.SplitShaped
import Derived.Shelf.Unicode.Decode
import Derived.Shelf.Strings.RuneCount
import Derived.Shelf.Strings.Explode
import Derived.Shelf.Bits.Mul64
import Derived.Shelf.Strings.Repeat
import Derived.Shelf.Unicode.DecodeSlow
import Derived.Shelf.Unicode.DecodeAny
import Derived.Ground.Names2Prog
import Derived.Shelf.Slices.Clone
import Derived.Shelf.Slices.In.SortNone
import Derived.Ground.SlgnProg
import Derived.Shelf.SlicesE.Clone
import Derived.Ground.SlsfProg
import Derived.Shelf.SlSortCmp.WholeK
import Derived.Test.YthdjckbjjfiopabGreatDoorProg
set_option linter.defProp false
namespace Go.Proofs.Tryz
open Go.Shelf
def kt {α:Type}{o:Option α}{a b:α}(h:o=some a)(k:a=b:=by kernel_rfl):o=some b:=h.trans (congrArg some k)
def lays156_ren:Go.Shelf.Ren:=⟨fun | 156=>298 | 165=>269 | 166=>250 | 169=>251 | 240=>273 | 241=>308 | 276=>310 | 277=>332|n=>n,fun | 31=>71 | 9=>9 | 3=>3 | 4=>4 | 0=>0 | 20=>20 | 72=>327 | 76=>62 | 70=>325 | 37=>268 | 75=>37 | 127=>337 | 164=>367 | 5=>5 | 80=>269|n=>n,fun|n=>n⟩
theorem lays156:Go.Proofs.Lays.n156 prog lays156_ren:=
⟨by kernel_rfl,kt func298,kt func269,kt func250,kt func251,kt func273,kt func308,kt func310,kt func332,underlying0,isAgg0,sizeOf0,zeroValue0,underlying3,isAgg3,sizeOf3,zeroValue3,underlying4,isAgg4,sizeOf4,zeroValue4,underlying9,isAgg9,sizeOf9,zeroValue9,underlying20,isAgg20,sizeOf20,zeroValue20,underlying71,isAgg71,sizeOf71,zeroValue71,underlying268,isAgg268,sizeOf268,zeroValue268,underlying325,isAgg325,sizeOf325,zeroValue325,underlying327,isAgg327,sizeOf327,zeroValue327,underlying37,isAgg37,sizeOf37,zeroValue37,underlying62,isAgg62,sizeOf62,zeroValue62,underlying337,isAgg337,sizeOf337,zeroValue337,underlying367,isAgg367,sizeOf367,zeroValue367⟩
theorem Builder_Extra_156:Builder.Extra prog lays156_ren:={sizeBuilder:=by kernel_rfl,liesBuilder:=by kernel_rfl,t5:=underlying5,a5:=isAgg5,z5:=sizeOf5,v5:=zeroValue5,infoByte:=by kernel_rfl,cellsByte:=by kernel_rfl,sizeByte:=by kernel_rfl,neB5:=by decide}
open Go.RowKit in
theorem strings_Join_none (a:Option Addr) (c:Nat) (sep:ByteArray) (w:World) :
    Calls prog 298 #[.slice a 0 c,.string sep] w fun e w'=>e= .returned (.string ⟨#[]⟩)∧w'=w:=Any.strings_Join_none lays156 Builder_Extra_156 a c sep w
open Go.RowKit in
theorem strings_Join (bk o c:Nat) (xs:List ByteArray) (sep:ByteArray) (w:World) (hcells:∀ (j:Nat) x,xs[j]? =some x → w.cell? ⟨bk,o + j,none⟩=some (.string x)) (hbk:bk < w.heap.size) (hN:xs.length ≤ 140737488355328) (hcap:xs.length ≤ c) (hlen:(Lib.join (xs.map (·.data.toList)) sep.data.toList).length ≤ 140737488355328) :
    Calls prog 298 #[.slice (some ⟨bk,o,none⟩) xs.length c,.string sep] w fun e w'=>e= .returned (.string ⟨(Lib.join (xs.map (·.data.toList)) sep.data.toList).toArray⟩)∧Below w.heap.size w w':=Any.strings_Join lays156 Builder_Extra_156 bk o c xs sep w hcells hbk hN hcap hlen
def lays106_ren:Go.Shelf.Ren:=⟨fun | 106=>188 | 213=>245 | 265=>271|n=>n,fun | 9=>9 | 3=>3|n=>n,fun|n=>n⟩
theorem lays106:Go.Proofs.Lays.n106 prog lays106_ren:=
⟨by kernel_rfl,kt func188,kt func245,kt func271,underlying3,isAgg3,sizeOf3,zeroValue3,underlying9,isAgg9,sizeOf9,zeroValue9⟩
open Go.RowKit in
theorem strings_Compare (a b:ByteArray) (w:World) :
    Calls prog 188 #[.string a,.string b] w fun e w'=>e= .returned (.int .i64 (Lib.compareBytes a.data.toList b.data.toList))∧w'=w:=Any.strings_Compare lays106 a b w
def laysM171_ren:Go.Shelf.Ren:=⟨fun | 171=>217 | 243=>257 | 246=>288 | 283=>317 | 284=>318 | 285=>319 | 286=>320 | 129=>287 | 317=>334 | 318=>335 | 319=>336 | 320=>337 | 337=>343 | 338=>344|n=>n,fun | 3=>3 | 9=>9 | 2=>2 | 4=>4 | 171=>375 | 0=>0 | 53=>31 | 37=>268 | 5=>5 | 173=>377 | 212=>389 | 51=>313 | 20=>20 | 213=>390 | 46=>265 | 232=>402 | 233=>403|n=>n,fun | 17=>3 | 18=>6 | 19=>7|n=>n⟩
theorem laysM171:Go.Proofs.LaysM.n171 prog laysM171_ren:={mixed:=by kernel_rfl,f129:=kt func287,f171:=kt func217,f243:=kt func257,f246:=kt func288,f283:=kt func317,f284:=kt func318,f285:=kt func319,f286:=kt func320,f317:=kt func334,f318:=kt func335,f319:=kt func336,f320:=kt func337,f337:=kt func343,f338:=kt func344,t0:=underlying0,a0:=isAgg0,z0:=sizeOf0,v0:=zeroValue0,t2:=underlying2,a2:=isAgg2,z2:=sizeOf2,v2:=zeroValue2,t3:=underlying3,a3:=isAgg3,z3:=sizeOf3,v3:=zeroValue3,t4:=underlying4,a4:=isAgg4,z4:=sizeOf4,v4:=zeroValue4,t5:=underlying5,a5:=isAgg5,z5:=sizeOf5,v5:=zeroValue5,t9:=underlying9,a9:=isAgg9,z9:=sizeOf9,v9:=zeroValue9,t20:=underlying20,a20:=isAgg20,z20:=sizeOf20,v20:=zeroValue20,t37:=underlying268,a37:=isAgg268,z37:=sizeOf268,v37:=zeroValue268,t46:=underlying265,a46:=isAgg265,z46:=sizeOf265,v46:=zeroValue265,t51:=underlying313,a51:=isAgg313,z51:=sizeOf313,v51:=zeroValue313,t53:=underlying31,a53:=isAgg31,z53:=sizeOf31,v53:=zeroValue31,t171:=underlying375,a171:=isAgg375,z171:=sizeOf375,v171:=zeroValue375,t173:=underlying377,a173:=isAgg377,z173:=sizeOf377,v173:=zeroValue377,t212:=underlying389,a212:=isAgg389,z212:=sizeOf389,v212:=zeroValue389,t213:=underlying390,a213:=isAgg390,z213:=sizeOf390,t232:=underlying402,a232:=isAgg402,z232:=sizeOf402,v232:=zeroValue402,t233:=underlying403,a233:=isAgg403,z233:=sizeOf403,v233:=zeroValue403,g17:=by kernel_rfl,g18:=by kernel_rfl,g19:=by kernel_rfl,i0:=by kernel_rfl,i2:=by kernel_rfl,i3:=by kernel_rfl,i4:=by kernel_rfl,i5:=by kernel_rfl,i9:=by kernel_rfl,i20:=by kernel_rfl,i37:=by kernel_rfl,i46:=by kernel_rfl,i51:=by kernel_rfl,i53:=by kernel_rfl,i171:=by kernel_rfl,i173:=by kernel_rfl,i212:=by kernel_rfl,i232:=by kernel_rfl,i233:=by kernel_rfl,m17:=by kernel_rfl,m18:=by kernel_rfl,m19:=by kernel_rfl}
open Go.RowKit Go.Sort Go.Lib in
theorem strconv_Itoa (n:Int) (h0 : -9223372036854775808 ≤ n) (h1:n ≤ 9223372036854775807) (w:World) (htab:Lib.TabIs prog w "internal/strconv.uint64pow10" .u64 Lib.pow10Tab) :
    Calls prog 217 #[.int .i64 n] w fun e w'=>e= .returned (.string ⟨(Lib.itoa n).toArray⟩)∧∃ k os,w'=grow (w.drewN k) os:=Any.strconv_Itoa laysM171 n h0 h1 w htab
def laysC172_ren:Go.Shelf.Ren:=⟨fun | 172=>219 | 244=>261 | 245=>262 | 247=>293 | 279=>294 | 280=>295 | 281=>296 | 282=>297 | 287=>326 | 316=>327 | 171=>217 | 205=>328 | 321=>340 | 322=>341 | 243=>257 | 246=>288 | 283=>317 | 284=>318 | 285=>319 | 286=>320 | 129=>287 | 317=>334 | 318=>335 | 319=>336 | 320=>337 | 337=>343 | 338=>344|n=>n,fun | 9=>9 | 3=>3 | 75=>37 | 76=>62 | 4=>4 | 5=>5 | 167=>355 | 37=>268 | 0=>0 | 85=>356 | 2=>2 | 168=>358 | 53=>31 | 175=>379 | 46=>265 | 210=>382 | 127=>337 | 145=>400 | 143=>398 | 21=>21 | 171=>375 | 173=>377 | 212=>389 | 51=>313 | 20=>20 | 213=>390 | 232=>402 | 233=>403 | 80=>269|n=>n,fun | 15=>1 | 16=>2 | 17=>3 | 18=>6 | 19=>7|n=>n⟩
theorem laysC172:Go.Proofs.LaysC.n172 prog laysC172_ren:={mixed:=by kernel_rfl,f129:=kt func287,f171:=kt func217,f172:=kt func219,f205:=kt func328,f243:=kt func257,f244:=kt func261,f245:=kt func262,f246:=kt func288,f247:=kt func293,f279:=kt func294,f280:=kt func295,f281:=kt func296,f282:=kt func297,f283:=kt func317,f284:=kt func318,f285:=kt func319,f286:=kt func320,f287:=kt func326,f316:=kt func327,f317:=kt func334,f318:=kt func335,f319:=kt func336,f320:=kt func337,f321:=kt func340,f322:=kt func341,f337:=kt func343,f338:=kt func344,t0:=underlying0,a0:=isAgg0,z0:=sizeOf0,v0:=zeroValue0,t2:=underlying2,a2:=isAgg2,z2:=sizeOf2,v2:=zeroValue2,t3:=underlying3,a3:=isAgg3,z3:=sizeOf3,v3:=zeroValue3,t4:=underlying4,a4:=isAgg4,z4:=sizeOf4,v4:=zeroValue4,t5:=underlying5,a5:=isAgg5,z5:=sizeOf5,v5:=zeroValue5,t9:=underlying9,a9:=isAgg9,z9:=sizeOf9,v9:=zeroValue9,t20:=underlying20,a20:=isAgg20,z20:=sizeOf20,v20:=zeroValue20,t21:=underlying21,a21:=isAgg21,z21:=sizeOf21,v21:=zeroValue21,t37:=underlying268,a37:=isAgg268,z37:=sizeOf268,v37:=zeroValue268,t46:=underlying265,a46:=isAgg265,z46:=sizeOf265,v46:=zeroValue265,t51:=underlying313,a51:=isAgg313,z51:=sizeOf313,v51:=zeroValue313,t53:=underlying31,a53:=isAgg31,z53:=sizeOf31,v53:=zeroValue31,t75:=underlying37,a75:=isAgg37,z75:=sizeOf37,v75:=zeroValue37,t76:=underlying62,a76:=isAgg62,z76:=sizeOf62,v76:=zeroValue62,t85:=underlying356,a85:=isAgg356,z85:=sizeOf356,v85:=zeroValue356,t127:=underlying337,a127:=isAgg337,z127:=sizeOf337,v127:=zeroValue337,t143:=underlying398,a143:=isAgg398,z143:=sizeOf398,v143:=zeroValue398,t145:=underlying400,a145:=isAgg400,z145:=sizeOf400,v145:=zeroValue400,t167:=underlying355,a167:=isAgg355,z167:=sizeOf355,v167:=zeroValue355,t168:=underlying358,a168:=isAgg358,z168:=sizeOf358,v168:=zeroValue358,t171:=underlying375,a171:=isAgg375,z171:=sizeOf375,v171:=zeroValue375,t173:=underlying377,a173:=isAgg377,z173:=sizeOf377,v173:=zeroValue377,t175:=underlying379,a175:=isAgg379,z175:=sizeOf379,v175:=zeroValue379,t210:=underlying382,a210:=isAgg382,z210:=sizeOf382,v210:=zeroValue382,t212:=underlying389,a212:=isAgg389,z212:=sizeOf389,v212:=zeroValue389,t213:=underlying390,a213:=isAgg390,z213:=sizeOf390,t232:=underlying402,a232:=isAgg402,z232:=sizeOf402,v232:=zeroValue402,t233:=underlying403,a233:=isAgg403,z233:=sizeOf403,v233:=zeroValue403,g15:=by kernel_rfl,g16:=by kernel_rfl,g17:=by kernel_rfl,g18:=by kernel_rfl,g19:=by kernel_rfl,t80:=underlying269,a80:=isAgg269,z80:=sizeOf269,v80:=zeroValue269,i0:=by kernel_rfl,i2:=by kernel_rfl,i3:=by kernel_rfl,i4:=by kernel_rfl,i5:=by kernel_rfl,i9:=by kernel_rfl,i20:=by kernel_rfl,i21:=by kernel_rfl,i37:=by kernel_rfl,i46:=by kernel_rfl,i51:=by kernel_rfl,i53:=by kernel_rfl,i75:=by kernel_rfl,i76:=by kernel_rfl,i80:=by kernel_rfl,i85:=by kernel_rfl,i127:=by kernel_rfl,i143:=by kernel_rfl,i145:=by kernel_rfl,i167:=by kernel_rfl,i168:=by kernel_rfl,i171:=by kernel_rfl,i173:=by kernel_rfl,i175:=by kernel_rfl,i210:=by kernel_rfl,i212:=by kernel_rfl,i232:=by kernel_rfl,i233:=by kernel_rfl,m15:=by kernel_rfl,m16:=by kernel_rfl,m17:=by kernel_rfl,m18:=by kernel_rfl,m19:=by kernel_rfl,c0:=by kernel_rfl,c2:=by kernel_rfl,c3:=by kernel_rfl,c4:=by kernel_rfl,c5:=by kernel_rfl,c9:=by kernel_rfl,c20:=by kernel_rfl,c21:=by kernel_rfl,c37:=by kernel_rfl,c46:=by kernel_rfl,c51:=by kernel_rfl,c53:=by kernel_rfl,c75:=by kernel_rfl,c76:=by kernel_rfl,c80:=by kernel_rfl,c85:=by kernel_rfl,c127:=by kernel_rfl,c143:=by kernel_rfl,c145:=by kernel_rfl,c167:=by kernel_rfl,c168:=by kernel_rfl,c171:=by kernel_rfl,c173:=by kernel_rfl,c175:=by kernel_rfl,c210:=by kernel_rfl,c212:=by kernel_rfl,c213:=by kernel_rfl,c232:=by kernel_rfl,c233:=by kernel_rfl}
open Go.RowKit in
theorem strconv_Atoi_ok (s:ByteArray) (hmax:s.size ≤ 9223372036854775806) (v:Int) (h:Lib.atoiAll s.data.toList= .ok v) (w:World) :
    Calls prog 219 #[.string s] w fun e w'=>e= .returned (.tuple #[.int .i64 v,.nilIface])∧(w'=w ∨ ∃ t,w'=Lib.bytesWorld w 5 t):=Any.strconv_Atoi_ok laysC172 s hmax v h w
open Go.RowKit in
theorem strconv_Atoi_syntax_var (s:ByteArray) (hlim:s.size ≤ 281474976710656) (h:Lib.atoiAll s.data.toList=Lib.atoiAll []) (tp:TypeId) (p:Value) (w:World) (hvar:w.var? prog "strconv.ErrSyntax"=some #[.iface tp p]) :
    Calls prog 219 #[.string s] w fun e w'=>∃ N,e= .returned (.tuple #[.int .i64 0,.iface 358 (.pointer (some ⟨N,0,none⟩))])∧w.heap.size ≤ N∧w'.heap[N]? =some (.cells #[.string ⟨#[65,116,111,105]⟩,.string s,.iface tp p] 382 (0,0))∧Below w.heap.size w w':=Any.strconv_Atoi_syntax_var laysC172 s hlim h tp p w hvar
open Go.RowKit in
theorem strconv_Atoi_range_var (s:ByteArray) (hlim:s.size ≤ 281474976710656) (h:Lib.atoiAll s.data.toList= .range) (tp:TypeId) (p:Value) (w:World) (hvar:w.var? prog "strconv.ErrRange"=some #[.iface tp p]) :
    Calls prog 219 #[.string s] w fun e w'=>∃ N,e= .returned (.tuple #[.int .i64 (Lib.atoiSat s.data.toList),.iface 358 (.pointer (some ⟨N,0,none⟩))])∧w.heap.size ≤ N∧w'.heap[N]? =some (.cells #[.string ⟨#[65,116,111,105]⟩,.string s,.iface tp p] 382 (0,0))∧Below w.heap.size w w':=Any.strconv_Atoi_range_var laysC172 s hlim h tp p w hvar
def lays143_ren:Go.Shelf.Ren:=⟨fun | 143=>260 | 219=>292 | 217=>322 | 225=>323 | 224=>324 | 267=>325 | 266=>338 | 314=>339|n=>n,fun | 9=>9 | 3=>3 | 4=>4 | 5=>5 | 46=>265 | 146=>314 | 51=>313|n=>n,fun | 1=>0|n=>n⟩
theorem lays143:Go.Proofs.Lays.n143 prog lays143_ren:=
⟨by kernel_rfl,kt func260,kt func322,kt func292,kt func324,kt func323,kt func338,kt func325,kt func339,underlying3,isAgg3,sizeOf3,zeroValue3,underlying4,isAgg4,sizeOf4,zeroValue4,underlying5,isAgg5,sizeOf5,zeroValue5,underlying9,isAgg9,sizeOf9,zeroValue9,underlying265,isAgg265,sizeOf265,zeroValue265,underlying313,isAgg313,sizeOf313,zeroValue313,underlying314,isAgg314,sizeOf314,zeroValue314,by kernel_rfl⟩
open Go.RowKit Go.Lib in
theorem strings_Index_one (s:ByteArray) (c:UInt8) (w:World) :
    Calls prog 260 #[.string s,.string ⟨#[c]⟩] w fun e w'=>e= .returned (.int .i64 (Lib.indexByte s.data.toList c))∧w'=w:=Any.strings_Index_one lays143 s c w
def lays138_ren:Go.Shelf.Ren:=⟨fun | 138=>259 | 195=>289 | 218=>291 | 143=>260 | 219=>292 | 217=>322 | 225=>323 | 224=>324 | 267=>325 | 266=>338 | 314=>339|n=>n,fun | 9=>9 | 3=>3 | 4=>4 | 5=>5 | 0=>0 | 46=>265 | 146=>314 | 51=>313|n=>n,fun | 1=>0|n=>n⟩
theorem lays138:Go.Proofs.Lays.n138 prog lays138_ren:=
⟨by kernel_rfl,kt func259,kt func260,kt func289,kt func322,kt func291,kt func292,kt func324,kt func323,kt func338,kt func325,kt func339,underlying0,isAgg0,sizeOf0,zeroValue0,underlying3,isAgg3,sizeOf3,zeroValue3,underlying4,isAgg4,sizeOf4,zeroValue4,underlying5,isAgg5,sizeOf5,zeroValue5,underlying9,isAgg9,sizeOf9,zeroValue9,underlying265,isAgg265,sizeOf265,zeroValue265,underlying313,isAgg313,sizeOf313,zeroValue313,underlying314,isAgg314,sizeOf314,zeroValue314,by kernel_rfl⟩
open Go.RowKit Go.Lib in
theorem strings_Count_one (s:ByteArray) (c:UInt8) (w:World) :
    Calls prog 259 #[.string s,.string ⟨#[c]⟩] w fun e w'=>e= .returned (.int .i64 (Lib.countByte s.data.toList c))∧w'=w:=Any.strings_Count_one lays138 s c w
def lays189_ren:Go.Shelf.Ren:=⟨fun | 189=>208 | 125=>256 | 257=>255 | 128=>286 | 129=>287 | 294=>277 | 295=>278 | 296=>279 | 297=>280 | 298=>281 | 299=>282 | 216=>283 | 300=>284 | 301=>285 | 328=>311 | 329=>312 | 330=>313 | 331=>314 | 332=>315 | 215=>316 | 343=>333|n=>n,fun | 28=>105 | 3=>3 | 46=>265 | 0=>0 | 51=>313 | 53=>31 | 4=>4 | 183=>343 | 182=>342 | 131=>278 | 5=>5 | 9=>9 | 218=>369 | 222=>373 | 228=>386 | 229=>64|n=>n,fun|n=>n⟩
theorem lays189:Go.Proofs.Lays.n189 prog lays189_ren:=
⟨by kernel_rfl,kt func256,kt func286,kt func287,kt func208,kt func316,kt func283,kt func255,kt func277,kt func278,kt func279,kt func280,kt func281,kt func282,kt func284,kt func285,kt func311,kt func312,kt func313,kt func314,kt func315,kt func333,underlying0,isAgg0,sizeOf0,zeroValue0,underlying3,isAgg3,sizeOf3,zeroValue3,underlying4,isAgg4,sizeOf4,zeroValue4,underlying5,isAgg5,sizeOf5,zeroValue5,underlying9,isAgg9,sizeOf9,zeroValue9,underlying105,isAgg105,sizeOf105,zeroValue105,underlying265,isAgg265,sizeOf265,zeroValue265,underlying313,isAgg313,sizeOf313,zeroValue313,underlying31,isAgg31,sizeOf31,zeroValue31,underlying278,isAgg278,sizeOf278,zeroValue278,underlying342,isAgg342,sizeOf342,zeroValue342,underlying343,isAgg343,sizeOf343,zeroValue343,underlying369,isAgg369,sizeOf369,zeroValue369,underlying373,isAgg373,sizeOf373,zeroValue373,underlying386,isAgg386,sizeOf386,zeroValue386,underlying64,isAgg64,sizeOf64,zeroValue64⟩
open Go.Sort Go.RowKit in
theorem slices_Sort_int (blk off cap:Nat) (zs:List Int) (w:World) (hH:Holds (Value.int .i64) w blk off zs.toArray) (hblk:blk < w.heap.size) (hsz:zs.length < 4611686018427387904) :
    Calls prog 208 #[.slice (some ⟨blk,off,none⟩) zs.length cap] w fun e w' =>
      e= .returned (.tuple #[])∧∃ n os,w'=grow (putRow (Value.int .i64) (Sort.ahead w n) blk off (zs.mergeSort fun x y=>decide (x ≤ y)).toArray) os:=Any.slices_Sort_int lays189 blk off cap zs w hH hblk hsz
def lays221_ren:Go.Shelf.Ren:=⟨fun | 221=>218 | 268=>258 | 138=>259 | 143=>260 | 195=>289 | 197=>290 | 218=>291 | 219=>292 | 260=>321 | 217=>322 | 225=>323 | 224=>324 | 267=>325 | 266=>338 | 314=>339|n=>n,fun | 9=>9 | 3=>3 | 31=>71 | 4=>4 | 0=>0 | 105=>352 | 21=>21 | 5=>5 | 46=>265 | 119=>391 | 139=>394 | 138=>393 | 146=>314 | 51=>313|n=>n,fun | 1=>0 | 3=>4 | 4=>5|n=>n⟩
theorem lays221:Go.Proofs.Lays.n221 prog lays221_ren:=
⟨by kernel_rfl,kt func259,kt func260,kt func289,kt func290,kt func322,kt func291,kt func292,kt func218,kt func324,kt func323,kt func321,kt func338,kt func325,kt func258,kt func339,underlying0,isAgg0,sizeOf0,zeroValue0,underlying3,isAgg3,sizeOf3,zeroValue3,underlying4,isAgg4,sizeOf4,zeroValue4,underlying5,isAgg5,sizeOf5,zeroValue5,underlying9,isAgg9,sizeOf9,zeroValue9,underlying21,isAgg21,sizeOf21,zeroValue21,underlying71,isAgg71,sizeOf71,zeroValue71,underlying265,isAgg265,sizeOf265,zeroValue265,underlying313,isAgg313,sizeOf313,zeroValue313,underlying352,isAgg352,sizeOf352,zeroValue352,underlying391,isAgg391,sizeOf391,underlying393,isAgg393,sizeOf393,zeroValue393,underlying394,isAgg394,sizeOf394,zeroValue394,underlying314,isAgg314,sizeOf314,zeroValue314,by kernel_rfl,by kernel_rfl,by kernel_rfl⟩
def lays105_ren:Go.Shelf.Ren:=⟨fun | 105=>244 | 212=>174 | 99=>268 | 165=>269 | 166=>250 | 170=>270 | 169=>251 | 263=>236 | 264=>237 | 206=>307 | 240=>273 | 241=>308 | 276=>310 | 277=>332|n=>n,fun | 9=>9 | 3=>3 | 4=>4 | 20=>20 | 0=>0 | 46=>265 | 109=>266 | 5=>5 | 72=>327 | 76=>62 | 51=>313 | 146=>314 | 53=>31 | 148=>316 | 70=>325 | 37=>268 | 75=>37 | 127=>337 | 164=>367 | 80=>269|n=>n,fun|n=>n⟩
theorem lays105:Go.Proofs.Lays.n105 prog lays105_ren:=
⟨by kernel_rfl,kt func268,kt func244,kt func269,kt func250,kt func251,kt func270,kt func307,kt func174,kt func273,kt func308,kt func236,kt func237,kt func310,kt func332,underlying0,isAgg0,sizeOf0,zeroValue0,underlying3,isAgg3,sizeOf3,zeroValue3,underlying4,isAgg4,sizeOf4,zeroValue4,underlying5,isAgg5,sizeOf5,zeroValue5,underlying9,isAgg9,sizeOf9,zeroValue9,underlying20,isAgg20,sizeOf20,zeroValue20,underlying268,isAgg268,sizeOf268,zeroValue268,underlying265,isAgg265,sizeOf265,zeroValue265,underlying313,isAgg313,sizeOf313,zeroValue313,underlying31,isAgg31,sizeOf31,zeroValue31,underlying325,isAgg325,sizeOf325,zeroValue325,underlying327,isAgg327,sizeOf327,zeroValue327,underlying37,isAgg37,sizeOf37,zeroValue37,underlying62,isAgg62,sizeOf62,zeroValue62,underlying266,isAgg266,sizeOf266,zeroValue266,underlying337,isAgg337,sizeOf337,zeroValue337,underlying314,isAgg314,sizeOf314,zeroValue314,underlying316,isAgg316,sizeOf316,zeroValue316,underlying367,isAgg367,sizeOf367,zeroValue367⟩
theorem Builder_Extra_105:Builder.Extra prog lays105_ren:={sizeBuilder:=by kernel_rfl,liesBuilder:=by kernel_rfl,t5:=underlying5,a5:=isAgg5,z5:=sizeOf5,v5:=zeroValue5,infoByte:=by kernel_rfl,cellsByte:=by kernel_rfl,sizeByte:=by kernel_rfl,neB5:=by decide}
open Go.RowKit Go.Lib in
theorem strings_Repeat (s:ByteArray) (c:Nat) (w:World) (hc:c ≤ 9223372036854775807) (hlen:s.size * c ≤ 140737488355328) :
    Calls prog 244 #[.string s,.int .i64 c] w fun e w'=>e= .returned (.string ⟨(Lib.repeatL s.data.toList c).toArray⟩)∧Below w.heap.size w w':=Any.strings_Repeat lays105 Builder_Extra_105 s c w hc hlen
open Go.RowKit Go.Sort in
theorem slices_Sort_int_none (p:Option Addr) (cap:Nat) (w:World) :
    Calls prog 208 #[.slice p 0 cap] w fun e w'=>e= .returned (.tuple #[])∧w'=w:=Any.slices_Sort_int_none lays189 p cap w
def sortFn_ren:Go.Shelf.Ren:=⟨fun | 6=>234 | 15=>256 | 14=>266 | 28=>286 | 29=>287 | 20=>299 | 21=>300 | 22=>301 | 23=>302 | 24=>303 | 25=>304 | 26=>305 | 27=>306 | 46=>329 | 47=>312 | 48=>313 | 49=>330 | 50=>331 | 57=>342|n=>n,fun | 22=>33 | 24=>174 | 25=>311 | 3=>3 | 39=>265 | 0=>0 | 53=>313 | 55=>31 | 4=>4 | 46=>343 | 45=>342 | 50=>278 | 5=>5 | 9=>9 | 66=>369 | 70=>373 | 76=>386 | 77=>64|n=>n,fun|n=>n⟩
theorem sortFn:Go.Proofs.SlLaysF0.n6 prog sortFn_ren:=
⟨by kernel_rfl,⟨f234.name,by decide,kt func234⟩,⟨f266.name,by decide,kt func266⟩,kt func256,⟨f299.name,by decide,kt func299⟩,⟨f300.name,by decide,kt func300⟩,⟨f301.name,by decide,kt func301⟩,⟨f302.name,by decide,kt func302⟩,⟨f303.name,by decide,kt func303⟩,⟨f304.name,by decide,kt func304⟩,⟨f305.name,by decide,kt func305⟩,⟨f306.name,by decide,kt func306⟩,kt func286,kt func287,⟨f329.name,by decide,kt func329⟩,kt func312,kt func313,⟨f330.name,by decide,kt func330⟩,⟨f331.name,by decide,kt func331⟩,⟨f342.name,by decide,kt func342⟩,underlying0,isAgg0,sizeOf0,zeroValue0,underlying3,isAgg3,sizeOf3,zeroValue3,underlying4,isAgg4,sizeOf4,zeroValue4,underlying5,isAgg5,sizeOf5,zeroValue5,underlying9,isAgg9,sizeOf9,zeroValue9,underlying33,isAgg33,sizeOf33,zeroValue33,underlying311,isAgg311,sizeOf311,zeroValue311,underlying265,isAgg265,sizeOf265,zeroValue265,underlying342,isAgg342,sizeOf342,zeroValue342,underlying343,isAgg343,sizeOf343,zeroValue343,underlying278,isAgg278,sizeOf278,zeroValue278,underlying313,isAgg313,sizeOf313,zeroValue313,underlying31,isAgg31,sizeOf31,zeroValue31,underlying369,isAgg369,sizeOf369,zeroValue369,underlying373,isAgg373,sizeOf373,zeroValue373,underlying386,isAgg386,sizeOf386,zeroValue386,underlying64,isAgg64,sizeOf64,zeroValue64⟩
end Go.Proofs.Tryz
