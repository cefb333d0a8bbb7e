/-
  DERIVED: THE SHELF's CONTRACTS AT THIS DUMP, IN PLAIN WORDS (tools/lay-plain.mjs out of 'YtdmlkjjlgkdnlaaGreatDoorShelf.lean', which tools/lay-shelf.mjs wrote): THE SAME DECLARATIONS UNDER THE SAME NAMES: 'import', 'namespace', 'open', 'def', 'theorem' AND NOTHING ELSE: no command of the shelf's: FOR A HAND-IN. Each laying: the table of numbers ('.._ren') and one theorem, a field a fact of the dump's own or the kernel's comparison; each contract: ONE APPLICATION.
-/
import Derived.Shelf.Strings.Builder1
import Derived.Shelf.Strings.Builder2
import Derived.Shelf.Strings.OnBuilder
import Derived.Shelf.Strconv.Atoi
import Derived.Shelf.Strconv.Itoa0
import Derived.Shelf.Strconv.Itoa1
import Derived.Shelf.LaysM
import Derived.Shelf.Strconv.Itoa2
import Derived.Shelf.Strconv.Itoa3
import Derived.Shelf.Strconv.AtoiErrFast
import Derived.Shelf.Strconv.ParseIntEmpty
import Derived.Shelf.Strconv.AtoiFail
import Derived.Shelf.Strconv.Clone
import Derived.Shelf.Strconv.SyntaxError
import Derived.Shelf.LaysC
import Derived.Shelf.Strconv.ToError
import Derived.Shelf.Strconv.Lower
import Derived.Shelf.Strconv.ParseUint10
import Derived.Shelf.Strconv.ParseUint10Empty
import Derived.Shelf.Strconv.ParseUint10Any
import Derived.Shelf.Strconv.ParseInt10
import Derived.Shelf.Strconv.AtoiLong
import Derived.Shelf.Strconv.AtoiInnerAll
import Derived.Shelf.Strconv.RangeError
import Derived.Shelf.Strconv.ToErrorRange
import Derived.Shelf.Strconv.AtoiAll
import Derived.Shelf.Strconv.ErrVarAll
import Derived.Shelf.Strings.Search1
import Derived.Shelf.Strings.Search2
import Derived.Shelf.Strings.Search3
import Derived.Shelf.Strings.Cut
import Derived.Shelf.Strings.Count
import Derived.Shelf.Strings.Shaped
import Derived.Shelf.Strings.Split
import Derived.Shelf.Unicode.DecodeSlow
import Derived.Shelf.Slices.Turned
import Derived.Test.YtdmlkjjlgkdnlaaGreatDoorProg
namespace Go.Proofs
open Go.Shelf
def Tryz.lays156_ren:Go.Shelf.Ren:=⟨fun|156=>142|165=>165|166=>166|169=>167|240=>187|241=>188|276=>199|277=>200|n=>n,fun|31=>35|9=>9|3=>3|4=>4|0=>0|20=>20|72=>131|76=>99|70=>129|37=>34|75=>98|127=>150|164=>163|5=>5|80=>133|n=>n,fun|n=>n⟩
theorem Tryz.lays156:Go.Proofs.Lays.n156 Tryz.prog Tryz.lays156_ren:={
  mixed:=by kernel_rfl
  f156:=Tryz.func142.trans (congrArg some (by kernel_rfl))
  f165:=Tryz.func165.trans (congrArg some (by kernel_rfl))
  f166:=Tryz.func166.trans (congrArg some (by kernel_rfl))
  f169:=Tryz.func167.trans (congrArg some (by kernel_rfl))
  f240:=Tryz.func187.trans (congrArg some (by kernel_rfl))
  f241:=Tryz.func188.trans (congrArg some (by kernel_rfl))
  f276:=Tryz.func199.trans (congrArg some (by kernel_rfl))
  f277:=Tryz.func200.trans (congrArg some (by kernel_rfl))
  t0:=Tryz.underlying0
  a0:=Tryz.isAgg0
  z0:=Tryz.sizeOf0
  v0:=Tryz.zeroValue0
  t3:=Tryz.underlying3
  a3:=Tryz.isAgg3
  z3:=Tryz.sizeOf3
  v3:=Tryz.zeroValue3
  t4:=Tryz.underlying4
  a4:=Tryz.isAgg4
  z4:=Tryz.sizeOf4
  v4:=Tryz.zeroValue4
  t9:=Tryz.underlying9
  a9:=Tryz.isAgg9
  z9:=Tryz.sizeOf9
  v9:=Tryz.zeroValue9
  t20:=Tryz.underlying20
  a20:=Tryz.isAgg20
  z20:=Tryz.sizeOf20
  v20:=Tryz.zeroValue20
  t31:=Tryz.underlying35
  a31:=Tryz.isAgg35
  z31:=Tryz.sizeOf35
  v31:=Tryz.zeroValue35
  t37:=Tryz.underlying34
  a37:=Tryz.isAgg34
  z37:=Tryz.sizeOf34
  v37:=Tryz.zeroValue34
  t70:=Tryz.underlying129
  a70:=Tryz.isAgg129
  z70:=Tryz.sizeOf129
  v70:=Tryz.zeroValue129
  t72:=Tryz.underlying131
  a72:=Tryz.isAgg131
  z72:=Tryz.sizeOf131
  v72:=Tryz.zeroValue131
  t75:=Tryz.underlying98
  a75:=Tryz.isAgg98
  z75:=Tryz.sizeOf98
  v75:=Tryz.zeroValue98
  t76:=Tryz.underlying99
  a76:=Tryz.isAgg99
  z76:=Tryz.sizeOf99
  v76:=Tryz.zeroValue99
  t127:=Tryz.underlying150
  a127:=Tryz.isAgg150
  z127:=Tryz.sizeOf150
  v127:=Tryz.zeroValue150
  t164:=Tryz.underlying163
  a164:=Tryz.isAgg163
  z164:=Tryz.sizeOf163
  v164:=Tryz.zeroValue163}
theorem Tryz.Builder_Extra_156:Builder.Extra Tryz.prog Tryz.lays156_ren:={
  sizeBuilder:=by kernel_rfl
  liesBuilder:=by kernel_rfl
  t5:=Tryz.underlying5
  a5:=Tryz.isAgg5
  z5:=Tryz.sizeOf5
  v5:=Tryz.zeroValue5
  infoByte:=by kernel_rfl
  cellsByte:=by kernel_rfl
  sizeByte:=by kernel_rfl
  neB5:=by decide}
open Go.RowKit in
/-- No element: the empty string; the world is as it was. (Whatever the slice's address and capacity: a nil slice too.) (LAID: no walk: one application.) -/
theorem Tryz.strings_Join_none (a:Option Addr) (c:Nat) (sep:ByteArray) (w:World):
    Calls Tryz.prog 142 #[.slice a 0 c,.string sep] w fun e w'=>e= .returned (.string ⟨#[]⟩)∧w'=w:=Any.strings_Join_none Tryz.lays156 Tryz.Builder_Extra_156 a c sep w
open Go.RowKit in
/-- strings.Join: "Join concatenates the elements of its first argument to create a single string. The separator string sep is placed between elements in the resulting string.": HOWEVER MANY ELEMENTS. Below the heap's end the world is as it was. (LAID: no walk: one application.) -/
theorem Tryz.strings_Join (bk o c:Nat) (xs:List ByteArray) (sep:ByteArray) (w:World) (hcells:∀(j:Nat) x,xs[j]? =some x→w.cell? ⟨bk,o+j,none⟩=some (.string x)) (hbk:bk<w.heap.size) (hN:xs.length≤140737488355328) (hcap:xs.length≤c) (hlen:(Lib.join (xs.map (·.data.toList)) sep.data.toList).length ≤140737488355328):
    Calls Tryz.prog 142 #[.slice (some ⟨bk,o,none⟩) xs.length c,.string sep] w fun e w'=>e= .returned (.string ⟨(Lib.join (xs.map (·.data.toList)) sep.data.toList).toArray⟩)∧Below w.heap.size w w':=Any.strings_Join Tryz.lays156 Tryz.Builder_Extra_156 bk o c xs sep w hcells hbk hN hcap hlen
def Tryz.laysM171_ren:Go.Shelf.Ren:=⟨fun|171=>77|243=>119|246=>150|283=>174|284=>175|285=>176|286=>177|129=>192|317=>191|318=>193|319=>194|320=>195|337=>201|338=>202|n=>n,fun|3=>3|9=>9|2=>2|4=>4|171=>136|0=>0|53=>137|37=>34|5=>5|173=>140|212=>155|51=>151|20=>20|213=>156|46=>135|232=>171|233=>172|n=>n,fun|17=>3|18=>6|19=>7|n=>n⟩
theorem Tryz.laysM171:Go.Proofs.LaysM.n171 Tryz.prog Tryz.laysM171_ren:={
  mixed:=by kernel_rfl
  f129:=Tryz.func192.trans (congrArg some (by kernel_rfl))
  f171:=Tryz.func77.trans (congrArg some (by kernel_rfl))
  f243:=Tryz.func119.trans (congrArg some (by kernel_rfl))
  f246:=Tryz.func150.trans (congrArg some (by kernel_rfl))
  f283:=Tryz.func174.trans (congrArg some (by kernel_rfl))
  f284:=Tryz.func175.trans (congrArg some (by kernel_rfl))
  f285:=Tryz.func176.trans (congrArg some (by kernel_rfl))
  f286:=Tryz.func177.trans (congrArg some (by kernel_rfl))
  f317:=Tryz.func191.trans (congrArg some (by kernel_rfl))
  f318:=Tryz.func193.trans (congrArg some (by kernel_rfl))
  f319:=Tryz.func194.trans (congrArg some (by kernel_rfl))
  f320:=Tryz.func195.trans (congrArg some (by kernel_rfl))
  f337:=Tryz.func201.trans (congrArg some (by kernel_rfl))
  f338:=Tryz.func202.trans (congrArg some (by kernel_rfl))
  t0:=Tryz.underlying0
  a0:=Tryz.isAgg0
  z0:=Tryz.sizeOf0
  v0:=Tryz.zeroValue0
  t2:=Tryz.underlying2
  a2:=Tryz.isAgg2
  z2:=Tryz.sizeOf2
  v2:=Tryz.zeroValue2
  t3:=Tryz.underlying3
  a3:=Tryz.isAgg3
  z3:=Tryz.sizeOf3
  v3:=Tryz.zeroValue3
  t4:=Tryz.underlying4
  a4:=Tryz.isAgg4
  z4:=Tryz.sizeOf4
  v4:=Tryz.zeroValue4
  t5:=Tryz.underlying5
  a5:=Tryz.isAgg5
  z5:=Tryz.sizeOf5
  v5:=Tryz.zeroValue5
  t9:=Tryz.underlying9
  a9:=Tryz.isAgg9
  z9:=Tryz.sizeOf9
  v9:=Tryz.zeroValue9
  t20:=Tryz.underlying20
  a20:=Tryz.isAgg20
  z20:=Tryz.sizeOf20
  v20:=Tryz.zeroValue20
  t37:=Tryz.underlying34
  a37:=Tryz.isAgg34
  z37:=Tryz.sizeOf34
  v37:=Tryz.zeroValue34
  t46:=Tryz.underlying135
  a46:=Tryz.isAgg135
  z46:=Tryz.sizeOf135
  v46:=Tryz.zeroValue135
  t51:=Tryz.underlying151
  a51:=Tryz.isAgg151
  z51:=Tryz.sizeOf151
  v51:=Tryz.zeroValue151
  t53:=Tryz.underlying137
  a53:=Tryz.isAgg137
  z53:=Tryz.sizeOf137
  v53:=Tryz.zeroValue137
  t171:=Tryz.underlying136
  a171:=Tryz.isAgg136
  z171:=Tryz.sizeOf136
  v171:=Tryz.zeroValue136
  t173:=Tryz.underlying140
  a173:=Tryz.isAgg140
  z173:=Tryz.sizeOf140
  v173:=Tryz.zeroValue140
  t212:=Tryz.underlying155
  a212:=Tryz.isAgg155
  z212:=Tryz.sizeOf155
  v212:=Tryz.zeroValue155
  t213:=Tryz.underlying156
  a213:=Tryz.isAgg156
  z213:=Tryz.sizeOf156
  t232:=Tryz.underlying171
  a232:=Tryz.isAgg171
  z232:=Tryz.sizeOf171
  v232:=Tryz.zeroValue171
  t233:=Tryz.underlying172
  a233:=Tryz.isAgg172
  z233:=Tryz.sizeOf172
  v233:=Tryz.zeroValue172
  g17:=by kernel_rfl
  g18:=by kernel_rfl
  g19:=by kernel_rfl
  i0:=by kernel_rfl
  i2:=by kernel_rfl
  i3:=by kernel_rfl
  i4:=by kernel_rfl
  i5:=by kernel_rfl
  i9:=by kernel_rfl
  i20:=by kernel_rfl
  i37:=by kernel_rfl
  i46:=by kernel_rfl
  i51:=by kernel_rfl
  i53:=by kernel_rfl
  i171:=by kernel_rfl
  i173:=by kernel_rfl
  i212:=by kernel_rfl
  i232:=by kernel_rfl
  i233:=by kernel_rfl
  m17:=by kernel_rfl
  m18:=by kernel_rfl
  m19:=by kernel_rfl}
open Go.RowKit Go.Sort Go.Lib in
/-- strconv.Itoa: "Itoa is equivalent to FormatInt(int64(i), 10).": i's DECIMAL NUMERAL ('Lib.itoa': a '-' where i is negative, then the digits), FOR EVERY int. The world behind the call: the world before it, new blocks behind the heap (the library's 'var a [24]byte'), draws. (LAID: no walk: one application.) -/
theorem Tryz.strconv_Itoa (n:Int) (h0: -9223372036854775808≤n) (h1:n≤9223372036854775807) (w:World) (htab:Lib.TabIs Tryz.prog w "internal/strconv.uint64pow10" .u64 Lib.pow10Tab):
    Calls Tryz.prog 77 #[.int .i64 n] w fun e w'=>e= .returned (.string ⟨(Lib.itoa n).toArray⟩)∧∃k os,w'=grow (w.drewN k) os:=Any.strconv_Itoa Tryz.laysM171 n h0 h1 w htab
def Tryz.laysC172_ren:Go.Shelf.Ren:=⟨fun|172=>94|244=>130|245=>131|247=>158|279=>159|280=>160|281=>161|282=>162|287=>184|316=>185|171=>77|205=>186|321=>197|322=>198|243=>119|246=>150|283=>174|284=>175|285=>176|286=>177|129=>192|317=>191|318=>193|319=>194|320=>195|337=>201|338=>202|n=>n,fun|9=>9|3=>3|75=>98|76=>99|4=>4|5=>5|167=>123|37=>34|0=>0|85=>124|2=>2|168=>126|53=>137|175=>144|46=>135|210=>148|127=>150|145=>162|143=>160|21=>21|171=>136|173=>140|212=>155|51=>151|20=>20|213=>156|232=>171|233=>172|80=>133|n=>n,fun|15=>1|16=>2|17=>3|18=>6|19=>7|n=>n⟩
theorem Tryz.laysC172:Go.Proofs.LaysC.n172 Tryz.prog Tryz.laysC172_ren:={
  mixed:=by kernel_rfl
  f129:=Tryz.func192.trans (congrArg some (by kernel_rfl))
  f171:=Tryz.func77.trans (congrArg some (by kernel_rfl))
  f172:=Tryz.func94.trans (congrArg some (by kernel_rfl))
  f205:=Tryz.func186.trans (congrArg some (by kernel_rfl))
  f243:=Tryz.func119.trans (congrArg some (by kernel_rfl))
  f244:=Tryz.func130.trans (congrArg some (by kernel_rfl))
  f245:=Tryz.func131.trans (congrArg some (by kernel_rfl))
  f246:=Tryz.func150.trans (congrArg some (by kernel_rfl))
  f247:=Tryz.func158.trans (congrArg some (by kernel_rfl))
  f279:=Tryz.func159.trans (congrArg some (by kernel_rfl))
  f280:=Tryz.func160.trans (congrArg some (by kernel_rfl))
  f281:=Tryz.func161.trans (congrArg some (by kernel_rfl))
  f282:=Tryz.func162.trans (congrArg some (by kernel_rfl))
  f283:=Tryz.func174.trans (congrArg some (by kernel_rfl))
  f284:=Tryz.func175.trans (congrArg some (by kernel_rfl))
  f285:=Tryz.func176.trans (congrArg some (by kernel_rfl))
  f286:=Tryz.func177.trans (congrArg some (by kernel_rfl))
  f287:=Tryz.func184.trans (congrArg some (by kernel_rfl))
  f316:=Tryz.func185.trans (congrArg some (by kernel_rfl))
  f317:=Tryz.func191.trans (congrArg some (by kernel_rfl))
  f318:=Tryz.func193.trans (congrArg some (by kernel_rfl))
  f319:=Tryz.func194.trans (congrArg some (by kernel_rfl))
  f320:=Tryz.func195.trans (congrArg some (by kernel_rfl))
  f321:=Tryz.func197.trans (congrArg some (by kernel_rfl))
  f322:=Tryz.func198.trans (congrArg some (by kernel_rfl))
  f337:=Tryz.func201.trans (congrArg some (by kernel_rfl))
  f338:=Tryz.func202.trans (congrArg some (by kernel_rfl))
  t0:=Tryz.underlying0
  a0:=Tryz.isAgg0
  z0:=Tryz.sizeOf0
  v0:=Tryz.zeroValue0
  t2:=Tryz.underlying2
  a2:=Tryz.isAgg2
  z2:=Tryz.sizeOf2
  v2:=Tryz.zeroValue2
  t3:=Tryz.underlying3
  a3:=Tryz.isAgg3
  z3:=Tryz.sizeOf3
  v3:=Tryz.zeroValue3
  t4:=Tryz.underlying4
  a4:=Tryz.isAgg4
  z4:=Tryz.sizeOf4
  v4:=Tryz.zeroValue4
  t5:=Tryz.underlying5
  a5:=Tryz.isAgg5
  z5:=Tryz.sizeOf5
  v5:=Tryz.zeroValue5
  t9:=Tryz.underlying9
  a9:=Tryz.isAgg9
  z9:=Tryz.sizeOf9
  v9:=Tryz.zeroValue9
  t20:=Tryz.underlying20
  a20:=Tryz.isAgg20
  z20:=Tryz.sizeOf20
  v20:=Tryz.zeroValue20
  t21:=Tryz.underlying21
  a21:=Tryz.isAgg21
  z21:=Tryz.sizeOf21
  v21:=Tryz.zeroValue21
  t37:=Tryz.underlying34
  a37:=Tryz.isAgg34
  z37:=Tryz.sizeOf34
  v37:=Tryz.zeroValue34
  t46:=Tryz.underlying135
  a46:=Tryz.isAgg135
  z46:=Tryz.sizeOf135
  v46:=Tryz.zeroValue135
  t51:=Tryz.underlying151
  a51:=Tryz.isAgg151
  z51:=Tryz.sizeOf151
  v51:=Tryz.zeroValue151
  t53:=Tryz.underlying137
  a53:=Tryz.isAgg137
  z53:=Tryz.sizeOf137
  v53:=Tryz.zeroValue137
  t75:=Tryz.underlying98
  a75:=Tryz.isAgg98
  z75:=Tryz.sizeOf98
  v75:=Tryz.zeroValue98
  t76:=Tryz.underlying99
  a76:=Tryz.isAgg99
  z76:=Tryz.sizeOf99
  v76:=Tryz.zeroValue99
  t85:=Tryz.underlying124
  a85:=Tryz.isAgg124
  z85:=Tryz.sizeOf124
  v85:=Tryz.zeroValue124
  t127:=Tryz.underlying150
  a127:=Tryz.isAgg150
  z127:=Tryz.sizeOf150
  v127:=Tryz.zeroValue150
  t143:=Tryz.underlying160
  a143:=Tryz.isAgg160
  z143:=Tryz.sizeOf160
  v143:=Tryz.zeroValue160
  t145:=Tryz.underlying162
  a145:=Tryz.isAgg162
  z145:=Tryz.sizeOf162
  v145:=Tryz.zeroValue162
  t167:=Tryz.underlying123
  a167:=Tryz.isAgg123
  z167:=Tryz.sizeOf123
  v167:=Tryz.zeroValue123
  t168:=Tryz.underlying126
  a168:=Tryz.isAgg126
  z168:=Tryz.sizeOf126
  v168:=Tryz.zeroValue126
  t171:=Tryz.underlying136
  a171:=Tryz.isAgg136
  z171:=Tryz.sizeOf136
  v171:=Tryz.zeroValue136
  t173:=Tryz.underlying140
  a173:=Tryz.isAgg140
  z173:=Tryz.sizeOf140
  v173:=Tryz.zeroValue140
  t175:=Tryz.underlying144
  a175:=Tryz.isAgg144
  z175:=Tryz.sizeOf144
  v175:=Tryz.zeroValue144
  t210:=Tryz.underlying148
  a210:=Tryz.isAgg148
  z210:=Tryz.sizeOf148
  v210:=Tryz.zeroValue148
  t212:=Tryz.underlying155
  a212:=Tryz.isAgg155
  z212:=Tryz.sizeOf155
  v212:=Tryz.zeroValue155
  t213:=Tryz.underlying156
  a213:=Tryz.isAgg156
  z213:=Tryz.sizeOf156
  t232:=Tryz.underlying171
  a232:=Tryz.isAgg171
  z232:=Tryz.sizeOf171
  v232:=Tryz.zeroValue171
  t233:=Tryz.underlying172
  a233:=Tryz.isAgg172
  z233:=Tryz.sizeOf172
  v233:=Tryz.zeroValue172
  g15:=by kernel_rfl
  g16:=by kernel_rfl
  g17:=by kernel_rfl
  g18:=by kernel_rfl
  g19:=by kernel_rfl
  t80:=Tryz.underlying133
  a80:=Tryz.isAgg133
  z80:=Tryz.sizeOf133
  v80:=Tryz.zeroValue133
  i0:=by kernel_rfl
  i2:=by kernel_rfl
  i3:=by kernel_rfl
  i4:=by kernel_rfl
  i5:=by kernel_rfl
  i9:=by kernel_rfl
  i20:=by kernel_rfl
  i21:=by kernel_rfl
  i37:=by kernel_rfl
  i46:=by kernel_rfl
  i51:=by kernel_rfl
  i53:=by kernel_rfl
  i75:=by kernel_rfl
  i76:=by kernel_rfl
  i80:=by kernel_rfl
  i85:=by kernel_rfl
  i127:=by kernel_rfl
  i143:=by kernel_rfl
  i145:=by kernel_rfl
  i167:=by kernel_rfl
  i168:=by kernel_rfl
  i171:=by kernel_rfl
  i173:=by kernel_rfl
  i175:=by kernel_rfl
  i210:=by kernel_rfl
  i212:=by kernel_rfl
  i232:=by kernel_rfl
  i233:=by kernel_rfl
  m15:=by kernel_rfl
  m16:=by kernel_rfl
  m17:=by kernel_rfl
  m18:=by kernel_rfl
  m19:=by kernel_rfl
  c0:=by kernel_rfl
  c2:=by kernel_rfl
  c3:=by kernel_rfl
  c4:=by kernel_rfl
  c5:=by kernel_rfl
  c9:=by kernel_rfl
  c20:=by kernel_rfl
  c21:=by kernel_rfl
  c37:=by kernel_rfl
  c46:=by kernel_rfl
  c51:=by kernel_rfl
  c53:=by kernel_rfl
  c75:=by kernel_rfl
  c76:=by kernel_rfl
  c80:=by kernel_rfl
  c85:=by kernel_rfl
  c127:=by kernel_rfl
  c143:=by kernel_rfl
  c145:=by kernel_rfl
  c167:=by kernel_rfl
  c168:=by kernel_rfl
  c171:=by kernel_rfl
  c173:=by kernel_rfl
  c175:=by kernel_rfl
  c210:=by kernel_rfl
  c212:=by kernel_rfl
  c213:=by kernel_rfl
  c232:=by kernel_rfl
  c233:=by kernel_rfl}
open Go.RowKit in
/-- strconv.Atoi, AT EVERY STRING THAT SPELLS AN int ('Lib.atoiAll .. = .ok v'; of whatever length: leading zeros count): v, AND NO ERROR. The world: as it was, or with the one new row that '[]byte(..)' lays. (LAID: no walk: one application.) -/
theorem Tryz.strconv_Atoi_ok (s:ByteArray) (hmax:s.size≤9223372036854775806) (v:Int) (h:Lib.atoiAll s.data.toList= .ok v) (w:World):
    Calls Tryz.prog 94 #[.string s] w fun e w'=>e= .returned (.tuple #[.int .i64 v,.nilIface])∧(w'=w∨∃t,w'=Lib.bytesWorld w 5 t):=Any.strconv_Atoi_ok Tryz.laysC172 s hmax v h w
open Go.RowKit in
/-- strconv.Atoi, AT EVERY STRING THAT IS NO DECIMAL NUMERAL ('.syntax'): 0, AND AN ERROR THAT IS NOT nil: a *NumError in a new block N: {Func: "Atoi", Num: s's bytes, Err: what the variable ErrSyntax holds}. Of what was there nothing has turned. (LAID: no walk: one application.) -/
theorem Tryz.strconv_Atoi_syntax (s:ByteArray) (hlim:s.size≤281474976710656) (h:Lib.atoiAll s.data.toList= Lib.atoiAll []) (ev:Value) (w:World) (hv:w.cell? ⟨1,0,none⟩=some ev) (hev:ev= .nilIface ∨∃te pe,ev= .iface te pe):
    Calls Tryz.prog 94 #[.string s] w fun e w'=>∃N,e= .returned (.tuple #[.int .i64 (0),.iface 126 (.pointer (some ⟨N,0,none⟩))])∧w.heap.size≤N∧w'.heap[N]? =some (.cells #[.string ⟨#[65,116,111,105]⟩,.string s,ev] 148 (0,0))∧Below w.heap.size w w':=Any.strconv_Atoi_syntax Tryz.laysC172 s hlim h ev w hv hev
open Go.RowKit in
/-- strconv.Atoi, AT EVERY NUMERAL THAT NO int HOLDS ('.range'): THE GREATEST OR THE LEAST int, BY THE SIGN ('Lib.atoiSat'), AND AN ERROR THAT IS NOT nil: a *NumError in a new block N: {Func: "Atoi", Num: s's bytes, Err: what the variable ErrRange holds}. Of what was there nothing has turned. (LAID: no walk: one application.) -/
theorem Tryz.strconv_Atoi_range (s:ByteArray) (hlim:s.size≤281474976710656) (h:Lib.atoiAll s.data.toList= .range) (ev:Value) (w:World) (hv:w.cell? ⟨2,0,none⟩=some ev) (hev:ev= .nilIface ∨∃te pe,ev= .iface te pe):
    Calls Tryz.prog 94 #[.string s] w fun e w'=>∃N,e= .returned (.tuple #[.int .i64 (Lib.atoiSat s.data.toList),.iface 126 (.pointer (some ⟨N,0,none⟩))])∧w.heap.size≤N∧w'.heap[N]? =some (.cells #[.string ⟨#[65,116,111,105]⟩,.string s,ev] 148 (0,0))∧Below w.heap.size w w':=Any.strconv_Atoi_range Tryz.laysC172 s hlim h ev w hv hev
def Tryz.lays145_ren:Go.Shelf.Ren:=⟨fun|145=>75|220=>118|219=>149|217=>170|225=>171|224=>172|267=>173|266=>189|314=>190|n=>n,fun|9=>9|4=>4|59=>89|3=>3|5=>5|46=>135|146=>152|51=>151|n=>n,fun|1=>0|n=>n⟩
theorem Tryz.lays145:Go.Proofs.Lays.n145 Tryz.prog Tryz.lays145_ren:={
  mixed:=by kernel_rfl
  f145:=Tryz.func75.trans (congrArg some (by kernel_rfl))
  f217:=Tryz.func170.trans (congrArg some (by kernel_rfl))
  f219:=Tryz.func149.trans (congrArg some (by kernel_rfl))
  f220:=Tryz.func118.trans (congrArg some (by kernel_rfl))
  f224:=Tryz.func172.trans (congrArg some (by kernel_rfl))
  f225:=Tryz.func171.trans (congrArg some (by kernel_rfl))
  f266:=Tryz.func189.trans (congrArg some (by kernel_rfl))
  f267:=Tryz.func173.trans (congrArg some (by kernel_rfl))
  f314:=Tryz.func190.trans (congrArg some (by kernel_rfl))
  t3:=Tryz.underlying3
  a3:=Tryz.isAgg3
  z3:=Tryz.sizeOf3
  v3:=Tryz.zeroValue3
  t4:=Tryz.underlying4
  a4:=Tryz.isAgg4
  z4:=Tryz.sizeOf4
  v4:=Tryz.zeroValue4
  t5:=Tryz.underlying5
  a5:=Tryz.isAgg5
  z5:=Tryz.sizeOf5
  v5:=Tryz.zeroValue5
  t9:=Tryz.underlying9
  a9:=Tryz.isAgg9
  z9:=Tryz.sizeOf9
  v9:=Tryz.zeroValue9
  t46:=Tryz.underlying135
  a46:=Tryz.isAgg135
  z46:=Tryz.sizeOf135
  v46:=Tryz.zeroValue135
  t51:=Tryz.underlying151
  a51:=Tryz.isAgg151
  z51:=Tryz.sizeOf151
  v51:=Tryz.zeroValue151
  t59:=Tryz.underlying89
  a59:=Tryz.isAgg89
  z59:=Tryz.sizeOf89
  v59:=Tryz.zeroValue89
  t146:=Tryz.underlying152
  a146:=Tryz.isAgg152
  z146:=Tryz.sizeOf152
  v146:=Tryz.zeroValue152
  g1:=by kernel_rfl}
open Go.RowKit Go.Lib in
/-- strings.Cut: "Cut slices s around the first instance of sep, returning the text before and after sep. The found result reports whether sep appears in s. If sep does not appear in s, cut returns s, "", false.": IT RETURNS 'Lib.cut s sep'; the world is as it was but for the count of draws. (LAID: no walk: one application.) -/
theorem Tryz.strings_Cut (s sep:ByteArray) (m:Int) (w:World) (hs:s.size<4294967281) (hm:w.cell? ⟨0,0,none⟩=some (.int .i64 m)):
    Calls Tryz.prog 75 #[.string s,.string sep] w fun e w'=>e= .returned (.tuple #[.string ⟨(Lib.cut s.data.toList sep.data.toList).1.toArray⟩,.string ⟨(Lib.cut s.data.toList sep.data.toList).2.1.toArray⟩,.bool (Lib.cut s.data.toList sep.data.toList).2.2])∧∃n,w'=w.drewN n:=Any.strings_Cut Tryz.lays145 s sep m w hs hm
def Tryz.lays146_ren:Go.Shelf.Ren:=⟨fun|146=>92|221=>129|268=>155|138=>156|143=>157|195=>181|197=>182|218=>183|219=>149|260=>196|217=>170|225=>171|224=>172|267=>173|266=>189|314=>190|n=>n,fun|9=>9|31=>35|3=>3|4=>4|0=>0|105=>142|21=>21|5=>5|46=>135|119=>167|139=>170|138=>169|146=>152|51=>151|n=>n,fun|1=>0|3=>4|4=>5|n=>n⟩
theorem Tryz.lays146:Go.Proofs.Lays.n146 Tryz.prog Tryz.lays146_ren:={
  mixed:=by kernel_rfl
  f138:=Tryz.func156.trans (congrArg some (by kernel_rfl))
  f143:=Tryz.func157.trans (congrArg some (by kernel_rfl))
  f146:=Tryz.func92.trans (congrArg some (by kernel_rfl))
  f195:=Tryz.func181.trans (congrArg some (by kernel_rfl))
  f197:=Tryz.func182.trans (congrArg some (by kernel_rfl))
  f217:=Tryz.func170.trans (congrArg some (by kernel_rfl))
  f218:=Tryz.func183.trans (congrArg some (by kernel_rfl))
  f219:=Tryz.func149.trans (congrArg some (by kernel_rfl))
  f221:=Tryz.func129.trans (congrArg some (by kernel_rfl))
  f224:=Tryz.func172.trans (congrArg some (by kernel_rfl))
  f225:=Tryz.func171.trans (congrArg some (by kernel_rfl))
  f260:=Tryz.func196.trans (congrArg some (by kernel_rfl))
  f266:=Tryz.func189.trans (congrArg some (by kernel_rfl))
  f267:=Tryz.func173.trans (congrArg some (by kernel_rfl))
  f268:=Tryz.func155.trans (congrArg some (by kernel_rfl))
  f314:=Tryz.func190.trans (congrArg some (by kernel_rfl))
  t0:=Tryz.underlying0
  a0:=Tryz.isAgg0
  z0:=Tryz.sizeOf0
  v0:=Tryz.zeroValue0
  t3:=Tryz.underlying3
  a3:=Tryz.isAgg3
  z3:=Tryz.sizeOf3
  v3:=Tryz.zeroValue3
  t4:=Tryz.underlying4
  a4:=Tryz.isAgg4
  z4:=Tryz.sizeOf4
  v4:=Tryz.zeroValue4
  t5:=Tryz.underlying5
  a5:=Tryz.isAgg5
  z5:=Tryz.sizeOf5
  v5:=Tryz.zeroValue5
  t9:=Tryz.underlying9
  a9:=Tryz.isAgg9
  z9:=Tryz.sizeOf9
  v9:=Tryz.zeroValue9
  t21:=Tryz.underlying21
  a21:=Tryz.isAgg21
  z21:=Tryz.sizeOf21
  v21:=Tryz.zeroValue21
  t31:=Tryz.underlying35
  a31:=Tryz.isAgg35
  z31:=Tryz.sizeOf35
  v31:=Tryz.zeroValue35
  t46:=Tryz.underlying135
  a46:=Tryz.isAgg135
  z46:=Tryz.sizeOf135
  v46:=Tryz.zeroValue135
  t51:=Tryz.underlying151
  a51:=Tryz.isAgg151
  z51:=Tryz.sizeOf151
  v51:=Tryz.zeroValue151
  t105:=Tryz.underlying142
  a105:=Tryz.isAgg142
  z105:=Tryz.sizeOf142
  v105:=Tryz.zeroValue142
  t119:=Tryz.underlying167
  a119:=Tryz.isAgg167
  z119:=Tryz.sizeOf167
  t138:=Tryz.underlying169
  a138:=Tryz.isAgg169
  z138:=Tryz.sizeOf169
  v138:=Tryz.zeroValue169
  t139:=Tryz.underlying170
  a139:=Tryz.isAgg170
  z139:=Tryz.sizeOf170
  v139:=Tryz.zeroValue170
  t146:=Tryz.underlying152
  a146:=Tryz.isAgg152
  z146:=Tryz.sizeOf152
  v146:=Tryz.zeroValue152
  g1:=by kernel_rfl
  g3:=by kernel_rfl
  g4:=by kernel_rfl}
open Go.RowKit Go.Lib in
/-- strings.Split. (LAID: no walk: one application.) -/
theorem Tryz.strings_Split (s sep:ByteArray) (m:Int) (w:World) (hs:s.size<4294967281) (hm:w.cell? ⟨0,0,none⟩=some (.int .i64 m)) (h1:1≤sep.size):
    Calls Tryz.prog 92 #[.string s,.string sep] w fun e w'=>
      e= .returned (.slice (some ⟨w.heap.size,0,none⟩) (Lib.countB s sep+1) (Lib.countB s sep+1))∧w'=w.alloc (.cells ((Lib.splitB sep 0 (Lib.countB s sep) s).map Value.string).toArray 9):=Any.strings_Split Tryz.lays146 (by kernel_rfl) s sep m w hs hm h1
end Go.Proofs
