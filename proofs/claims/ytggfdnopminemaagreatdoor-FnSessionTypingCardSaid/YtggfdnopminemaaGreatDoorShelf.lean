/- DERIVED: THE SHELF's CONTRACTS AT THIS DUMP, IN PLAIN WORDS (tools/lay-plain.mjs out of 'TryzShelf.lean', which tools/lay-shelf.mjs wrote): THE SAME DECLARATIONS UNDER THE SAME NAMES: 'import', 'namespace', 'open', 'def', 'theorem' AND NOTHING ELSE: no command of the shelf's: FOR A HAND-IN. Each laying: the table of numbers ('.._ren') and one theorem, a field a fact of the dump's own or the kernel's comparison; each contract: ONE APPLICATION. -/
import Derived.Shelf.Strings.Builder1
import Derived.Shelf.Strings.Builder2
import Derived.Shelf.Strings.OnBuilder
import Derived.Shelf.Strings.Trim
import Derived.Shelf.Small.Utf8
import Derived.Shelf.Small.Strs
import Derived.Shelf.Small.Wraps
import Derived.Shelf.Strings.BuilderF
import Derived.Shelf.Strings.BuilderK
import Derived.Shelf.Utf8.RuneCount
import Derived.Shelf.Strings.Builder2Cap
import Derived.Shelf.Strconv.Itoa0
import Derived.Shelf.Strconv.Itoa1
import Derived.Shelf.LaysM
import Derived.Shelf.Strconv.Itoa2
import Derived.Shelf.Strconv.Itoa3
import Derived.Shelf.Strings.Search1
import Derived.Shelf.Strings.Search2
import Derived.Shelf.Strings.Search3
import Derived.Shelf.Strings.Cut
import Derived.Shelf.Strings.Count
import Derived.Shelf.Strings.Shaped
import Derived.Shelf.Strings.Prefix
import Derived.Shelf.Strings.Split
import Derived.Shelf.Strings.Replace
import Derived.Shelf.Strings.SplitShaped
import Derived.Shelf.Unicode.Decode
import Derived.Shelf.Strings.Runes
import Derived.Shelf.Strings.RuneCount
import Derived.Shelf.Strings.IndexAny
import Derived.Shelf.Strings.AsciiSet
import Derived.Shelf.Strings.IndexAnyAll
import Derived.Shelf.Strings.Explode
import Derived.Shelf.Unicode.DecodeSlow
import Derived.Shelf.Unicode.DecodeAny
import Derived.Shelf.Unicode.DecodeLast
import Derived.Shelf.Strings.BuilderCap
import Derived.Shelf.Slices.Turned
import Derived.Shelf.Slices.Equal
import Derived.Ground.Names2Prog
import Derived.Shelf.Slices.SearchI
import Derived.Shelf.Slices.Empties2
import Derived.Test.YtggfdnopminemaaGreatDoorProg
set_option linter.all false
namespace Go.Proofs
open Go.Shelf
open Go.RowKit in
open Go.RowKit in
open Go.RowKit in
open Go.RowKit in
open Go.RowKit in
def Tryz.lays156_ren:Go.Shelf.Ren:=⟨fun|156=>185|165=>247|166=>248|169=>250|240=>301|241=>302|276=>347|277=>348|n=>n,fun|31=>43|9=>9|3=>3|4=>4|0=>0|20=>20|72=>232|76=>169|70=>230|37=>22|75=>168|127=>267|164=>293|5=>5|80=>150|n=>n,fun|n=>n⟩
theorem Tryz.lays156:Go.Proofs.Lays.n156 Tryz.prog Tryz.lays156_ren:={
  mixed:=by kernel_rfl
  f156:=Tryz.func185.trans (congrArg some (by kernel_rfl))
  f165:=Tryz.func247.trans (congrArg some (by kernel_rfl))
  f166:=Tryz.func248.trans (congrArg some (by kernel_rfl))
  f169:=Tryz.func250.trans (congrArg some (by kernel_rfl))
  f240:=Tryz.func301.trans (congrArg some (by kernel_rfl))
  f241:=Tryz.func302.trans (congrArg some (by kernel_rfl))
  f276:=Tryz.func347.trans (congrArg some (by kernel_rfl))
  f277:=Tryz.func348.trans (congrArg some (by kernel_rfl))
  t0:=Tryz.underlying0
  a0:=Tryz.isAgg0
  z0:=Tryz.sizeOf0
  v0:=Tryz.zeroValue0
  t3:=Tryz.underlying3
  a3:=Tryz.isAgg3
  z3:=Tryz.sizeOf3
  v3:=Tryz.zeroValue3
  t4:=Tryz.underlying4
  a4:=Tryz.isAgg4
  z4:=Tryz.sizeOf4
  v4:=Tryz.zeroValue4
  t9:=Tryz.underlying9
  a9:=Tryz.isAgg9
  z9:=Tryz.sizeOf9
  v9:=Tryz.zeroValue9
  t20:=Tryz.underlying20
  a20:=Tryz.isAgg20
  z20:=Tryz.sizeOf20
  v20:=Tryz.zeroValue20
  t31:=Tryz.underlying43
  a31:=Tryz.isAgg43
  z31:=Tryz.sizeOf43
  v31:=Tryz.zeroValue43
  t37:=Tryz.underlying22
  a37:=Tryz.isAgg22
  z37:=Tryz.sizeOf22
  v37:=Tryz.zeroValue22
  t70:=Tryz.underlying230
  a70:=Tryz.isAgg230
  z70:=Tryz.sizeOf230
  v70:=Tryz.zeroValue230
  t72:=Tryz.underlying232
  a72:=Tryz.isAgg232
  z72:=Tryz.sizeOf232
  v72:=Tryz.zeroValue232
  t75:=Tryz.underlying168
  a75:=Tryz.isAgg168
  z75:=Tryz.sizeOf168
  v75:=Tryz.zeroValue168
  t76:=Tryz.underlying169
  a76:=Tryz.isAgg169
  z76:=Tryz.sizeOf169
  v76:=Tryz.zeroValue169
  t127:=Tryz.underlying267
  a127:=Tryz.isAgg267
  z127:=Tryz.sizeOf267
  v127:=Tryz.zeroValue267
  t164:=Tryz.underlying293
  a164:=Tryz.isAgg293
  z164:=Tryz.sizeOf293
  v164:=Tryz.zeroValue293 }
theorem Tryz.Builder_Extra_156:Builder.Extra Tryz.prog Tryz.lays156_ren:={
  sizeBuilder:=by kernel_rfl
  liesBuilder:=by kernel_rfl
  t5:=Tryz.underlying5
  a5:=Tryz.isAgg5
  z5:=Tryz.sizeOf5
  v5:=Tryz.zeroValue5
  infoByte:=by kernel_rfl
  cellsByte:=by kernel_rfl
  sizeByte:=by kernel_rfl
  neB5:=by decide }
open Go.RowKit in
theorem Tryz.strings_Join_none (a:Option Addr) (c:Nat) (sep:ByteArray) (w:World) :
    Calls Tryz.prog 185 #[.slice a 0 c,.string sep] w fun e w'=>e=.returned (.string ⟨#[]⟩)∧w'=w:=Any.strings_Join_none Tryz.lays156 Tryz.Builder_Extra_156 a c sep w
open Go.RowKit in
theorem Tryz.strings_Join (bk o c:Nat) (xs:List ByteArray) (sep:ByteArray) (w:World) (hcells:∀(j:Nat) x,xs[j]?=some x→w.cell? ⟨bk,o+j,none⟩=some (.string x)) (hbk:bk<w.heap.size) (hN:xs.length≤140737488355328) (hcap:xs.length≤c) (hlen:(Lib.join (xs.map (·.data.toList)) sep.data.toList).length≤140737488355328) :
    Calls Tryz.prog 185 #[.slice (some ⟨bk,o,none⟩) xs.length c,.string sep] w fun e w'=>e=.returned (.string ⟨(Lib.join (xs.map (·.data.toList)) sep.data.toList).toArray⟩)∧Below w.heap.size w w':=Any.strings_Join Tryz.lays156 Tryz.Builder_Extra_156 bk o c xs sep w hcells hbk hN hcap hlen
open Go.RowKit in
open Go.RowKit in
def Tryz.lays160_ren:Go.Shelf.Ren:=⟨fun|160=>285|232=>327|231=>326|227=>262|234=>329|233=>328|236=>331|235=>330|228=>263|271=>360|151=>359|197=>249|120=>374|152=>260|260=>303|137=>307|119=>308|224=>266|225=>265|217=>264|266=>309|n=>n,fun|9=>9|4=>4|3=>3|5=>5|117=>247|116=>246|0=>0|124=>269|21=>21|105=>234|46=>120|119=>296|139=>299|138=>298|n=>n,fun|3=>3|4=>4|n=>n⟩
theorem Tryz.lays160:Go.Proofs.Lays.n160 Tryz.prog Tryz.lays160_ren:={
  mixed:=by kernel_rfl
  f119:=Tryz.func308.trans (congrArg some (by kernel_rfl))
  f120:=Tryz.func374.trans (congrArg some (by kernel_rfl))
  f137:=Tryz.func307.trans (congrArg some (by kernel_rfl))
  f151:=Tryz.func359.trans (congrArg some (by kernel_rfl))
  f152:=Tryz.func260.trans (congrArg some (by kernel_rfl))
  f160:=Tryz.func285.trans (congrArg some (by kernel_rfl))
  f197:=Tryz.func249.trans (congrArg some (by kernel_rfl))
  f217:=Tryz.func264.trans (congrArg some (by kernel_rfl))
  f224:=Tryz.func266.trans (congrArg some (by kernel_rfl))
  f225:=Tryz.func265.trans (congrArg some (by kernel_rfl))
  f227:=Tryz.func262.trans (congrArg some (by kernel_rfl))
  f228:=Tryz.func263.trans (congrArg some (by kernel_rfl))
  f231:=Tryz.func326.trans (congrArg some (by kernel_rfl))
  f232:=Tryz.func327.trans (congrArg some (by kernel_rfl))
  f233:=Tryz.func328.trans (congrArg some (by kernel_rfl))
  f234:=Tryz.func329.trans (congrArg some (by kernel_rfl))
  f235:=Tryz.func330.trans (congrArg some (by kernel_rfl))
  f236:=Tryz.func331.trans (congrArg some (by kernel_rfl))
  f260:=Tryz.func303.trans (congrArg some (by kernel_rfl))
  f266:=Tryz.func309.trans (congrArg some (by kernel_rfl))
  f271:=Tryz.func360.trans (congrArg some (by kernel_rfl))
  t0:=Tryz.underlying0
  a0:=Tryz.isAgg0
  z0:=Tryz.sizeOf0
  v0:=Tryz.zeroValue0
  t3:=Tryz.underlying3
  a3:=Tryz.isAgg3
  z3:=Tryz.sizeOf3
  v3:=Tryz.zeroValue3
  t4:=Tryz.underlying4
  a4:=Tryz.isAgg4
  z4:=Tryz.sizeOf4
  v4:=Tryz.zeroValue4
  t5:=Tryz.underlying5
  a5:=Tryz.isAgg5
  z5:=Tryz.sizeOf5
  v5:=Tryz.zeroValue5
  t9:=Tryz.underlying9
  a9:=Tryz.isAgg9
  z9:=Tryz.sizeOf9
  v9:=Tryz.zeroValue9
  t21:=Tryz.underlying21
  a21:=Tryz.isAgg21
  z21:=Tryz.sizeOf21
  v21:=Tryz.zeroValue21
  t46:=Tryz.underlying120
  a46:=Tryz.isAgg120
  z46:=Tryz.sizeOf120
  v46:=Tryz.zeroValue120
  t105:=Tryz.underlying234
  a105:=Tryz.isAgg234
  z105:=Tryz.sizeOf234
  v105:=Tryz.zeroValue234
  t116:=Tryz.underlying246
  a116:=Tryz.isAgg246
  z116:=Tryz.sizeOf246
  t117:=Tryz.underlying247
  a117:=Tryz.isAgg247
  z117:=Tryz.sizeOf247
  v117:=Tryz.zeroValue247
  t119:=Tryz.underlying296
  a119:=Tryz.isAgg296
  z119:=Tryz.sizeOf296
  t124:=Tryz.underlying269
  a124:=Tryz.isAgg269
  z124:=Tryz.sizeOf269
  v124:=Tryz.zeroValue269
  t138:=Tryz.underlying298
  a138:=Tryz.isAgg298
  z138:=Tryz.sizeOf298
  v138:=Tryz.zeroValue298
  t139:=Tryz.underlying299
  a139:=Tryz.isAgg299
  z139:=Tryz.sizeOf299
  v139:=Tryz.zeroValue299
  g3:=by kernel_rfl
  g4:=by kernel_rfl }
open Go.RowKit in
def Tryz.lays137_ren:Go.Shelf.Ren:=⟨fun|137=>307|217=>264|266=>309|n=>n,fun|9=>9|5=>5|3=>3|n=>n,fun|n=>n⟩
theorem Tryz.lays137:Go.Proofs.Lays.n137 Tryz.prog Tryz.lays137_ren:={
  mixed:=by kernel_rfl
  f137:=Tryz.func307.trans (congrArg some (by kernel_rfl))
  f217:=Tryz.func264.trans (congrArg some (by kernel_rfl))
  f266:=Tryz.func309.trans (congrArg some (by kernel_rfl))
  t3:=Tryz.underlying3
  a3:=Tryz.isAgg3
  z3:=Tryz.sizeOf3
  v3:=Tryz.zeroValue3
  t5:=Tryz.underlying5
  a5:=Tryz.isAgg5
  z5:=Tryz.sizeOf5
  v5:=Tryz.zeroValue5
  t9:=Tryz.underlying9
  a9:=Tryz.isAgg9
  z9:=Tryz.sizeOf9
  v9:=Tryz.zeroValue9 }
open Go.RowKit in
theorem Tryz.strings_IndexByte (s:ByteArray) (c:Int) (w:World) :
    Calls Tryz.prog 307 #[.string s,.int .u8 c] w fun e w'=>e=.returned (.int .i64 (Lib.indexByte s.data.toList c.toNat.toUInt8))∧w'=w:=Any.strings_IndexByte Tryz.lays137 s c w
open Go.RowKit in
def Tryz.lays122_ren:Go.Shelf.Ren:=⟨fun|122=>202|215=>257|n=>n,fun|3=>3|4=>4|n=>n,fun|n=>n⟩
theorem Tryz.lays122:Go.Proofs.Lays.n122 Tryz.prog Tryz.lays122_ren:={
  mixed:=by kernel_rfl
  f122:=Tryz.func202.trans (congrArg some (by kernel_rfl))
  f215:=Tryz.func257.trans (congrArg some (by kernel_rfl))
  t3:=Tryz.underlying3
  a3:=Tryz.isAgg3
  z3:=Tryz.sizeOf3
  v3:=Tryz.zeroValue3
  t4:=Tryz.underlying4
  a4:=Tryz.isAgg4
  z4:=Tryz.sizeOf4
  v4:=Tryz.zeroValue4 }
open Go.RowKit in
theorem Tryz.cmp_Compare_int (x y:Int) (w:World) :
    Calls Tryz.prog 202 #[.int .i64 x,.int .i64 y] w fun e w'=>e=.returned (.int .i64 (Lib.compareInt x y))∧w'=w:=Any.cmp_Compare_int Tryz.lays122 x y w
open Go.RowKit in
open Go.RowKit in
open Go.RowKit in
open Go.RowKit in
open Go.RowKit in
open Go.RowKit in
open Go.RowKit in
open Go.RowKit in
open Go.RowKit in
open Go.Lib in
open Go.Lib in
open Go.Lib in
open Go.Lib in
open Go.RowKit Go.Sort Go.Lib in
open Go.RowKit Go.Sort Go.Lib in
open Go.RowKit Go.Sort Go.Lib in
open Go.RowKit Go.Sort Go.Lib in
open Go.RowKit Go.Sort Go.Lib in
def Tryz.laysM171_ren:Go.Shelf.Ren:=⟨fun|171=>145|243=>216|246=>276|283=>318|284=>319|285=>320|286=>321|129=>353|317=>352|318=>354|319=>355|320=>356|337=>372|338=>373|n=>n,fun|3=>3|9=>9|2=>2|4=>4|171=>275|0=>0|53=>89|37=>22|5=>5|173=>278|212=>302|51=>270|20=>20|213=>303|46=>120|232=>315|233=>316|n=>n,fun|17=>5|18=>6|19=>7|n=>n⟩
theorem Tryz.laysM171:Go.Proofs.LaysM.n171 Tryz.prog Tryz.laysM171_ren:={
  mixed:=by kernel_rfl
  f129:=Tryz.func353.trans (congrArg some (by kernel_rfl))
  f171:=Tryz.func145.trans (congrArg some (by kernel_rfl))
  f243:=Tryz.func216.trans (congrArg some (by kernel_rfl))
  f246:=Tryz.func276.trans (congrArg some (by kernel_rfl))
  f283:=Tryz.func318.trans (congrArg some (by kernel_rfl))
  f284:=Tryz.func319.trans (congrArg some (by kernel_rfl))
  f285:=Tryz.func320.trans (congrArg some (by kernel_rfl))
  f286:=Tryz.func321.trans (congrArg some (by kernel_rfl))
  f317:=Tryz.func352.trans (congrArg some (by kernel_rfl))
  f318:=Tryz.func354.trans (congrArg some (by kernel_rfl))
  f319:=Tryz.func355.trans (congrArg some (by kernel_rfl))
  f320:=Tryz.func356.trans (congrArg some (by kernel_rfl))
  f337:=Tryz.func372.trans (congrArg some (by kernel_rfl))
  f338:=Tryz.func373.trans (congrArg some (by kernel_rfl))
  t0:=Tryz.underlying0
  a0:=Tryz.isAgg0
  z0:=Tryz.sizeOf0
  v0:=Tryz.zeroValue0
  t2:=Tryz.underlying2
  a2:=Tryz.isAgg2
  z2:=Tryz.sizeOf2
  v2:=Tryz.zeroValue2
  t3:=Tryz.underlying3
  a3:=Tryz.isAgg3
  z3:=Tryz.sizeOf3
  v3:=Tryz.zeroValue3
  t4:=Tryz.underlying4
  a4:=Tryz.isAgg4
  z4:=Tryz.sizeOf4
  v4:=Tryz.zeroValue4
  t5:=Tryz.underlying5
  a5:=Tryz.isAgg5
  z5:=Tryz.sizeOf5
  v5:=Tryz.zeroValue5
  t9:=Tryz.underlying9
  a9:=Tryz.isAgg9
  z9:=Tryz.sizeOf9
  v9:=Tryz.zeroValue9
  t20:=Tryz.underlying20
  a20:=Tryz.isAgg20
  z20:=Tryz.sizeOf20
  v20:=Tryz.zeroValue20
  t37:=Tryz.underlying22
  a37:=Tryz.isAgg22
  z37:=Tryz.sizeOf22
  v37:=Tryz.zeroValue22
  t46:=Tryz.underlying120
  a46:=Tryz.isAgg120
  z46:=Tryz.sizeOf120
  v46:=Tryz.zeroValue120
  t51:=Tryz.underlying270
  a51:=Tryz.isAgg270
  z51:=Tryz.sizeOf270
  v51:=Tryz.zeroValue270
  t53:=Tryz.underlying89
  a53:=Tryz.isAgg89
  z53:=Tryz.sizeOf89
  v53:=Tryz.zeroValue89
  t171:=Tryz.underlying275
  a171:=Tryz.isAgg275
  z171:=Tryz.sizeOf275
  v171:=Tryz.zeroValue275
  t173:=Tryz.underlying278
  a173:=Tryz.isAgg278
  z173:=Tryz.sizeOf278
  v173:=Tryz.zeroValue278
  t212:=Tryz.underlying302
  a212:=Tryz.isAgg302
  z212:=Tryz.sizeOf302
  v212:=Tryz.zeroValue302
  t213:=Tryz.underlying303
  a213:=Tryz.isAgg303
  z213:=Tryz.sizeOf303
  t232:=Tryz.underlying315
  a232:=Tryz.isAgg315
  z232:=Tryz.sizeOf315
  v232:=Tryz.zeroValue315
  t233:=Tryz.underlying316
  a233:=Tryz.isAgg316
  z233:=Tryz.sizeOf316
  v233:=Tryz.zeroValue316
  g17:=by kernel_rfl
  g18:=by kernel_rfl
  g19:=by kernel_rfl
  i0:=by kernel_rfl
  i2:=by kernel_rfl
  i3:=by kernel_rfl
  i4:=by kernel_rfl
  i5:=by kernel_rfl
  i9:=by kernel_rfl
  i20:=by kernel_rfl
  i37:=by kernel_rfl
  i46:=by kernel_rfl
  i51:=by kernel_rfl
  i53:=by kernel_rfl
  i171:=by kernel_rfl
  i173:=by kernel_rfl
  i212:=by kernel_rfl
  i232:=by kernel_rfl
  i233:=by kernel_rfl
  m17:=by kernel_rfl
  m18:=by kernel_rfl
  m19:=by kernel_rfl }
open Go.RowKit Go.Sort Go.Lib in
theorem Tryz.strconv_Itoa (n:Int) (h0 : -9223372036854775808≤n) (h1:n≤9223372036854775807) (w:World) (htab:Lib.TabIs Tryz.prog w "internal/strconv.uint64pow10" .u64 Lib.pow10Tab) :
    Calls Tryz.prog 145 #[.int .i64 n] w fun e w'=>e=.returned (.string ⟨(Lib.itoa n).toArray⟩)∧∃k os,w'=grow (w.drewN k) os:=Any.strconv_Itoa Tryz.laysM171 n h0 h1 w htab
open Go.RowKit Go.Sort Go.Lib in
open Go.RowKit Go.Lib in
open Go.RowKit Go.Lib in
open Go.RowKit Go.Lib in
open Go.RowKit Go.Lib in
open Go.RowKit Go.Lib in
open Go.RowKit Go.Lib in
open Go.RowKit Go.Lib in
open Go.RowKit Go.Lib in
def Tryz.lays144_ren:Go.Shelf.Ren:=⟨fun|144=>136|143=>205|219=>206|217=>264|225=>265|224=>266|267=>267|266=>309|314=>310|n=>n,fun|9=>9|4=>4|3=>3|5=>5|46=>120|146=>271|51=>270|n=>n,fun|1=>0|n=>n⟩
theorem Tryz.lays144:Go.Proofs.Lays.n144 Tryz.prog Tryz.lays144_ren:={
  mixed:=by kernel_rfl
  f143:=Tryz.func205.trans (congrArg some (by kernel_rfl))
  f144:=Tryz.func136.trans (congrArg some (by kernel_rfl))
  f217:=Tryz.func264.trans (congrArg some (by kernel_rfl))
  f219:=Tryz.func206.trans (congrArg some (by kernel_rfl))
  f224:=Tryz.func266.trans (congrArg some (by kernel_rfl))
  f225:=Tryz.func265.trans (congrArg some (by kernel_rfl))
  f266:=Tryz.func309.trans (congrArg some (by kernel_rfl))
  f267:=Tryz.func267.trans (congrArg some (by kernel_rfl))
  f314:=Tryz.func310.trans (congrArg some (by kernel_rfl))
  t3:=Tryz.underlying3
  a3:=Tryz.isAgg3
  z3:=Tryz.sizeOf3
  v3:=Tryz.zeroValue3
  t4:=Tryz.underlying4
  a4:=Tryz.isAgg4
  z4:=Tryz.sizeOf4
  v4:=Tryz.zeroValue4
  t5:=Tryz.underlying5
  a5:=Tryz.isAgg5
  z5:=Tryz.sizeOf5
  v5:=Tryz.zeroValue5
  t9:=Tryz.underlying9
  a9:=Tryz.isAgg9
  z9:=Tryz.sizeOf9
  v9:=Tryz.zeroValue9
  t46:=Tryz.underlying120
  a46:=Tryz.isAgg120
  z46:=Tryz.sizeOf120
  v46:=Tryz.zeroValue120
  t51:=Tryz.underlying270
  a51:=Tryz.isAgg270
  z51:=Tryz.sizeOf270
  v51:=Tryz.zeroValue270
  t146:=Tryz.underlying271
  a146:=Tryz.isAgg271
  z146:=Tryz.sizeOf271
  v146:=Tryz.zeroValue271
  g1:=by kernel_rfl }
open Go.RowKit Go.Lib in
theorem Tryz.strings_Contains_one (s:ByteArray) (c:UInt8) (w:World) :
    Calls Tryz.prog 136 #[.string s,.string ⟨#[c]⟩] w fun e w'=>e=.returned (.bool (decide (0≤Lib.indexByte s.data.toList c)))∧w'=w:=Any.strings_Contains_one Tryz.lays144 s c w
open Go.RowKit Go.Lib in
open Go.RowKit Go.Lib in
def Tryz.lays145_ren:Go.Shelf.Ren:=⟨fun|145=>69|220=>137|219=>206|217=>264|225=>265|224=>266|267=>267|266=>309|314=>310|n=>n,fun|9=>9|4=>4|59=>108|3=>3|5=>5|46=>120|146=>271|51=>270|n=>n,fun|1=>0|n=>n⟩
theorem Tryz.lays145:Go.Proofs.Lays.n145 Tryz.prog Tryz.lays145_ren:={
  mixed:=by kernel_rfl
  f145:=Tryz.func69.trans (congrArg some (by kernel_rfl))
  f217:=Tryz.func264.trans (congrArg some (by kernel_rfl))
  f219:=Tryz.func206.trans (congrArg some (by kernel_rfl))
  f220:=Tryz.func137.trans (congrArg some (by kernel_rfl))
  f224:=Tryz.func266.trans (congrArg some (by kernel_rfl))
  f225:=Tryz.func265.trans (congrArg some (by kernel_rfl))
  f266:=Tryz.func309.trans (congrArg some (by kernel_rfl))
  f267:=Tryz.func267.trans (congrArg some (by kernel_rfl))
  f314:=Tryz.func310.trans (congrArg some (by kernel_rfl))
  t3:=Tryz.underlying3
  a3:=Tryz.isAgg3
  z3:=Tryz.sizeOf3
  v3:=Tryz.zeroValue3
  t4:=Tryz.underlying4
  a4:=Tryz.isAgg4
  z4:=Tryz.sizeOf4
  v4:=Tryz.zeroValue4
  t5:=Tryz.underlying5
  a5:=Tryz.isAgg5
  z5:=Tryz.sizeOf5
  v5:=Tryz.zeroValue5
  t9:=Tryz.underlying9
  a9:=Tryz.isAgg9
  z9:=Tryz.sizeOf9
  v9:=Tryz.zeroValue9
  t46:=Tryz.underlying120
  a46:=Tryz.isAgg120
  z46:=Tryz.sizeOf120
  v46:=Tryz.zeroValue120
  t51:=Tryz.underlying270
  a51:=Tryz.isAgg270
  z51:=Tryz.sizeOf270
  v51:=Tryz.zeroValue270
  t59:=Tryz.underlying108
  a59:=Tryz.isAgg108
  z59:=Tryz.sizeOf108
  v59:=Tryz.zeroValue108
  t146:=Tryz.underlying271
  a146:=Tryz.isAgg271
  z146:=Tryz.sizeOf271
  v146:=Tryz.zeroValue271
  g1:=by kernel_rfl }
open Go.RowKit Go.Lib in
theorem Tryz.strings_Cut (s sep:ByteArray) (m:Int) (w:World) (hs:s.size<4294967281) (hm:w.cell? ⟨0,0,none⟩=some (.int .i64 m)) :
    Calls Tryz.prog 69 #[.string s,.string sep] w fun e w'=>e=.returned (.tuple #[.string ⟨(Lib.cut s.data.toList sep.data.toList).1.toArray⟩,.string ⟨(Lib.cut s.data.toList sep.data.toList).2.1.toArray⟩,.bool (Lib.cut s.data.toList sep.data.toList).2.2])∧∃n,w'=w.drewN n:=Any.strings_Cut Tryz.lays145 s sep m w hs hm
open Go.RowKit Go.Lib in
open Go.RowKit Go.Lib in
open Go.RowKit Go.Lib in
open Go.RowKit Go.Lib in
open Go.RowKit Go.Lib in
open Go.RowKit Go.Lib in
open Go.RowKit Go.Lib in
open Go.RowKit Go.Lib in
open Go.RowKit Go.Lib in
open Go.RowKit Go.Lib in
def Tryz.lays100_ren:Go.Shelf.Ren:=⟨fun|100=>317|207=>351|n=>n,fun|9=>9|4=>4|3=>3|n=>n,fun|n=>n⟩
theorem Tryz.lays100:Go.Proofs.Lays.n100 Tryz.prog Tryz.lays100_ren:={
  mixed:=by kernel_rfl
  f100:=Tryz.func317.trans (congrArg some (by kernel_rfl))
  f207:=Tryz.func351.trans (congrArg some (by kernel_rfl))
  t3:=Tryz.underlying3
  a3:=Tryz.isAgg3
  z3:=Tryz.sizeOf3
  v3:=Tryz.zeroValue3
  t4:=Tryz.underlying4
  a4:=Tryz.isAgg4
  z4:=Tryz.sizeOf4
  v4:=Tryz.zeroValue4
  t9:=Tryz.underlying9
  a9:=Tryz.isAgg9
  z9:=Tryz.sizeOf9
  v9:=Tryz.zeroValue9 }
open Go.RowKit Go.Lib in
theorem Tryz.strings_HasSuffix (s p:ByteArray) (w:World) (hs:s.size≤9223372036854775807) :
    Calls Tryz.prog 317 #[.string s,.string p] w fun e w'=>e=.returned (.bool (Lib.hasSuffix s.data.toList p.data.toList))∧w'=w:=Any.strings_HasSuffix Tryz.lays100 s p w hs
open Go.RowKit Go.Lib in
def Tryz.lays101_ren:Go.Shelf.Ren:=⟨fun|101=>81|208=>154|206=>224|n=>n,fun|9=>9|4=>4|3=>3|n=>n,fun|n=>n⟩
theorem Tryz.lays101:Go.Proofs.Lays.n101 Tryz.prog Tryz.lays101_ren:={
  mixed:=by kernel_rfl
  f101:=Tryz.func81.trans (congrArg some (by kernel_rfl))
  f206:=Tryz.func224.trans (congrArg some (by kernel_rfl))
  f208:=Tryz.func154.trans (congrArg some (by kernel_rfl))
  t3:=Tryz.underlying3
  a3:=Tryz.isAgg3
  z3:=Tryz.sizeOf3
  v3:=Tryz.zeroValue3
  t4:=Tryz.underlying4
  a4:=Tryz.isAgg4
  z4:=Tryz.sizeOf4
  v4:=Tryz.zeroValue4
  t9:=Tryz.underlying9
  a9:=Tryz.isAgg9
  z9:=Tryz.sizeOf9
  v9:=Tryz.zeroValue9 }
open Go.RowKit Go.Lib in
theorem Tryz.strings_TrimPrefix (s p:ByteArray) (w:World) :
    Calls Tryz.prog 81 #[.string s,.string p] w fun e w'=>e=.returned (.string ⟨(Lib.trimPrefix s.data.toList p.data.toList).toArray⟩)∧w'=w:=Any.strings_TrimPrefix Tryz.lays101 s p w
open Go.RowKit Go.Lib in
open Go.RowKit Go.Lib in
def Tryz.lays146_ren:Go.Shelf.Ren:=⟨fun|146=>103|221=>182|268=>244|138=>245|143=>205|195=>298|197=>249|218=>299|219=>206|260=>303|217=>264|225=>265|224=>266|267=>267|266=>309|314=>310|n=>n,fun|9=>9|31=>43|3=>3|4=>4|0=>0|105=>234|21=>21|5=>5|46=>120|119=>296|139=>299|138=>298|146=>271|51=>270|n=>n,fun|1=>0|3=>3|4=>4|n=>n⟩
theorem Tryz.lays146:Go.Proofs.Lays.n146 Tryz.prog Tryz.lays146_ren:={
  mixed:=by kernel_rfl
  f138:=Tryz.func245.trans (congrArg some (by kernel_rfl))
  f143:=Tryz.func205.trans (congrArg some (by kernel_rfl))
  f146:=Tryz.func103.trans (congrArg some (by kernel_rfl))
  f195:=Tryz.func298.trans (congrArg some (by kernel_rfl))
  f197:=Tryz.func249.trans (congrArg some (by kernel_rfl))
  f217:=Tryz.func264.trans (congrArg some (by kernel_rfl))
  f218:=Tryz.func299.trans (congrArg some (by kernel_rfl))
  f219:=Tryz.func206.trans (congrArg some (by kernel_rfl))
  f221:=Tryz.func182.trans (congrArg some (by kernel_rfl))
  f224:=Tryz.func266.trans (congrArg some (by kernel_rfl))
  f225:=Tryz.func265.trans (congrArg some (by kernel_rfl))
  f260:=Tryz.func303.trans (congrArg some (by kernel_rfl))
  f266:=Tryz.func309.trans (congrArg some (by kernel_rfl))
  f267:=Tryz.func267.trans (congrArg some (by kernel_rfl))
  f268:=Tryz.func244.trans (congrArg some (by kernel_rfl))
  f314:=Tryz.func310.trans (congrArg some (by kernel_rfl))
  t0:=Tryz.underlying0
  a0:=Tryz.isAgg0
  z0:=Tryz.sizeOf0
  v0:=Tryz.zeroValue0
  t3:=Tryz.underlying3
  a3:=Tryz.isAgg3
  z3:=Tryz.sizeOf3
  v3:=Tryz.zeroValue3
  t4:=Tryz.underlying4
  a4:=Tryz.isAgg4
  z4:=Tryz.sizeOf4
  v4:=Tryz.zeroValue4
  t5:=Tryz.underlying5
  a5:=Tryz.isAgg5
  z5:=Tryz.sizeOf5
  v5:=Tryz.zeroValue5
  t9:=Tryz.underlying9
  a9:=Tryz.isAgg9
  z9:=Tryz.sizeOf9
  v9:=Tryz.zeroValue9
  t21:=Tryz.underlying21
  a21:=Tryz.isAgg21
  z21:=Tryz.sizeOf21
  v21:=Tryz.zeroValue21
  t31:=Tryz.underlying43
  a31:=Tryz.isAgg43
  z31:=Tryz.sizeOf43
  v31:=Tryz.zeroValue43
  t46:=Tryz.underlying120
  a46:=Tryz.isAgg120
  z46:=Tryz.sizeOf120
  v46:=Tryz.zeroValue120
  t51:=Tryz.underlying270
  a51:=Tryz.isAgg270
  z51:=Tryz.sizeOf270
  v51:=Tryz.zeroValue270
  t105:=Tryz.underlying234
  a105:=Tryz.isAgg234
  z105:=Tryz.sizeOf234
  v105:=Tryz.zeroValue234
  t119:=Tryz.underlying296
  a119:=Tryz.isAgg296
  z119:=Tryz.sizeOf296
  t138:=Tryz.underlying298
  a138:=Tryz.isAgg298
  z138:=Tryz.sizeOf298
  v138:=Tryz.zeroValue298
  t139:=Tryz.underlying299
  a139:=Tryz.isAgg299
  z139:=Tryz.sizeOf299
  v139:=Tryz.zeroValue299
  t146:=Tryz.underlying271
  a146:=Tryz.isAgg271
  z146:=Tryz.sizeOf271
  v146:=Tryz.zeroValue271
  g1:=by kernel_rfl
  g3:=by kernel_rfl
  g4:=by kernel_rfl }
open Go.RowKit Go.Lib in
theorem Tryz.strings_Split (s sep:ByteArray) (m:Int) (w:World) (hs:s.size<4294967281) (hm:w.cell? ⟨0,0,none⟩=some (.int .i64 m)) (h1:1≤sep.size) :
    Calls Tryz.prog 103 #[.string s,.string sep] w fun e w'=>
      e=.returned (.slice (some ⟨w.heap.size,0,none⟩) (Lib.countB s sep+1) (Lib.countB s sep+1))∧w'=w.alloc (.cells ((Lib.splitB sep 0 (Lib.countB s sep) s).map Value.string).toArray 9):=Any.strings_Split Tryz.lays146 (by kernel_rfl) s sep m w hs hm h1
open Go.RowKit Go.Lib in
open Go.RowKit Go.Lib in
open Go.RowKit Go.Lib in
open Go.RowKit Go.Lib in
def Tryz.lays155_ren:Go.Shelf.Ren:=⟨fun|155=>107|154=>184|138=>245|165=>247|143=>205|166=>248|197=>249|169=>250|195=>298|218=>299|240=>301|241=>302|219=>206|260=>303|276=>347|277=>348|217=>264|225=>265|224=>266|267=>267|266=>309|314=>310|n=>n,fun|9=>9|3=>3|4=>4|72=>232|0=>0|76=>169|105=>234|21=>21|5=>5|70=>230|20=>20|37=>22|75=>168|127=>267|164=>293|46=>120|119=>296|139=>299|138=>298|146=>271|51=>270|80=>150|n=>n,fun|1=>0|3=>3|4=>4|n=>n⟩
theorem Tryz.lays155:Go.Proofs.Lays.n155 Tryz.prog Tryz.lays155_ren:={
  mixed:=by kernel_rfl
  f138:=Tryz.func245.trans (congrArg some (by kernel_rfl))
  f143:=Tryz.func205.trans (congrArg some (by kernel_rfl))
  f154:=Tryz.func184.trans (congrArg some (by kernel_rfl))
  f155:=Tryz.func107.trans (congrArg some (by kernel_rfl))
  f165:=Tryz.func247.trans (congrArg some (by kernel_rfl))
  f166:=Tryz.func248.trans (congrArg some (by kernel_rfl))
  f169:=Tryz.func250.trans (congrArg some (by kernel_rfl))
  f195:=Tryz.func298.trans (congrArg some (by kernel_rfl))
  f197:=Tryz.func249.trans (congrArg some (by kernel_rfl))
  f217:=Tryz.func264.trans (congrArg some (by kernel_rfl))
  f218:=Tryz.func299.trans (congrArg some (by kernel_rfl))
  f219:=Tryz.func206.trans (congrArg some (by kernel_rfl))
  f224:=Tryz.func266.trans (congrArg some (by kernel_rfl))
  f225:=Tryz.func265.trans (congrArg some (by kernel_rfl))
  f240:=Tryz.func301.trans (congrArg some (by kernel_rfl))
  f241:=Tryz.func302.trans (congrArg some (by kernel_rfl))
  f260:=Tryz.func303.trans (congrArg some (by kernel_rfl))
  f266:=Tryz.func309.trans (congrArg some (by kernel_rfl))
  f267:=Tryz.func267.trans (congrArg some (by kernel_rfl))
  f276:=Tryz.func347.trans (congrArg some (by kernel_rfl))
  f277:=Tryz.func348.trans (congrArg some (by kernel_rfl))
  f314:=Tryz.func310.trans (congrArg some (by kernel_rfl))
  t0:=Tryz.underlying0
  a0:=Tryz.isAgg0
  z0:=Tryz.sizeOf0
  v0:=Tryz.zeroValue0
  t3:=Tryz.underlying3
  a3:=Tryz.isAgg3
  z3:=Tryz.sizeOf3
  v3:=Tryz.zeroValue3
  t4:=Tryz.underlying4
  a4:=Tryz.isAgg4
  z4:=Tryz.sizeOf4
  v4:=Tryz.zeroValue4
  t5:=Tryz.underlying5
  a5:=Tryz.isAgg5
  z5:=Tryz.sizeOf5
  v5:=Tryz.zeroValue5
  t9:=Tryz.underlying9
  a9:=Tryz.isAgg9
  z9:=Tryz.sizeOf9
  v9:=Tryz.zeroValue9
  t20:=Tryz.underlying20
  a20:=Tryz.isAgg20
  z20:=Tryz.sizeOf20
  v20:=Tryz.zeroValue20
  t21:=Tryz.underlying21
  a21:=Tryz.isAgg21
  z21:=Tryz.sizeOf21
  v21:=Tryz.zeroValue21
  t37:=Tryz.underlying22
  a37:=Tryz.isAgg22
  z37:=Tryz.sizeOf22
  v37:=Tryz.zeroValue22
  t46:=Tryz.underlying120
  a46:=Tryz.isAgg120
  z46:=Tryz.sizeOf120
  v46:=Tryz.zeroValue120
  t51:=Tryz.underlying270
  a51:=Tryz.isAgg270
  z51:=Tryz.sizeOf270
  v51:=Tryz.zeroValue270
  t70:=Tryz.underlying230
  a70:=Tryz.isAgg230
  z70:=Tryz.sizeOf230
  v70:=Tryz.zeroValue230
  t72:=Tryz.underlying232
  a72:=Tryz.isAgg232
  z72:=Tryz.sizeOf232
  v72:=Tryz.zeroValue232
  t75:=Tryz.underlying168
  a75:=Tryz.isAgg168
  z75:=Tryz.sizeOf168
  v75:=Tryz.zeroValue168
  t76:=Tryz.underlying169
  a76:=Tryz.isAgg169
  z76:=Tryz.sizeOf169
  v76:=Tryz.zeroValue169
  t105:=Tryz.underlying234
  a105:=Tryz.isAgg234
  z105:=Tryz.sizeOf234
  v105:=Tryz.zeroValue234
  t119:=Tryz.underlying296
  a119:=Tryz.isAgg296
  z119:=Tryz.sizeOf296
  t127:=Tryz.underlying267
  a127:=Tryz.isAgg267
  z127:=Tryz.sizeOf267
  v127:=Tryz.zeroValue267
  t138:=Tryz.underlying298
  a138:=Tryz.isAgg298
  z138:=Tryz.sizeOf298
  v138:=Tryz.zeroValue298
  t139:=Tryz.underlying299
  a139:=Tryz.isAgg299
  z139:=Tryz.sizeOf299
  v139:=Tryz.zeroValue299
  t146:=Tryz.underlying271
  a146:=Tryz.isAgg271
  z146:=Tryz.sizeOf271
  v146:=Tryz.zeroValue271
  t164:=Tryz.underlying293
  a164:=Tryz.isAgg293
  z164:=Tryz.sizeOf293
  v164:=Tryz.zeroValue293
  g1:=by kernel_rfl
  g3:=by kernel_rfl
  g4:=by kernel_rfl }
theorem Tryz.Builder_Extra_155:Builder.Extra Tryz.prog Tryz.lays155_ren:={
  sizeBuilder:=by kernel_rfl
  liesBuilder:=by kernel_rfl
  t5:=Tryz.underlying5
  a5:=Tryz.isAgg5
  z5:=Tryz.sizeOf5
  v5:=Tryz.zeroValue5
  infoByte:=by kernel_rfl
  cellsByte:=by kernel_rfl
  sizeByte:=by kernel_rfl
  neB5:=by decide }
open Go.RowKit Go.Lib in
theorem Tryz.strings_ReplaceAll (s old new:ByteArray) (m:Int) (w:World) (hs:s.size<4294967281) (hm:w.cell? ⟨0,0,none⟩=some (.int .i64 m)) (h1:1≤old.size) (hlen:s.size+Lib.countB s old*new.size≤140737488355328) :
    Calls Tryz.prog 107 #[.string s,.string old,.string new] w fun e w'=>
      e=.returned (.string ⟨(Lib.replaceAll s.data.toList old.data.toList new.data.toList).toArray⟩)∧Below w.heap.size w w':=Any.strings_ReplaceAll Tryz.lays155 Tryz.Builder_Extra_155 s old new m w hs hm h1 hlen
open Go.RowKit Go.Lib in
open Go.RowKit Go.Lib in
open Go.RowKit Go.Lib in
open Go.RowKit Go.Lib in
open Go.RowKit Go.Lib in
open Go.RowKit Go.Lib in
open Go.RowKit Go.Lib in
open Go.RowKit Go.Lib in
open Go.RowKit Go.Lib in
open Go.RowKit Go.Lib in
open Go.RowKit Go.Lib in
open Go.RowKit Go.Lib in
open Go.RowKit Go.Lib in
open Go.RowKit Go.Lib in
open Go.RowKit Go.Lib in
def Tryz.lays150_ren:Go.Shelf.Ren:=⟨fun|150=>135|153=>204|152=>260|226=>261|227=>262|228=>263|137=>307|119=>308|224=>266|225=>265|217=>264|266=>309|n=>n,fun|9=>9|4=>4|3=>3|5=>5|21=>21|117=>247|116=>246|0=>0|46=>120|124=>269|n=>n,fun|n=>n⟩
theorem Tryz.lays150:Go.Proofs.Lays.n150 Tryz.prog Tryz.lays150_ren:={
  mixed:=by kernel_rfl
  f119:=Tryz.func308.trans (congrArg some (by kernel_rfl))
  f137:=Tryz.func307.trans (congrArg some (by kernel_rfl))
  f150:=Tryz.func135.trans (congrArg some (by kernel_rfl))
  f152:=Tryz.func260.trans (congrArg some (by kernel_rfl))
  f153:=Tryz.func204.trans (congrArg some (by kernel_rfl))
  f217:=Tryz.func264.trans (congrArg some (by kernel_rfl))
  f224:=Tryz.func266.trans (congrArg some (by kernel_rfl))
  f225:=Tryz.func265.trans (congrArg some (by kernel_rfl))
  f226:=Tryz.func261.trans (congrArg some (by kernel_rfl))
  f227:=Tryz.func262.trans (congrArg some (by kernel_rfl))
  f228:=Tryz.func263.trans (congrArg some (by kernel_rfl))
  f266:=Tryz.func309.trans (congrArg some (by kernel_rfl))
  t0:=Tryz.underlying0
  a0:=Tryz.isAgg0
  z0:=Tryz.sizeOf0
  v0:=Tryz.zeroValue0
  t3:=Tryz.underlying3
  a3:=Tryz.isAgg3
  z3:=Tryz.sizeOf3
  v3:=Tryz.zeroValue3
  t4:=Tryz.underlying4
  a4:=Tryz.isAgg4
  z4:=Tryz.sizeOf4
  v4:=Tryz.zeroValue4
  t5:=Tryz.underlying5
  a5:=Tryz.isAgg5
  z5:=Tryz.sizeOf5
  v5:=Tryz.zeroValue5
  t9:=Tryz.underlying9
  a9:=Tryz.isAgg9
  z9:=Tryz.sizeOf9
  v9:=Tryz.zeroValue9
  t21:=Tryz.underlying21
  a21:=Tryz.isAgg21
  z21:=Tryz.sizeOf21
  v21:=Tryz.zeroValue21
  t46:=Tryz.underlying120
  a46:=Tryz.isAgg120
  z46:=Tryz.sizeOf120
  v46:=Tryz.zeroValue120
  t116:=Tryz.underlying246
  a116:=Tryz.isAgg246
  z116:=Tryz.sizeOf246
  t117:=Tryz.underlying247
  a117:=Tryz.isAgg247
  z117:=Tryz.sizeOf247
  v117:=Tryz.zeroValue247
  t124:=Tryz.underlying269
  a124:=Tryz.isAgg269
  z124:=Tryz.sizeOf269
  v124:=Tryz.zeroValue269 }
open Go.RowKit Go.Lib in
open Go.RowKit Go.Lib in
open Go.RowKit Go.Lib in
theorem Tryz.strings_ContainsAny_laid (s chars:ByteArray) (w:World) (hs:s.size<4294967281) (hcs:chars.size<4294967281) (has:∀(j:Nat) b,s.data.toList[j]?=some b→b.toNat<128) (hac:∀(j:Nat) b,chars.data.toList[j]?=some b→b.toNat<128) :
    Calls Tryz.prog 135 #[.string s,.string chars] w fun e w'=>e=.returned (.bool (Lib.containsAny s.data.toList chars.data.toList))∧Below w.heap.size w w':=Any.strings_ContainsAny_laid Tryz.lays150 (by kernel_rfl) s chars w hs hcs has hac
open Go.RowKit Go.Lib in
open Go.RowKit Go.Lib in
open Go.RowKit Go.Lib in
open Go.RowKit Go.Lib in
open Go.RowKit Go.Lib in
open Go.RowKit Go.Lib in
open Go.Lib in
open Go.Lib in
def Tryz.lays107_ren:Go.Shelf.Ren:=⟨fun|107=>246|108=>300|n=>n,fun|28=>33|3=>3|4=>4|0=>0|n=>n,fun|n=>n⟩
theorem Tryz.lays107:Go.Proofs.Lays.n107 Tryz.prog Tryz.lays107_ren:={
  mixed:=by kernel_rfl
  f107:=Tryz.func246.trans (congrArg some (by kernel_rfl))
  f108:=Tryz.func300.trans (congrArg some (by kernel_rfl))
  t0:=Tryz.underlying0
  a0:=Tryz.isAgg0
  z0:=Tryz.sizeOf0
  v0:=Tryz.zeroValue0
  t3:=Tryz.underlying3
  a3:=Tryz.isAgg3
  z3:=Tryz.sizeOf3
  v3:=Tryz.zeroValue3
  t4:=Tryz.underlying4
  a4:=Tryz.isAgg4
  z4:=Tryz.sizeOf4
  v4:=Tryz.zeroValue4
  t28:=Tryz.underlying33
  a28:=Tryz.isAgg33
  z28:=Tryz.sizeOf33
  v28:=Tryz.zeroValue33 }
open Go.Lib in
theorem Tryz.slices_Contains_int (b off n c:Nat) (zs:List Int) (x:Int) (w:World) (hz:n≤zs.length) (hbig:n≤9223372036854775807) (hc:∀j,j<zs.length→w.cell? ⟨b,off+j,none⟩=some (.int .i64 (zs.getD j 0))) :
    Calls Tryz.prog 246 #[.slice (some ⟨b,off,none⟩) n c,.int .i64 x] w fun e w'=>e=.returned (.bool ((zs.take n).contains x))∧w'=w:=Any.slices_Contains_int Tryz.lays107 b off n c zs x w hz hbig hc
open Go.Lib in
theorem Tryz.slices_Contains_int_empty (a:Option Addr) (c:Nat) (x:Int) (w:World) :
    Calls Tryz.prog 246 #[.slice a 0 c,.int .i64 x] w fun e w'=>e=.returned (.bool false)∧w'=w:=Any.slices_Contains_int_empty Tryz.lays107 a c x w
def Tryz.lays111_ren:Go.Shelf.Ren:=⟨fun|111=>313|n=>n,fun|28=>33|3=>3|4=>4|0=>0|n=>n,fun|n=>n⟩
theorem Tryz.lays111:Go.Proofs.Lays.n111 Tryz.prog Tryz.lays111_ren:={
  mixed:=by kernel_rfl
  f111:=Tryz.func313.trans (congrArg some (by kernel_rfl))
  t0:=Tryz.underlying0
  a0:=Tryz.isAgg0
  z0:=Tryz.sizeOf0
  v0:=Tryz.zeroValue0
  t3:=Tryz.underlying3
  a3:=Tryz.isAgg3
  z3:=Tryz.sizeOf3
  v3:=Tryz.zeroValue3
  t4:=Tryz.underlying4
  a4:=Tryz.isAgg4
  z4:=Tryz.sizeOf4
  v4:=Tryz.zeroValue4
  t28:=Tryz.underlying33
  a28:=Tryz.isAgg33
  z28:=Tryz.sizeOf33
  v28:=Tryz.zeroValue33 }
open Go.RowKit Go.Lib in
theorem Tryz.slices_Equal_int (b1 o1 n c b2 o2 m d:Nat) (xs ys:List Int) (w:World) (hx:n≤xs.length) (hy:m≤ys.length) (hbig:n≤9223372036854775807) (hbig2:m≤9223372036854775807) (hc1:∀j,j<xs.length→w.cell? ⟨b1,o1+j,none⟩=some (.int .i64 (xs.getD j 0))) (hc2:∀j,j<ys.length→w.cell? ⟨b2,o2+j,none⟩=some (.int .i64 (ys.getD j 0))) :
    Calls Tryz.prog 313 #[.slice (some ⟨b1,o1,none⟩) n c,.slice (some ⟨b2,o2,none⟩) m d] w fun e w'=>e=.returned (.bool (xs.take n==ys.take m))∧∃q,w'=w.drewN q:=Any.slices_Equal_int Tryz.lays111 b1 o1 n c b2 o2 m d xs ys w hx hy hbig hbig2 hc1 hc2
open Go.RowKit Go.Lib in
theorem Tryz.slices_Equal_int_empty (a1 a2:Option Addr) (c m d:Nat) (w:World) (hbig2:m≤9223372036854775807) :
    Calls Tryz.prog 313 #[.slice a1 0 c,.slice a2 m d] w fun e w'=>e=.returned (.bool (decide (m=0)))∧w'=w:=Any.slices_Equal_int_empty Tryz.lays111 a1 a2 c m d w hbig2
open Go.RowKit Go.Lib in
open Go.RowKit Go.Lib in
theorem Tryz.slices_Equal_int_lens (a1 a2:Option Addr) (n c m d:Nat) (w:World) (hnm:n≠m) :
    Calls Tryz.prog 313 #[.slice a1 n c,.slice a2 m d] w fun e w'=>e=.returned (.bool false)∧w'=w:=Any.slices_Equal_int_lens Tryz.lays111 a1 a2 n c m d w hnm
end Go.Proofs
