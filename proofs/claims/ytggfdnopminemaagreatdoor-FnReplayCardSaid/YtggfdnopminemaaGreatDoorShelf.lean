/- Plain: strings of the log and of the checks, as functions of byte lists; no program. -/
import Derived.Lib.ItoaLen
import Derived.Lib.IndexAny
import Derived.Lib.IndexMore
import Derived.Shelf.Strings.Builder1
import Derived.Shelf.Strings.Builder2
import Derived.Shelf.Strings.OnBuilder
import Derived.Shelf.Strings.Trim
import Derived.Shelf.Small.Utf8
import Derived.Shelf.Small.Strs
import Derived.Shelf.Small.Wraps
import Derived.Shelf.Strings.BuilderF
import Derived.Shelf.Strings.BuilderK
import Derived.Shelf.Utf8.RuneCount
import Derived.Shelf.Strings.Builder2Cap
import Derived.Shelf.Strconv.Atoi
import Derived.Shelf.Strconv.Itoa0
import Derived.Shelf.Strconv.Itoa1
import Derived.Shelf.LaysM
import Derived.Shelf.Strconv.Itoa2
import Derived.Shelf.Strconv.Itoa3
import Derived.Shelf.Strconv.AtoiErrFast
import Derived.Shelf.Strconv.ParseIntEmpty
import Derived.Shelf.Strconv.AtoiFail
import Derived.Shelf.Strconv.Clone
import Derived.Shelf.Strconv.SyntaxError
import Derived.Shelf.LaysC
import Derived.Shelf.Strconv.ToError
import Derived.Shelf.Strconv.Lower
import Derived.Shelf.Strconv.ParseUint10
import Derived.Shelf.Strconv.ParseUint10Empty
import Derived.Shelf.Strconv.ParseUint10Any
import Derived.Shelf.Strconv.ParseInt10
import Derived.Shelf.Strconv.AtoiLong
import Derived.Shelf.Strconv.AtoiInnerAll
import Derived.Shelf.Strconv.RangeError
import Derived.Shelf.Strconv.ToErrorRange
import Derived.Shelf.Strconv.AtoiAll
import Derived.Shelf.Strings.Search1
import Derived.Shelf.Strings.Search2
import Derived.Shelf.Strings.Search3
import Derived.Shelf.Strings.Cut
import Derived.Shelf.Strings.Count
import Derived.Shelf.Strings.Shaped
import Derived.Shelf.Strings.Prefix
import Derived.Shelf.Strings.Split
import Derived.Shelf.Strings.Replace
import Derived.Shelf.Strings.SplitShaped
import Derived.Shelf.Unicode.Decode
import Derived.Shelf.Strings.Runes
import Derived.Shelf.Strings.RuneCount
import Derived.Shelf.Strings.IndexAny
import Derived.Shelf.Strings.AsciiSet
import Derived.Shelf.Strings.IndexAnyAll
import Derived.Shelf.Strings.Explode
import Derived.Shelf.Unicode.DecodeSlow
import Derived.Shelf.Unicode.DecodeAny
import Derived.Shelf.Unicode.DecodeLast
import Derived.Shelf.Strings.BuilderCap
import Derived.Shelf.Slices.Turned
import Derived.Shelf.Slices.Equal
import Derived.Ground.Names2Prog
import Derived.Shelf.Slices.SearchI
import Derived.Shelf.Slices.Empties2
import Derived.Test.YtggfdnopminemaaGreatDoorProg
set_option linter.all false
namespace Go.Proofs.YtggfdnopminemaaGreatDoor
open Go.Proofs.Tryz
namespace P
def num (n:Nat):List UInt8:=Go.Lib.decDigits n
theorem num_len (n:Nat) (h:n<4611686018427387904):(num n).length≤20:=by
  unfold num;rw [Go.Lib.decDigits_length];exact Go.Lib.nDigits_le20 n (by omega)
def printable (l:List UInt8):Bool:=l.all fun b=>decide (32≤(b.toNat:Int))&&decide ((b.toNat:Int)≤126)
def plainByte (b:UInt8):Bool:=(decide (32≤(b.toNat:Int))&&decide ((b.toNat:Int)≤126))&&!(b==35)
def plain (l:List UInt8) (m:Int):Bool:=l.all plainByte&&decide ((l.length:Int)≤m)
def has (l:List UInt8) (c:UInt8):Bool:=l.any fun b=>b==c
def sum (l:List UInt8):Nat:=l.foldl (fun h b=>(41*h+b.toNat+1) % 999979) 7
def sealed (l:List UInt8):List UInt8:=l++35::num (sum l)
def good (c r:List UInt8):Bool:=!c.isEmpty&&(plain c 90&&(!has c 62&&plain r 200))
def vrec (c r:List UInt8):Bool:=
  (decide (1≤(c.length:Int)∧(c.length:Int)≤90)&&(printable c&&!Go.Lib.containsAny c [35,62]))&&(decide ((r.length:Int)≤200)&&(printable r&&!Go.Lib.contains r [35]))
def sealable (l:List UInt8):Bool:=decide ((l.length:Int)≤4000)&&(!Go.Lib.contains l [35]&&decide (((sealed l).length:Int)≤4000))
def appendChecksum (l:List UInt8):List UInt8×Bool:=if sealable l then (sealed l,true) else ([],false)
def line (k:Nat) (c r:List UInt8):List UInt8:=sealed (num k++32::(c++62::r))++[10]
def encode (k:Int) (c r:List UInt8):List UInt8×Bool:=if decide (0≤k∧k≤59)&&vrec c r then ((appendChecksum (num k.toNat++32::(c++62::r))).1++[10],true) else ([],false)
def split (c:UInt8):List UInt8→List (List UInt8)
  |[]=>[[]]
  |b::l=>if b==c then []::split c l else match split c l with
    |[]=>[[b]]
    |x::r=>(b::x)::r
end P
end Go.Proofs.YtggfdnopminemaaGreatDoor
namespace Go.Proofs
theorem kd {α:Type _} {a b:α} (h:a=b:=by kernel_rfl):some a=some b:=congrArg some h
open Go.Proofs.Tryz
open Go.Shelf
open Go.RowKit in
def Tryz.lays156_ren:Go.Shelf.Ren:=⟨fun|156=>185|165=>247|166=>248|169=>250|240=>301|241=>302|276=>347|277=>348|n=>n,fun|31=>43|9=>9|3=>3|4=>4|0=>0|20=>20|72=>232|76=>169|70=>230|37=>22|75=>168|127=>267|164=>293|5=>5|80=>150|n=>n,fun|n=>n⟩
theorem Tryz.lays156:Go.Proofs.Lays.n156 Tryz.prog Tryz.lays156_ren:={
  mixed:=by kernel_rfl
  f156:=func185.trans kd
  f165:=func247.trans kd
  f166:=func248.trans kd
  f169:=func250.trans kd
  f240:=func301.trans kd
  f241:=func302.trans kd
  f276:=func347.trans kd
  f277:=func348.trans kd
  t0:=underlying0
  a0:=isAgg0
  z0:=sizeOf0
  v0:=zeroValue0
  t3:=underlying3
  a3:=isAgg3
  z3:=sizeOf3
  v3:=zeroValue3
  t4:=underlying4
  a4:=isAgg4
  z4:=sizeOf4
  v4:=zeroValue4
  t9:=underlying9
  a9:=isAgg9
  z9:=sizeOf9
  v9:=zeroValue9
  t20:=underlying20
  a20:=isAgg20
  z20:=sizeOf20
  v20:=zeroValue20
  t31:=underlying43
  a31:=isAgg43
  z31:=sizeOf43
  v31:=zeroValue43
  t37:=underlying22
  a37:=isAgg22
  z37:=sizeOf22
  v37:=zeroValue22
  t70:=underlying230
  a70:=isAgg230
  z70:=sizeOf230
  v70:=zeroValue230
  t72:=underlying232
  a72:=isAgg232
  z72:=sizeOf232
  v72:=zeroValue232
  t75:=underlying168
  a75:=isAgg168
  z75:=sizeOf168
  v75:=zeroValue168
  t76:=underlying169
  a76:=isAgg169
  z76:=sizeOf169
  v76:=zeroValue169
  t127:=underlying267
  a127:=isAgg267
  z127:=sizeOf267
  v127:=zeroValue267
  t164:=underlying293
  a164:=isAgg293
  z164:=sizeOf293
  v164:=zeroValue293 }
theorem Tryz.Builder_Extra_156:Builder.Extra Tryz.prog Tryz.lays156_ren:={
  sizeBuilder:=by kernel_rfl
  liesBuilder:=by kernel_rfl
  t5:=underlying5
  a5:=isAgg5
  z5:=sizeOf5
  v5:=zeroValue5
  infoByte:=by kernel_rfl
  cellsByte:=by kernel_rfl
  sizeByte:=by kernel_rfl
  neB5:=by decide }
open Go.RowKit in
theorem Tryz.strings_Join_none (a:Option Addr) (c:Nat) (sep:ByteArray) (w:World) :
    Calls Tryz.prog 185 #[.slice a 0 c,.string sep] w fun e w'=>e=.returned (.string ⟨#[]⟩)∧w'=w:=Any.strings_Join_none Tryz.lays156 Tryz.Builder_Extra_156 a c sep w
open Go.RowKit in
theorem Tryz.strings_Join (bk o c:Nat) (xs:List ByteArray) (sep:ByteArray) (w:World) (hcells:∀(j:Nat) x,xs[j]?=some x→w.cell? ⟨bk,o+j,none⟩=some (.string x)) (hbk:bk<w.heap.size) (hN:xs.length≤140737488355328) (hcap:xs.length≤c) (hlen:(Lib.join (xs.map (·.data.toList)) sep.data.toList).length≤140737488355328) :
    Calls Tryz.prog 185 #[.slice (some ⟨bk,o,none⟩) xs.length c,.string sep] w fun e w'=>e=.returned (.string ⟨(Lib.join (xs.map (·.data.toList)) sep.data.toList).toArray⟩)∧Below w.heap.size w w':=Any.strings_Join Tryz.lays156 Tryz.Builder_Extra_156 bk o c xs sep w hcells hbk hN hcap hlen
open Go.RowKit in
def Tryz.lays160_ren:Go.Shelf.Ren:=⟨fun|160=>285|232=>327|231=>326|227=>262|234=>329|233=>328|236=>331|235=>330|228=>263|271=>360|151=>359|197=>249|120=>374|152=>260|260=>303|137=>307|119=>308|224=>266|225=>265|217=>264|266=>309|n=>n,fun|9=>9|4=>4|3=>3|5=>5|117=>247|116=>246|0=>0|124=>269|21=>21|105=>234|46=>120|119=>296|139=>299|138=>298|n=>n,fun|3=>3|4=>4|n=>n⟩
theorem Tryz.lays160:Go.Proofs.Lays.n160 Tryz.prog Tryz.lays160_ren:={
  mixed:=by kernel_rfl
  f119:=func308.trans kd
  f120:=func374.trans kd
  f137:=func307.trans kd
  f151:=func359.trans kd
  f152:=func260.trans kd
  f160:=func285.trans kd
  f197:=func249.trans kd
  f217:=func264.trans kd
  f224:=func266.trans kd
  f225:=func265.trans kd
  f227:=func262.trans kd
  f228:=func263.trans kd
  f231:=func326.trans kd
  f232:=func327.trans kd
  f233:=func328.trans kd
  f234:=func329.trans kd
  f235:=func330.trans kd
  f236:=func331.trans kd
  f260:=func303.trans kd
  f266:=func309.trans kd
  f271:=func360.trans kd
  t0:=underlying0
  a0:=isAgg0
  z0:=sizeOf0
  v0:=zeroValue0
  t3:=underlying3
  a3:=isAgg3
  z3:=sizeOf3
  v3:=zeroValue3
  t4:=underlying4
  a4:=isAgg4
  z4:=sizeOf4
  v4:=zeroValue4
  t5:=underlying5
  a5:=isAgg5
  z5:=sizeOf5
  v5:=zeroValue5
  t9:=underlying9
  a9:=isAgg9
  z9:=sizeOf9
  v9:=zeroValue9
  t21:=underlying21
  a21:=isAgg21
  z21:=sizeOf21
  v21:=zeroValue21
  t46:=underlying120
  a46:=isAgg120
  z46:=sizeOf120
  v46:=zeroValue120
  t105:=underlying234
  a105:=isAgg234
  z105:=sizeOf234
  v105:=zeroValue234
  t116:=underlying246
  a116:=isAgg246
  z116:=sizeOf246
  t117:=underlying247
  a117:=isAgg247
  z117:=sizeOf247
  v117:=zeroValue247
  t119:=underlying296
  a119:=isAgg296
  z119:=sizeOf296
  t124:=underlying269
  a124:=isAgg269
  z124:=sizeOf269
  v124:=zeroValue269
  t138:=underlying298
  a138:=isAgg298
  z138:=sizeOf298
  v138:=zeroValue298
  t139:=underlying299
  a139:=isAgg299
  z139:=sizeOf299
  v139:=zeroValue299
  g3:=by kernel_rfl
  g4:=by kernel_rfl }
open Go.RowKit in
def Tryz.lays137_ren:Go.Shelf.Ren:=⟨fun|137=>307|217=>264|266=>309|n=>n,fun|9=>9|5=>5|3=>3|n=>n,fun|n=>n⟩
theorem Tryz.lays137:Go.Proofs.Lays.n137 Tryz.prog Tryz.lays137_ren:={
  mixed:=by kernel_rfl
  f137:=func307.trans kd
  f217:=func264.trans kd
  f266:=func309.trans kd
  t3:=underlying3
  a3:=isAgg3
  z3:=sizeOf3
  v3:=zeroValue3
  t5:=underlying5
  a5:=isAgg5
  z5:=sizeOf5
  v5:=zeroValue5
  t9:=underlying9
  a9:=isAgg9
  z9:=sizeOf9
  v9:=zeroValue9 }
open Go.RowKit in
theorem Tryz.strings_IndexByte (s:ByteArray) (c:Int) (w:World) :
    Calls Tryz.prog 307 #[.string s,.int .u8 c] w fun e w'=>e=.returned (.int .i64 (Lib.indexByte s.data.toList c.toNat.toUInt8))∧w'=w:=Any.strings_IndexByte Tryz.lays137 s c w
open Go.RowKit in
def Tryz.lays122_ren:Go.Shelf.Ren:=⟨fun|122=>202|215=>257|n=>n,fun|3=>3|4=>4|n=>n,fun|n=>n⟩
theorem Tryz.lays122:Go.Proofs.Lays.n122 Tryz.prog Tryz.lays122_ren:={
  mixed:=by kernel_rfl
  f122:=func202.trans kd
  f215:=func257.trans kd
  t3:=underlying3
  a3:=isAgg3
  z3:=sizeOf3
  v3:=zeroValue3
  t4:=underlying4
  a4:=isAgg4
  z4:=sizeOf4
  v4:=zeroValue4 }
open Go.RowKit in
theorem Tryz.cmp_Compare_int (x y:Int) (w:World) :
    Calls Tryz.prog 202 #[.int .i64 x,.int .i64 y] w fun e w'=>e=.returned (.int .i64 (Lib.compareInt x y))∧w'=w:=Any.cmp_Compare_int Tryz.lays122 x y w
open Go.RowKit in
open Go.Lib in
open Go.RowKit Go.Sort Go.Lib in
def Tryz.laysM171_ren:Go.Shelf.Ren:=⟨fun|171=>145|243=>216|246=>276|283=>318|284=>319|285=>320|286=>321|129=>353|317=>352|318=>354|319=>355|320=>356|337=>372|338=>373|n=>n,fun|3=>3|9=>9|2=>2|4=>4|171=>275|0=>0|53=>89|37=>22|5=>5|173=>278|212=>302|51=>270|20=>20|213=>303|46=>120|232=>315|233=>316|n=>n,fun|17=>5|18=>6|19=>7|n=>n⟩
theorem Tryz.laysM171:Go.Proofs.LaysM.n171 Tryz.prog Tryz.laysM171_ren:={
  mixed:=by kernel_rfl
  f129:=func353.trans kd
  f171:=func145.trans kd
  f243:=func216.trans kd
  f246:=func276.trans kd
  f283:=func318.trans kd
  f284:=func319.trans kd
  f285:=func320.trans kd
  f286:=func321.trans kd
  f317:=func352.trans kd
  f318:=func354.trans kd
  f319:=func355.trans kd
  f320:=func356.trans kd
  f337:=func372.trans kd
  f338:=func373.trans kd
  t0:=underlying0
  a0:=isAgg0
  z0:=sizeOf0
  v0:=zeroValue0
  t2:=underlying2
  a2:=isAgg2
  z2:=sizeOf2
  v2:=zeroValue2
  t3:=underlying3
  a3:=isAgg3
  z3:=sizeOf3
  v3:=zeroValue3
  t4:=underlying4
  a4:=isAgg4
  z4:=sizeOf4
  v4:=zeroValue4
  t5:=underlying5
  a5:=isAgg5
  z5:=sizeOf5
  v5:=zeroValue5
  t9:=underlying9
  a9:=isAgg9
  z9:=sizeOf9
  v9:=zeroValue9
  t20:=underlying20
  a20:=isAgg20
  z20:=sizeOf20
  v20:=zeroValue20
  t37:=underlying22
  a37:=isAgg22
  z37:=sizeOf22
  v37:=zeroValue22
  t46:=underlying120
  a46:=isAgg120
  z46:=sizeOf120
  v46:=zeroValue120
  t51:=underlying270
  a51:=isAgg270
  z51:=sizeOf270
  v51:=zeroValue270
  t53:=underlying89
  a53:=isAgg89
  z53:=sizeOf89
  v53:=zeroValue89
  t171:=underlying275
  a171:=isAgg275
  z171:=sizeOf275
  v171:=zeroValue275
  t173:=underlying278
  a173:=isAgg278
  z173:=sizeOf278
  v173:=zeroValue278
  t212:=underlying302
  a212:=isAgg302
  z212:=sizeOf302
  v212:=zeroValue302
  t213:=underlying303
  a213:=isAgg303
  z213:=sizeOf303
  t232:=underlying315
  a232:=isAgg315
  z232:=sizeOf315
  v232:=zeroValue315
  t233:=underlying316
  a233:=isAgg316
  z233:=sizeOf316
  v233:=zeroValue316
  g17:=by kernel_rfl
  g18:=by kernel_rfl
  g19:=by kernel_rfl
  i0:=by kernel_rfl
  i2:=by kernel_rfl
  i3:=by kernel_rfl
  i4:=by kernel_rfl
  i5:=by kernel_rfl
  i9:=by kernel_rfl
  i20:=by kernel_rfl
  i37:=by kernel_rfl
  i46:=by kernel_rfl
  i51:=by kernel_rfl
  i53:=by kernel_rfl
  i171:=by kernel_rfl
  i173:=by kernel_rfl
  i212:=by kernel_rfl
  i232:=by kernel_rfl
  i233:=by kernel_rfl
  m17:=by kernel_rfl
  m18:=by kernel_rfl
  m19:=by kernel_rfl }
open Go.RowKit Go.Sort Go.Lib in
theorem Tryz.strconv_Itoa (n:Int) (h0 : -9223372036854775808≤n) (h1:n≤9223372036854775807) (w:World) (htab:Lib.TabIs Tryz.prog w "internal/strconv.uint64pow10" .u64 Lib.pow10Tab) :
    Calls Tryz.prog 145 #[.int .i64 n] w fun e w'=>e=.returned (.string ⟨(Lib.itoa n).toArray⟩)∧∃k os,w'=grow (w.drewN k) os:=Any.strconv_Itoa Tryz.laysM171 n h0 h1 w htab
open Go.RowKit Go.Sort Go.Lib in
open Go.RowKit in
open Go.RowKit Go.Lib in
def Tryz.lays144_ren:Go.Shelf.Ren:=⟨fun|144=>136|143=>205|219=>206|217=>264|225=>265|224=>266|267=>267|266=>309|314=>310|n=>n,fun|9=>9|4=>4|3=>3|5=>5|46=>120|146=>271|51=>270|n=>n,fun|1=>0|n=>n⟩
theorem Tryz.lays144:Go.Proofs.Lays.n144 Tryz.prog Tryz.lays144_ren:={
  mixed:=by kernel_rfl
  f143:=func205.trans kd
  f144:=func136.trans kd
  f217:=func264.trans kd
  f219:=func206.trans kd
  f224:=func266.trans kd
  f225:=func265.trans kd
  f266:=func309.trans kd
  f267:=func267.trans kd
  f314:=func310.trans kd
  t3:=underlying3
  a3:=isAgg3
  z3:=sizeOf3
  v3:=zeroValue3
  t4:=underlying4
  a4:=isAgg4
  z4:=sizeOf4
  v4:=zeroValue4
  t5:=underlying5
  a5:=isAgg5
  z5:=sizeOf5
  v5:=zeroValue5
  t9:=underlying9
  a9:=isAgg9
  z9:=sizeOf9
  v9:=zeroValue9
  t46:=underlying120
  a46:=isAgg120
  z46:=sizeOf120
  v46:=zeroValue120
  t51:=underlying270
  a51:=isAgg270
  z51:=sizeOf270
  v51:=zeroValue270
  t146:=underlying271
  a146:=isAgg271
  z146:=sizeOf271
  v146:=zeroValue271
  g1:=by kernel_rfl }
open Go.RowKit Go.Lib in
theorem Tryz.strings_Contains_one (s:ByteArray) (c:UInt8) (w:World) :
    Calls Tryz.prog 136 #[.string s,.string ⟨#[c]⟩] w fun e w'=>e=.returned (.bool (decide (0≤Lib.indexByte s.data.toList c)))∧w'=w:=Any.strings_Contains_one Tryz.lays144 s c w
open Go.RowKit Go.Lib in
def Tryz.lays145_ren:Go.Shelf.Ren:=⟨fun|145=>69|220=>137|219=>206|217=>264|225=>265|224=>266|267=>267|266=>309|314=>310|n=>n,fun|9=>9|4=>4|59=>108|3=>3|5=>5|46=>120|146=>271|51=>270|n=>n,fun|1=>0|n=>n⟩
theorem Tryz.lays145:Go.Proofs.Lays.n145 Tryz.prog Tryz.lays145_ren:={
  mixed:=by kernel_rfl
  f145:=func69.trans kd
  f217:=func264.trans kd
  f219:=func206.trans kd
  f220:=func137.trans kd
  f224:=func266.trans kd
  f225:=func265.trans kd
  f266:=func309.trans kd
  f267:=func267.trans kd
  f314:=func310.trans kd
  t3:=underlying3
  a3:=isAgg3
  z3:=sizeOf3
  v3:=zeroValue3
  t4:=underlying4
  a4:=isAgg4
  z4:=sizeOf4
  v4:=zeroValue4
  t5:=underlying5
  a5:=isAgg5
  z5:=sizeOf5
  v5:=zeroValue5
  t9:=underlying9
  a9:=isAgg9
  z9:=sizeOf9
  v9:=zeroValue9
  t46:=underlying120
  a46:=isAgg120
  z46:=sizeOf120
  v46:=zeroValue120
  t51:=underlying270
  a51:=isAgg270
  z51:=sizeOf270
  v51:=zeroValue270
  t59:=underlying108
  a59:=isAgg108
  z59:=sizeOf108
  v59:=zeroValue108
  t146:=underlying271
  a146:=isAgg271
  z146:=sizeOf271
  v146:=zeroValue271
  g1:=by kernel_rfl }
open Go.RowKit Go.Lib in
theorem Tryz.strings_Cut (s sep:ByteArray) (m:Int) (w:World) (hs:s.size<4294967281) (hm:w.cell? ⟨0,0,none⟩=some (.int .i64 m)) :
    Calls Tryz.prog 69 #[.string s,.string sep] w fun e w'=>e=.returned (.tuple #[.string ⟨(Lib.cut s.data.toList sep.data.toList).1.toArray⟩,.string ⟨(Lib.cut s.data.toList sep.data.toList).2.1.toArray⟩,.bool (Lib.cut s.data.toList sep.data.toList).2.2])∧∃n,w'=w.drewN n:=Any.strings_Cut Tryz.lays145 s sep m w hs hm
open Go.RowKit Go.Lib in
def Tryz.lays100_ren:Go.Shelf.Ren:=⟨fun|100=>317|207=>351|n=>n,fun|9=>9|4=>4|3=>3|n=>n,fun|n=>n⟩
theorem Tryz.lays100:Go.Proofs.Lays.n100 Tryz.prog Tryz.lays100_ren:={
  mixed:=by kernel_rfl
  f100:=func317.trans kd
  f207:=func351.trans kd
  t3:=underlying3
  a3:=isAgg3
  z3:=sizeOf3
  v3:=zeroValue3
  t4:=underlying4
  a4:=isAgg4
  z4:=sizeOf4
  v4:=zeroValue4
  t9:=underlying9
  a9:=isAgg9
  z9:=sizeOf9
  v9:=zeroValue9 }
open Go.RowKit Go.Lib in
theorem Tryz.strings_HasSuffix (s p:ByteArray) (w:World) (hs:s.size≤9223372036854775807) :
    Calls Tryz.prog 317 #[.string s,.string p] w fun e w'=>e=.returned (.bool (Lib.hasSuffix s.data.toList p.data.toList))∧w'=w:=Any.strings_HasSuffix Tryz.lays100 s p w hs
open Go.RowKit Go.Lib in
def Tryz.lays146_ren:Go.Shelf.Ren:=⟨fun|146=>103|221=>182|268=>244|138=>245|143=>205|195=>298|197=>249|218=>299|219=>206|260=>303|217=>264|225=>265|224=>266|267=>267|266=>309|314=>310|n=>n,fun|9=>9|31=>43|3=>3|4=>4|0=>0|105=>234|21=>21|5=>5|46=>120|119=>296|139=>299|138=>298|146=>271|51=>270|n=>n,fun|1=>0|3=>3|4=>4|n=>n⟩
theorem Tryz.lays146:Go.Proofs.Lays.n146 Tryz.prog Tryz.lays146_ren:={
  mixed:=by kernel_rfl
  f138:=func245.trans kd
  f143:=func205.trans kd
  f146:=func103.trans kd
  f195:=func298.trans kd
  f197:=func249.trans kd
  f217:=func264.trans kd
  f218:=func299.trans kd
  f219:=func206.trans kd
  f221:=func182.trans kd
  f224:=func266.trans kd
  f225:=func265.trans kd
  f260:=func303.trans kd
  f266:=func309.trans kd
  f267:=func267.trans kd
  f268:=func244.trans kd
  f314:=func310.trans kd
  t0:=underlying0
  a0:=isAgg0
  z0:=sizeOf0
  v0:=zeroValue0
  t3:=underlying3
  a3:=isAgg3
  z3:=sizeOf3
  v3:=zeroValue3
  t4:=underlying4
  a4:=isAgg4
  z4:=sizeOf4
  v4:=zeroValue4
  t5:=underlying5
  a5:=isAgg5
  z5:=sizeOf5
  v5:=zeroValue5
  t9:=underlying9
  a9:=isAgg9
  z9:=sizeOf9
  v9:=zeroValue9
  t21:=underlying21
  a21:=isAgg21
  z21:=sizeOf21
  v21:=zeroValue21
  t31:=underlying43
  a31:=isAgg43
  z31:=sizeOf43
  v31:=zeroValue43
  t46:=underlying120
  a46:=isAgg120
  z46:=sizeOf120
  v46:=zeroValue120
  t51:=underlying270
  a51:=isAgg270
  z51:=sizeOf270
  v51:=zeroValue270
  t105:=underlying234
  a105:=isAgg234
  z105:=sizeOf234
  v105:=zeroValue234
  t119:=underlying296
  a119:=isAgg296
  z119:=sizeOf296
  t138:=underlying298
  a138:=isAgg298
  z138:=sizeOf298
  v138:=zeroValue298
  t139:=underlying299
  a139:=isAgg299
  z139:=sizeOf299
  v139:=zeroValue299
  t146:=underlying271
  a146:=isAgg271
  z146:=sizeOf271
  v146:=zeroValue271
  g1:=by kernel_rfl
  g3:=by kernel_rfl
  g4:=by kernel_rfl }
open Go.RowKit Go.Lib in
theorem Tryz.strings_Split (s sep:ByteArray) (m:Int) (w:World) (hs:s.size<4294967281) (hm:w.cell? ⟨0,0,none⟩=some (.int .i64 m)) (h1:1≤sep.size) :
    Calls Tryz.prog 103 #[.string s,.string sep] w fun e w'=>
      e=.returned (.slice (some ⟨w.heap.size,0,none⟩) (Lib.countB s sep+1) (Lib.countB s sep+1))∧w'=w.alloc (.cells ((Lib.splitB sep 0 (Lib.countB s sep) s).map Value.string).toArray 9):=Any.strings_Split Tryz.lays146 (by kernel_rfl) s sep m w hs hm h1
open Go.RowKit Go.Lib in
def Tryz.lays155_ren:Go.Shelf.Ren:=⟨fun|155=>107|154=>184|138=>245|165=>247|143=>205|166=>248|197=>249|169=>250|195=>298|218=>299|240=>301|241=>302|219=>206|260=>303|276=>347|277=>348|217=>264|225=>265|224=>266|267=>267|266=>309|314=>310|n=>n,fun|9=>9|3=>3|4=>4|72=>232|0=>0|76=>169|105=>234|21=>21|5=>5|70=>230|20=>20|37=>22|75=>168|127=>267|164=>293|46=>120|119=>296|139=>299|138=>298|146=>271|51=>270|80=>150|n=>n,fun|1=>0|3=>3|4=>4|n=>n⟩
theorem Tryz.lays155:Go.Proofs.Lays.n155 Tryz.prog Tryz.lays155_ren:={
  mixed:=by kernel_rfl
  f138:=func245.trans kd
  f143:=func205.trans kd
  f154:=func184.trans kd
  f155:=func107.trans kd
  f165:=func247.trans kd
  f166:=func248.trans kd
  f169:=func250.trans kd
  f195:=func298.trans kd
  f197:=func249.trans kd
  f217:=func264.trans kd
  f218:=func299.trans kd
  f219:=func206.trans kd
  f224:=func266.trans kd
  f225:=func265.trans kd
  f240:=func301.trans kd
  f241:=func302.trans kd
  f260:=func303.trans kd
  f266:=func309.trans kd
  f267:=func267.trans kd
  f276:=func347.trans kd
  f277:=func348.trans kd
  f314:=func310.trans kd
  t0:=underlying0
  a0:=isAgg0
  z0:=sizeOf0
  v0:=zeroValue0
  t3:=underlying3
  a3:=isAgg3
  z3:=sizeOf3
  v3:=zeroValue3
  t4:=underlying4
  a4:=isAgg4
  z4:=sizeOf4
  v4:=zeroValue4
  t5:=underlying5
  a5:=isAgg5
  z5:=sizeOf5
  v5:=zeroValue5
  t9:=underlying9
  a9:=isAgg9
  z9:=sizeOf9
  v9:=zeroValue9
  t20:=underlying20
  a20:=isAgg20
  z20:=sizeOf20
  v20:=zeroValue20
  t21:=underlying21
  a21:=isAgg21
  z21:=sizeOf21
  v21:=zeroValue21
  t37:=underlying22
  a37:=isAgg22
  z37:=sizeOf22
  v37:=zeroValue22
  t46:=underlying120
  a46:=isAgg120
  z46:=sizeOf120
  v46:=zeroValue120
  t51:=underlying270
  a51:=isAgg270
  z51:=sizeOf270
  v51:=zeroValue270
  t70:=underlying230
  a70:=isAgg230
  z70:=sizeOf230
  v70:=zeroValue230
  t72:=underlying232
  a72:=isAgg232
  z72:=sizeOf232
  v72:=zeroValue232
  t75:=underlying168
  a75:=isAgg168
  z75:=sizeOf168
  v75:=zeroValue168
  t76:=underlying169
  a76:=isAgg169
  z76:=sizeOf169
  v76:=zeroValue169
  t105:=underlying234
  a105:=isAgg234
  z105:=sizeOf234
  v105:=zeroValue234
  t119:=underlying296
  a119:=isAgg296
  z119:=sizeOf296
  t127:=underlying267
  a127:=isAgg267
  z127:=sizeOf267
  v127:=zeroValue267
  t138:=underlying298
  a138:=isAgg298
  z138:=sizeOf298
  v138:=zeroValue298
  t139:=underlying299
  a139:=isAgg299
  z139:=sizeOf299
  v139:=zeroValue299
  t146:=underlying271
  a146:=isAgg271
  z146:=sizeOf271
  v146:=zeroValue271
  t164:=underlying293
  a164:=isAgg293
  z164:=sizeOf293
  v164:=zeroValue293
  g1:=by kernel_rfl
  g3:=by kernel_rfl
  g4:=by kernel_rfl }
theorem Tryz.Builder_Extra_155:Builder.Extra Tryz.prog Tryz.lays155_ren:={
  sizeBuilder:=by kernel_rfl
  liesBuilder:=by kernel_rfl
  t5:=underlying5
  a5:=isAgg5
  z5:=sizeOf5
  v5:=zeroValue5
  infoByte:=by kernel_rfl
  cellsByte:=by kernel_rfl
  sizeByte:=by kernel_rfl
  neB5:=by decide }
open Go.RowKit Go.Lib in
theorem Tryz.strings_ReplaceAll (s old new:ByteArray) (m:Int) (w:World) (hs:s.size<4294967281) (hm:w.cell? ⟨0,0,none⟩=some (.int .i64 m)) (h1:1≤old.size) (hlen:s.size+Lib.countB s old*new.size≤140737488355328) :
    Calls Tryz.prog 107 #[.string s,.string old,.string new] w fun e w'=>
      e=.returned (.string ⟨(Lib.replaceAll s.data.toList old.data.toList new.data.toList).toArray⟩)∧Below w.heap.size w w':=Any.strings_ReplaceAll Tryz.lays155 Tryz.Builder_Extra_155 s old new m w hs hm h1 hlen
open Go.RowKit Go.Lib in
def Tryz.lays150_ren:Go.Shelf.Ren:=⟨fun|150=>135|153=>204|152=>260|226=>261|227=>262|228=>263|137=>307|119=>308|224=>266|225=>265|217=>264|266=>309|n=>n,fun|9=>9|4=>4|3=>3|5=>5|21=>21|117=>247|116=>246|0=>0|46=>120|124=>269|n=>n,fun|n=>n⟩
theorem Tryz.lays150:Go.Proofs.Lays.n150 Tryz.prog Tryz.lays150_ren:={
  mixed:=by kernel_rfl
  f119:=func308.trans kd
  f137:=func307.trans kd
  f150:=func135.trans kd
  f152:=func260.trans kd
  f153:=func204.trans kd
  f217:=func264.trans kd
  f224:=func266.trans kd
  f225:=func265.trans kd
  f226:=func261.trans kd
  f227:=func262.trans kd
  f228:=func263.trans kd
  f266:=func309.trans kd
  t0:=underlying0
  a0:=isAgg0
  z0:=sizeOf0
  v0:=zeroValue0
  t3:=underlying3
  a3:=isAgg3
  z3:=sizeOf3
  v3:=zeroValue3
  t4:=underlying4
  a4:=isAgg4
  z4:=sizeOf4
  v4:=zeroValue4
  t5:=underlying5
  a5:=isAgg5
  z5:=sizeOf5
  v5:=zeroValue5
  t9:=underlying9
  a9:=isAgg9
  z9:=sizeOf9
  v9:=zeroValue9
  t21:=underlying21
  a21:=isAgg21
  z21:=sizeOf21
  v21:=zeroValue21
  t46:=underlying120
  a46:=isAgg120
  z46:=sizeOf120
  v46:=zeroValue120
  t116:=underlying246
  a116:=isAgg246
  z116:=sizeOf246
  t117:=underlying247
  a117:=isAgg247
  z117:=sizeOf247
  v117:=zeroValue247
  t124:=underlying269
  a124:=isAgg269
  z124:=sizeOf269
  v124:=zeroValue269 }
open Go.RowKit Go.Lib in
theorem Tryz.strings_ContainsAny_laid (s chars:ByteArray) (w:World) (hs:s.size<4294967281) (hcs:chars.size<4294967281) (has:∀(j:Nat) b,s.data.toList[j]?=some b→b.toNat<128) (hac:∀(j:Nat) b,chars.data.toList[j]?=some b→b.toNat<128) :
    Calls Tryz.prog 135 #[.string s,.string chars] w fun e w'=>e=.returned (.bool (Lib.containsAny s.data.toList chars.data.toList))∧Below w.heap.size w w':=Any.strings_ContainsAny_laid Tryz.lays150 (by kernel_rfl) s chars w hs hcs has hac
open Go.RowKit Go.Lib in
open Go.Lib in
def Tryz.lays107_ren:Go.Shelf.Ren:=⟨fun|107=>246|108=>300|n=>n,fun|28=>33|3=>3|4=>4|0=>0|n=>n,fun|n=>n⟩
theorem Tryz.lays107:Go.Proofs.Lays.n107 Tryz.prog Tryz.lays107_ren:={
  mixed:=by kernel_rfl
  f107:=func246.trans kd
  f108:=func300.trans kd
  t0:=underlying0
  a0:=isAgg0
  z0:=sizeOf0
  v0:=zeroValue0
  t3:=underlying3
  a3:=isAgg3
  z3:=sizeOf3
  v3:=zeroValue3
  t4:=underlying4
  a4:=isAgg4
  z4:=sizeOf4
  v4:=zeroValue4
  t28:=underlying33
  a28:=isAgg33
  z28:=sizeOf33
  v28:=zeroValue33 }
open Go.Lib in
theorem Tryz.slices_Contains_int (b off n c:Nat) (zs:List Int) (x:Int) (w:World) (hz:n≤zs.length) (hbig:n≤9223372036854775807) (hc:∀j,j<zs.length→w.cell? ⟨b,off+j,none⟩=some (.int .i64 (zs.getD j 0))) :
    Calls Tryz.prog 246 #[.slice (some ⟨b,off,none⟩) n c,.int .i64 x] w fun e w'=>e=.returned (.bool ((zs.take n).contains x))∧w'=w:=Any.slices_Contains_int Tryz.lays107 b off n c zs x w hz hbig hc
open Go.Lib in
theorem Tryz.slices_Contains_int_empty (a:Option Addr) (c:Nat) (x:Int) (w:World) :
    Calls Tryz.prog 246 #[.slice a 0 c,.int .i64 x] w fun e w'=>e=.returned (.bool false)∧w'=w:=Any.slices_Contains_int_empty Tryz.lays107 a c x w
def Tryz.lays111_ren:Go.Shelf.Ren:=⟨fun|111=>313|n=>n,fun|28=>33|3=>3|4=>4|0=>0|n=>n,fun|n=>n⟩
theorem Tryz.lays111:Go.Proofs.Lays.n111 Tryz.prog Tryz.lays111_ren:={
  mixed:=by kernel_rfl
  f111:=func313.trans kd
  t0:=underlying0
  a0:=isAgg0
  z0:=sizeOf0
  v0:=zeroValue0
  t3:=underlying3
  a3:=isAgg3
  z3:=sizeOf3
  v3:=zeroValue3
  t4:=underlying4
  a4:=isAgg4
  z4:=sizeOf4
  v4:=zeroValue4
  t28:=underlying33
  a28:=isAgg33
  z28:=sizeOf33
  v28:=zeroValue33 }
open Go.RowKit Go.Lib in
theorem Tryz.slices_Equal_int (b1 o1 n c b2 o2 m d:Nat) (xs ys:List Int) (w:World) (hx:n≤xs.length) (hy:m≤ys.length) (hbig:n≤9223372036854775807) (hbig2:m≤9223372036854775807) (hc1:∀j,j<xs.length→w.cell? ⟨b1,o1+j,none⟩=some (.int .i64 (xs.getD j 0))) (hc2:∀j,j<ys.length→w.cell? ⟨b2,o2+j,none⟩=some (.int .i64 (ys.getD j 0))) :
    Calls Tryz.prog 313 #[.slice (some ⟨b1,o1,none⟩) n c,.slice (some ⟨b2,o2,none⟩) m d] w fun e w'=>e=.returned (.bool (xs.take n==ys.take m))∧∃q,w'=w.drewN q:=Any.slices_Equal_int Tryz.lays111 b1 o1 n c b2 o2 m d xs ys w hx hy hbig hbig2 hc1 hc2
open Go.RowKit Go.Lib in
theorem Tryz.slices_Equal_int_empty (a1 a2:Option Addr) (c m d:Nat) (w:World) (hbig2:m≤9223372036854775807) :
    Calls Tryz.prog 313 #[.slice a1 0 c,.slice a2 m d] w fun e w'=>e=.returned (.bool (decide (m=0)))∧w'=w:=Any.slices_Equal_int_empty Tryz.lays111 a1 a2 c m d w hbig2
open Go.RowKit Go.Lib in
theorem Tryz.slices_Equal_int_lens (a1 a2:Option Addr) (n c m d:Nat) (w:World) (hnm:n≠m) :
    Calls Tryz.prog 313 #[.slice a1 n c,.slice a2 m d] w fun e w'=>e=.returned (.bool false)∧w'=w:=Any.slices_Equal_int_lens Tryz.lays111 a1 a2 n c m d w hnm
end Go.Proofs
