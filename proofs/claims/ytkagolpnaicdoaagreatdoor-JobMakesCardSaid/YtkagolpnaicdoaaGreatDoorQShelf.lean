/-
  DERIVED: THE SHELF's CONTRACTS AT THIS DUMP, IN PLAIN WORDS (tools/lay-plain.mjs out of 'TryzShelf.lean', which tools/lay-shelf.mjs wrote): THE SAME DECLARATIONS UNDER THE SAME NAMES: 'import', 'namespace', 'open', 'def', 'theorem' AND NOTHING ELSE: no command of the shelf's: FOR A HAND-IN. Each laying: the table of numbers ('.._ren') and one theorem, a field a fact of the dump's own or the kernel's comparison; each contract: ONE APPLICATION.
-/
import Derived.Shelf.Strings.OnBuilder
import Derived.Shelf.Small.Strs
import Derived.Shelf.Small.Wraps
import Derived.Shelf.Utf8.RuneCount
import Derived.Shelf.Strconv.Itoa3
import Derived.Shelf.Strconv.ToError
import Derived.Shelf.Strconv.ParseUint10
import Derived.Shelf.Strconv.ParseUint10Empty
import Derived.Shelf.Pu.ErrVarParseUint
import Derived.Shelf.Strings.Shaped
import Derived.Shelf.GgClosure.StringsIndexFuncTop
import Derived.Shelf.Strings.SplitShaped
import Derived.Shelf.Bits.Mul64
import Derived.Shelf.Unicode.DecodeSlow
import Derived.Shelf.Strings.BuilderCap
import Derived.Shelf.Slices.Cells
import Derived.Test.YtkagolpnaicdoaaGreatDoorProg
namespace Go.Proofs
open Go.Shelf
def Tryz.lays170_ren:Go.Shelf.Ren:=⟨fun|170=>96|n=>n,fun|70=>129|3=>3|0=>0|72=>131|37=>113|5=>5|n=>n,fun|n=>n⟩
theorem Tryz.lays170:Go.Proofs.Lays.n170 Tryz.prog Tryz.lays170_ren:={
  mixed:=by kernel_rfl
  f170:=Tryz.func96.trans (congrArg some (by kernel_rfl))
  t0:=Tryz.underlying0
  a0:=Tryz.isAgg0
  z0:=Tryz.sizeOf0
  v0:=Tryz.zeroValue0
  t3:=Tryz.underlying3
  a3:=Tryz.isAgg3
  z3:=Tryz.sizeOf3
  v3:=Tryz.zeroValue3
  t37:=Tryz.underlying113
  a37:=Tryz.isAgg113
  z37:=Tryz.sizeOf113
  v37:=Tryz.zeroValue113
  t70:=Tryz.underlying129
  a70:=Tryz.isAgg129
  z70:=Tryz.sizeOf129
  v70:=Tryz.zeroValue129
  t72:=Tryz.underlying131
  a72:=Tryz.isAgg131
  z72:=Tryz.sizeOf131
  v72:=Tryz.zeroValue131}
open Go.RowKit in
theorem Tryz.Builder_Len(B b:Nat)(a:List Value)(w:World)(h:Lib.IsBuilder 131 5 B b a w):
    Calls Tryz.prog 96 #[.pointer (some ⟨b,0,none⟩)] w fun e w'=>e=.returned (.int .i64 a.length)/\w'=w:=Any.Builder_Len Tryz.lays170 B b a w h
def Tryz.lays106_ren:Go.Shelf.Ren:=⟨fun|106=>228|213=>275|265=>294|n=>n,fun|9=>9|3=>3|n=>n,fun|n=>n⟩
theorem Tryz.lays106:Go.Proofs.Lays.n106 Tryz.prog Tryz.lays106_ren:={
  mixed:=by kernel_rfl
  f106:=Tryz.func228.trans (congrArg some (by kernel_rfl))
  f213:=Tryz.func275.trans (congrArg some (by kernel_rfl))
  f265:=Tryz.func294.trans (congrArg some (by kernel_rfl))
  t3:=Tryz.underlying3
  a3:=Tryz.isAgg3
  z3:=Tryz.sizeOf3
  v3:=Tryz.zeroValue3
  t9:=Tryz.underlying9
  a9:=Tryz.isAgg9
  z9:=Tryz.sizeOf9
  v9:=Tryz.zeroValue9}
open Go.RowKit in
theorem Tryz.strings_Compare(a b:ByteArray)(w:World):
    Calls Tryz.prog 228 #[.string a,.string b] w fun e w'=>e=.returned (.int .i64 (Lib.compareBytes a.data.toList b.data.toList))/\w'=w:=Any.strings_Compare Tryz.lays106 a b w
def Tryz.lays103_ren:Go.Shelf.Ren:=⟨fun|103=>128|210=>200|206=>235|n=>n,fun|9=>9|4=>4|24=>194|3=>3|n=>n,fun|n=>n⟩
theorem Tryz.lays103:Go.Proofs.Lays.n103 Tryz.prog Tryz.lays103_ren:={
  mixed:=by kernel_rfl
  f103:=Tryz.func128.trans (congrArg some (by kernel_rfl))
  f206:=Tryz.func235.trans (congrArg some (by kernel_rfl))
  f210:=Tryz.func200.trans (congrArg some (by kernel_rfl))
  t3:=Tryz.underlying3
  a3:=Tryz.isAgg3
  z3:=Tryz.sizeOf3
  v3:=Tryz.zeroValue3
  t4:=Tryz.underlying4
  a4:=Tryz.isAgg4
  z4:=Tryz.sizeOf4
  v4:=Tryz.zeroValue4
  t9:=Tryz.underlying9
  a9:=Tryz.isAgg9
  z9:=Tryz.sizeOf9
  v9:=Tryz.zeroValue9
  t24:=Tryz.underlying194
  a24:=Tryz.isAgg194
  z24:=Tryz.sizeOf194
  v24:=Tryz.zeroValue194}
open Go.RowKit in
theorem Tryz.strings_CutPrefix(s p:ByteArray)(w:World):
    Calls Tryz.prog 128 #[.string s,.string p] w fun e w'=>e=.returned (.tuple #[.string ⟨(Lib.trimPrefix s.data.toList p.data.toList).toArray⟩,.bool (Lib.hasPrefix s.data.toList p.data.toList)])/\w'=w:=Any.strings_CutPrefix Tryz.lays103 s p w
def Tryz.laysPu14_ren:Go.Shelf.Ren:=⟨fun|14=>126|16=>198|17=>199|19=>249|20=>250|21=>251|22=>252|23=>253|24=>254|25=>280|27=>282|26=>281|28=>295|29=>299|30=>194|31=>195|32=>196|33=>197|35=>245|34=>244|36=>246|37=>247|38=>248|39=>278|40=>279|n=>n,fun|9=>9|3=>3|22=>23|24=>136|25=>192|4=>4|34=>308|5=>5|36=>114|37=>113|0=>0|39=>310|21=>21|44=>337|47=>197|50=>352|48=>350|2=>2|52=>260|55=>262|59=>305|60=>26|20=>20|61=>306|65=>348|66=>349|67=>139|n=>n,fun|0=>3|1=>4|2=>1|3=>5|4=>6|n=>n⟩
theorem Tryz.laysPu14:Go.Proofs.LaysPu.n14 Tryz.prog Tryz.laysPu14_ren:={
  mixed:=by kernel_rfl
  f14:=Tryz.func126.trans (congrArg some (by kernel_rfl))
  f16:=Tryz.func198.trans (congrArg some (by kernel_rfl))
  f17:=Tryz.func199.trans (congrArg some (by kernel_rfl))
  f19:=Tryz.func249.trans (congrArg some (by kernel_rfl))
  f20:=Tryz.func250.trans (congrArg some (by kernel_rfl))
  f21:=Tryz.func251.trans (congrArg some (by kernel_rfl))
  f22:=Tryz.func252.trans (congrArg some (by kernel_rfl))
  f23:=Tryz.func253.trans (congrArg some (by kernel_rfl))
  f24:=Tryz.func254.trans (congrArg some (by kernel_rfl))
  f25:=Tryz.func280.trans (congrArg some (by kernel_rfl))
  f26:=Tryz.func281.trans (congrArg some (by kernel_rfl))
  f27:=Tryz.func282.trans (congrArg some (by kernel_rfl))
  f28:=Tryz.func295.trans (congrArg some (by kernel_rfl))
  f29:=Tryz.func299.trans (congrArg some (by kernel_rfl))
  f30:=Tryz.func194.trans (congrArg some (by kernel_rfl))
  f31:=Tryz.func195.trans (congrArg some (by kernel_rfl))
  f32:=Tryz.func196.trans (congrArg some (by kernel_rfl))
  f33:=Tryz.func197.trans (congrArg some (by kernel_rfl))
  f34:=Tryz.func244.trans (congrArg some (by kernel_rfl))
  f35:=Tryz.func245.trans (congrArg some (by kernel_rfl))
  f36:=Tryz.func246.trans (congrArg some (by kernel_rfl))
  f37:=Tryz.func247.trans (congrArg some (by kernel_rfl))
  f38:=Tryz.func248.trans (congrArg some (by kernel_rfl))
  f39:=Tryz.func278.trans (congrArg some (by kernel_rfl))
  f40:=Tryz.func279.trans (congrArg some (by kernel_rfl))
  t0:=Tryz.underlying0
  a0:=Tryz.isAgg0
  z0:=Tryz.sizeOf0
  v0:=Tryz.zeroValue0
  i0:=by kernel_rfl
  t2:=Tryz.underlying2
  a2:=Tryz.isAgg2
  z2:=Tryz.sizeOf2
  v2:=Tryz.zeroValue2
  i2:=by kernel_rfl
  t3:=Tryz.underlying3
  a3:=Tryz.isAgg3
  z3:=Tryz.sizeOf3
  v3:=Tryz.zeroValue3
  i3:=by kernel_rfl
  t4:=Tryz.underlying4
  a4:=Tryz.isAgg4
  z4:=Tryz.sizeOf4
  v4:=Tryz.zeroValue4
  i4:=by kernel_rfl
  t5:=Tryz.underlying5
  a5:=Tryz.isAgg5
  z5:=Tryz.sizeOf5
  v5:=Tryz.zeroValue5
  i5:=by kernel_rfl
  t9:=Tryz.underlying9
  a9:=Tryz.isAgg9
  z9:=Tryz.sizeOf9
  v9:=Tryz.zeroValue9
  i9:=by kernel_rfl
  t20:=Tryz.underlying20
  a20:=Tryz.isAgg20
  z20:=Tryz.sizeOf20
  v20:=Tryz.zeroValue20
  i20:=by kernel_rfl
  t21:=Tryz.underlying21
  a21:=Tryz.isAgg21
  z21:=Tryz.sizeOf21
  v21:=Tryz.zeroValue21
  i21:=by kernel_rfl
  t22:=Tryz.underlying23
  a22:=Tryz.isAgg23
  z22:=Tryz.sizeOf23
  v22:=Tryz.zeroValue23
  i22:=by kernel_rfl
  t24:=Tryz.underlying136
  a24:=Tryz.isAgg136
  z24:=Tryz.sizeOf136
  v24:=Tryz.zeroValue136
  i24:=by kernel_rfl
  t25:=Tryz.underlying192
  a25:=Tryz.isAgg192
  z25:=Tryz.sizeOf192
  v25:=Tryz.zeroValue192
  i25:=by kernel_rfl
  t34:=Tryz.underlying308
  a34:=Tryz.isAgg308
  z34:=Tryz.sizeOf308
  v34:=Tryz.zeroValue308
  i34:=by kernel_rfl
  c34:=by kernel_rfl
  t36:=Tryz.underlying114
  a36:=Tryz.isAgg114
  z36:=Tryz.sizeOf114
  v36:=Tryz.zeroValue114
  i36:=by kernel_rfl
  t37:=Tryz.underlying113
  a37:=Tryz.isAgg113
  z37:=Tryz.sizeOf113
  v37:=Tryz.zeroValue113
  i37:=by kernel_rfl
  t39:=Tryz.underlying310
  a39:=Tryz.isAgg310
  z39:=Tryz.sizeOf310
  v39:=Tryz.zeroValue310
  i39:=by kernel_rfl
  t44:=Tryz.underlying337
  a44:=Tryz.isAgg337
  z44:=Tryz.sizeOf337
  v44:=Tryz.zeroValue337
  i44:=by kernel_rfl
  t47:=Tryz.underlying197
  a47:=Tryz.isAgg197
  z47:=Tryz.sizeOf197
  v47:=Tryz.zeroValue197
  i47:=by kernel_rfl
  t48:=Tryz.underlying350
  a48:=Tryz.isAgg350
  z48:=Tryz.sizeOf350
  v48:=Tryz.zeroValue350
  i48:=by kernel_rfl
  t50:=Tryz.underlying352
  a50:=Tryz.isAgg352
  z50:=Tryz.sizeOf352
  v50:=Tryz.zeroValue352
  i50:=by kernel_rfl
  t52:=Tryz.underlying260
  a52:=Tryz.isAgg260
  z52:=Tryz.sizeOf260
  v52:=Tryz.zeroValue260
  i52:=by kernel_rfl
  t55:=Tryz.underlying262
  a55:=Tryz.isAgg262
  z55:=Tryz.sizeOf262
  v55:=Tryz.zeroValue262
  i55:=by kernel_rfl
  t59:=Tryz.underlying305
  a59:=Tryz.isAgg305
  z59:=Tryz.sizeOf305
  v59:=Tryz.zeroValue305
  i59:=by kernel_rfl
  t60:=Tryz.underlying26
  a60:=Tryz.isAgg26
  z60:=Tryz.sizeOf26
  v60:=Tryz.zeroValue26
  i60:=by kernel_rfl
  t61:=Tryz.underlying306
  a61:=Tryz.isAgg306
  z61:=Tryz.sizeOf306
  t65:=Tryz.underlying348
  a65:=Tryz.isAgg348
  z65:=Tryz.sizeOf348
  v65:=Tryz.zeroValue348
  i65:=by kernel_rfl
  t66:=Tryz.underlying349
  a66:=Tryz.isAgg349
  z66:=Tryz.sizeOf349
  v66:=Tryz.zeroValue349
  i66:=by kernel_rfl
  t67:=Tryz.underlying139
  a67:=Tryz.isAgg139
  z67:=Tryz.sizeOf139
  v67:=Tryz.zeroValue139
  i67:=by kernel_rfl
  g0:=by kernel_rfl
  m0:=by kernel_rfl
  g1:=by kernel_rfl
  m1:=by kernel_rfl
  g2:=by kernel_rfl
  m2:=by kernel_rfl
  g3:=by kernel_rfl
  m3:=by kernel_rfl
  g4:=by kernel_rfl
  m4:=by kernel_rfl}
open Go.RowKit in
theorem Tryz.strconv_ParseUint_10_at64_ok(s:ByteArray)(a:s.size≤9223372036854775806)(u:Nat)(h:Lib.parseUintB 64 s.data.toList=.ok u)(w:World):
    Calls Tryz.prog 126 #[.string s,.int .i64 10,.int .i64 64] w fun e w'=>e=.returned (.tuple #[.int .u64 u,.nilIface])/\(w'=w∨w'=Lib.bytesWorld w 5 s):=Any.strconv_ParseUint_10_at64_ok Tryz.laysPu14 s a u h w
open Go.RowKit in
theorem Tryz.strconv_ParseUint_10_at64_range(s:ByteArray)(a:s.size≤281474976710656)(h:Lib.parseUintB 64 s.data.toList=.range)(b:Value)(w:World)(i:w.cell? ⟨4,0,none⟩=some b)(c:b=.nilIface∨∃d g,b=.iface d g):
    Calls Tryz.prog 126 #[.string s,.int .i64 10,.int .i64 64] w fun e w'=>∃N,e=.returned (.tuple #[.int .u64 18446744073709551615,.iface 310 (.pointer (some ⟨N,0,none⟩))])/\w.heap.size<=N/\w'.heap[N]?=some (.cells #[.string ⟨#[80,97,114,115,101,85,105,110,116]⟩,.string s,b] 337 (0,0))/\Below w.heap.size w w':=Any.strconv_ParseUint_10_at64_range Tryz.laysPu14 s a h b w i c
def Tryz.laysGw15_ren:Go.Shelf.Ren:=⟨fun|15=>201|20=>255|n=>n,fun|9=>9|23=>266|3=>3|4=>4|0=>0|21=>21|n=>n,fun|n=>n⟩
theorem Tryz.laysGw15:Go.Proofs.LaysGw.n15 Tryz.prog Tryz.laysGw15_ren:={
  mixed:=by kernel_rfl
  f15:=Tryz.func201.trans (congrArg some (by kernel_rfl))
  f20:=Tryz.func255.trans (congrArg some (by kernel_rfl))
  t0:=Tryz.underlying0
  a0:=Tryz.isAgg0
  z0:=Tryz.sizeOf0
  v0:=Tryz.zeroValue0
  i0:=by kernel_rfl
  t3:=Tryz.underlying3
  a3:=Tryz.isAgg3
  z3:=Tryz.sizeOf3
  v3:=Tryz.zeroValue3
  i3:=by kernel_rfl
  t4:=Tryz.underlying4
  a4:=Tryz.isAgg4
  z4:=Tryz.sizeOf4
  v4:=Tryz.zeroValue4
  i4:=by kernel_rfl
  t9:=Tryz.underlying9
  a9:=Tryz.isAgg9
  z9:=Tryz.sizeOf9
  v9:=Tryz.zeroValue9
  i9:=by kernel_rfl
  t21:=Tryz.underlying21
  a21:=Tryz.isAgg21
  z21:=Tryz.sizeOf21
  v21:=Tryz.zeroValue21
  i21:=by kernel_rfl
  t23:=Tryz.underlying266
  a23:=Tryz.isAgg266
  z23:=Tryz.sizeOf266
  v23:=Tryz.zeroValue266
  i23:=by kernel_rfl}
open Go.RowKit Go.Lib in
theorem Tryz.strings_IndexFunc(g:Nat)(a:Array Value)(c:∀args w,(callFunc g args).run Tryz.prog w=.ok (.enter g args) w)(p:Nat→Bool)(s:ByteArray)(w:World)(b:PredAt Tryz.prog g a encR p w):
    Calls Tryz.prog 201 #[.string s,.func (.func g) #[] a] w fun e w'=>e=.returned (.int .i64 (Lib.idxFunc p true s))/\Below w.heap.size w w':=Any.strings_IndexFunc Tryz.laysGw15 g a c p s w b
def Tryz.lays146_ren:Go.Shelf.Ren:=⟨fun|146=>84|221=>139|268=>212|138=>213|143=>214|195=>259|197=>260|218=>261|219=>262|260=>283|217=>284|225=>285|224=>286|267=>287|266=>296|314=>297|n=>n,fun|9=>9|31=>22|3=>3|4=>4|0=>0|105=>317|21=>21|5=>5|46=>114|119=>353|139=>356|138=>355|146=>296|51=>26|n=>n,fun|1=>2|3=>7|4=>8|n=>n⟩
theorem Tryz.lays146:Go.Proofs.Lays.n146 Tryz.prog Tryz.lays146_ren:={
  mixed:=by kernel_rfl
  f138:=Tryz.func213.trans (congrArg some (by kernel_rfl))
  f143:=Tryz.func214.trans (congrArg some (by kernel_rfl))
  f146:=Tryz.func84.trans (congrArg some (by kernel_rfl))
  f195:=Tryz.func259.trans (congrArg some (by kernel_rfl))
  f197:=Tryz.func260.trans (congrArg some (by kernel_rfl))
  f217:=Tryz.func284.trans (congrArg some (by kernel_rfl))
  f218:=Tryz.func261.trans (congrArg some (by kernel_rfl))
  f219:=Tryz.func262.trans (congrArg some (by kernel_rfl))
  f221:=Tryz.func139.trans (congrArg some (by kernel_rfl))
  f224:=Tryz.func286.trans (congrArg some (by kernel_rfl))
  f225:=Tryz.func285.trans (congrArg some (by kernel_rfl))
  f260:=Tryz.func283.trans (congrArg some (by kernel_rfl))
  f266:=Tryz.func296.trans (congrArg some (by kernel_rfl))
  f267:=Tryz.func287.trans (congrArg some (by kernel_rfl))
  f268:=Tryz.func212.trans (congrArg some (by kernel_rfl))
  f314:=Tryz.func297.trans (congrArg some (by kernel_rfl))
  t0:=Tryz.underlying0
  a0:=Tryz.isAgg0
  z0:=Tryz.sizeOf0
  v0:=Tryz.zeroValue0
  t3:=Tryz.underlying3
  a3:=Tryz.isAgg3
  z3:=Tryz.sizeOf3
  v3:=Tryz.zeroValue3
  t4:=Tryz.underlying4
  a4:=Tryz.isAgg4
  z4:=Tryz.sizeOf4
  v4:=Tryz.zeroValue4
  t5:=Tryz.underlying5
  a5:=Tryz.isAgg5
  z5:=Tryz.sizeOf5
  v5:=Tryz.zeroValue5
  t9:=Tryz.underlying9
  a9:=Tryz.isAgg9
  z9:=Tryz.sizeOf9
  v9:=Tryz.zeroValue9
  t21:=Tryz.underlying21
  a21:=Tryz.isAgg21
  z21:=Tryz.sizeOf21
  v21:=Tryz.zeroValue21
  t31:=Tryz.underlying22
  a31:=Tryz.isAgg22
  z31:=Tryz.sizeOf22
  v31:=Tryz.zeroValue22
  t46:=Tryz.underlying114
  a46:=Tryz.isAgg114
  z46:=Tryz.sizeOf114
  v46:=Tryz.zeroValue114
  t51:=Tryz.underlying26
  a51:=Tryz.isAgg26
  z51:=Tryz.sizeOf26
  v51:=Tryz.zeroValue26
  t105:=Tryz.underlying317
  a105:=Tryz.isAgg317
  z105:=Tryz.sizeOf317
  v105:=Tryz.zeroValue317
  t119:=Tryz.underlying353
  a119:=Tryz.isAgg353
  z119:=Tryz.sizeOf353
  t138:=Tryz.underlying355
  a138:=Tryz.isAgg355
  z138:=Tryz.sizeOf355
  v138:=Tryz.zeroValue355
  t139:=Tryz.underlying356
  a139:=Tryz.isAgg356
  z139:=Tryz.sizeOf356
  v139:=Tryz.zeroValue356
  t146:=Tryz.underlying296
  a146:=Tryz.isAgg296
  z146:=Tryz.sizeOf296
  v146:=Tryz.zeroValue296
  g1:=by kernel_rfl
  g3:=by kernel_rfl
  g4:=by kernel_rfl}
open Go.RowKit Go.Lib in
theorem Tryz.strings_Split(s a:ByteArray)(m:Int)(w:World)(b:s.size<4294967281)(c:w.cell? ⟨2,0,none⟩=some (.int .i64 m))(d:1≤a.size):
    Calls Tryz.prog 84 #[.string s,.string a] w fun e w'=>
      e=.returned (.slice (some ⟨w.heap.size,0,none⟩) (Lib.countB s a+1) (Lib.countB s a+1))/\w'=w.alloc (.cells ((Lib.splitB a 0 (Lib.countB s a) s).map Value.string).toArray 9):=Any.strings_Split Tryz.lays146 (by kernel_rfl) s a m w b c d
def Tryz.lays155_ren:Go.Shelf.Ren:=⟨fun|155=>208|154=>257|138=>213|165=>120|143=>214|166=>71|197=>260|169=>72|195=>259|218=>261|240=>130|241=>193|219=>262|260=>283|276=>203|277=>243|217=>284|225=>285|224=>286|267=>287|266=>296|314=>297|n=>n,fun|9=>9|3=>3|4=>4|72=>131|0=>0|76=>137|105=>317|21=>21|5=>5|70=>129|20=>20|37=>113|75=>136|127=>197|164=>267|46=>114|119=>353|139=>356|138=>355|146=>296|51=>26|80=>139|n=>n,fun|1=>2|3=>7|4=>8|n=>n⟩
theorem Tryz.lays155:Go.Proofs.Lays.n155 Tryz.prog Tryz.lays155_ren:={
  mixed:=by kernel_rfl
  f138:=Tryz.func213.trans (congrArg some (by kernel_rfl))
  f143:=Tryz.func214.trans (congrArg some (by kernel_rfl))
  f154:=Tryz.func257.trans (congrArg some (by kernel_rfl))
  f155:=Tryz.func208.trans (congrArg some (by kernel_rfl))
  f165:=Tryz.func120.trans (congrArg some (by kernel_rfl))
  f166:=Tryz.func71.trans (congrArg some (by kernel_rfl))
  f169:=Tryz.func72.trans (congrArg some (by kernel_rfl))
  f195:=Tryz.func259.trans (congrArg some (by kernel_rfl))
  f197:=Tryz.func260.trans (congrArg some (by kernel_rfl))
  f217:=Tryz.func284.trans (congrArg some (by kernel_rfl))
  f218:=Tryz.func261.trans (congrArg some (by kernel_rfl))
  f219:=Tryz.func262.trans (congrArg some (by kernel_rfl))
  f224:=Tryz.func286.trans (congrArg some (by kernel_rfl))
  f225:=Tryz.func285.trans (congrArg some (by kernel_rfl))
  f240:=Tryz.func130.trans (congrArg some (by kernel_rfl))
  f241:=Tryz.func193.trans (congrArg some (by kernel_rfl))
  f260:=Tryz.func283.trans (congrArg some (by kernel_rfl))
  f266:=Tryz.func296.trans (congrArg some (by kernel_rfl))
  f267:=Tryz.func287.trans (congrArg some (by kernel_rfl))
  f276:=Tryz.func203.trans (congrArg some (by kernel_rfl))
  f277:=Tryz.func243.trans (congrArg some (by kernel_rfl))
  f314:=Tryz.func297.trans (congrArg some (by kernel_rfl))
  t0:=Tryz.underlying0
  a0:=Tryz.isAgg0
  z0:=Tryz.sizeOf0
  v0:=Tryz.zeroValue0
  t3:=Tryz.underlying3
  a3:=Tryz.isAgg3
  z3:=Tryz.sizeOf3
  v3:=Tryz.zeroValue3
  t4:=Tryz.underlying4
  a4:=Tryz.isAgg4
  z4:=Tryz.sizeOf4
  v4:=Tryz.zeroValue4
  t5:=Tryz.underlying5
  a5:=Tryz.isAgg5
  z5:=Tryz.sizeOf5
  v5:=Tryz.zeroValue5
  t9:=Tryz.underlying9
  a9:=Tryz.isAgg9
  z9:=Tryz.sizeOf9
  v9:=Tryz.zeroValue9
  t20:=Tryz.underlying20
  a20:=Tryz.isAgg20
  z20:=Tryz.sizeOf20
  v20:=Tryz.zeroValue20
  t21:=Tryz.underlying21
  a21:=Tryz.isAgg21
  z21:=Tryz.sizeOf21
  v21:=Tryz.zeroValue21
  t37:=Tryz.underlying113
  a37:=Tryz.isAgg113
  z37:=Tryz.sizeOf113
  v37:=Tryz.zeroValue113
  t46:=Tryz.underlying114
  a46:=Tryz.isAgg114
  z46:=Tryz.sizeOf114
  v46:=Tryz.zeroValue114
  t51:=Tryz.underlying26
  a51:=Tryz.isAgg26
  z51:=Tryz.sizeOf26
  v51:=Tryz.zeroValue26
  t70:=Tryz.underlying129
  a70:=Tryz.isAgg129
  z70:=Tryz.sizeOf129
  v70:=Tryz.zeroValue129
  t72:=Tryz.underlying131
  a72:=Tryz.isAgg131
  z72:=Tryz.sizeOf131
  v72:=Tryz.zeroValue131
  t75:=Tryz.underlying136
  a75:=Tryz.isAgg136
  z75:=Tryz.sizeOf136
  v75:=Tryz.zeroValue136
  t76:=Tryz.underlying137
  a76:=Tryz.isAgg137
  z76:=Tryz.sizeOf137
  v76:=Tryz.zeroValue137
  t105:=Tryz.underlying317
  a105:=Tryz.isAgg317
  z105:=Tryz.sizeOf317
  v105:=Tryz.zeroValue317
  t119:=Tryz.underlying353
  a119:=Tryz.isAgg353
  z119:=Tryz.sizeOf353
  t127:=Tryz.underlying197
  a127:=Tryz.isAgg197
  z127:=Tryz.sizeOf197
  v127:=Tryz.zeroValue197
  t138:=Tryz.underlying355
  a138:=Tryz.isAgg355
  z138:=Tryz.sizeOf355
  v138:=Tryz.zeroValue355
  t139:=Tryz.underlying356
  a139:=Tryz.isAgg356
  z139:=Tryz.sizeOf356
  v139:=Tryz.zeroValue356
  t146:=Tryz.underlying296
  a146:=Tryz.isAgg296
  z146:=Tryz.sizeOf296
  v146:=Tryz.zeroValue296
  t164:=Tryz.underlying267
  a164:=Tryz.isAgg267
  z164:=Tryz.sizeOf267
  v164:=Tryz.zeroValue267
  g1:=by kernel_rfl
  g3:=by kernel_rfl
  g4:=by kernel_rfl}
theorem Tryz.Builder_Extra_155:Builder.Extra Tryz.prog Tryz.lays155_ren:={
  sizeBuilder:=by kernel_rfl
  liesBuilder:=by kernel_rfl
  t5:=Tryz.underlying5
  a5:=Tryz.isAgg5
  z5:=Tryz.sizeOf5
  v5:=Tryz.zeroValue5
  infoByte:=by kernel_rfl
  cellsByte:=by kernel_rfl
  sizeByte:=by kernel_rfl
  neB5:=by decide}
open Go.RowKit Go.Lib in
theorem Tryz.strings_ReplaceAll(s a new:ByteArray)(m:Int)(w:World)(c:s.size<4294967281)(d:w.cell? ⟨2,0,none⟩=some (.int .i64 m))(g:1≤a.size)(b:s.size+Lib.countB s a*new.size≤140737488355328):
    Calls Tryz.prog 208 #[.string s,.string a,.string new] w fun e w'=>
      e=.returned (.string ⟨(Lib.replaceAll s.data.toList a.data.toList new.data.toList).toArray⟩)/\Below w.heap.size w w':=Any.strings_ReplaceAll Tryz.lays155 Tryz.Builder_Extra_155 s a new m w c d g b
def Tryz.lays194_ren:Go.Shelf.Ren:=⟨fun|194=>159|n=>n,fun|31=>22|9=>9|3=>3|4=>4|0=>0|n=>n,fun|n=>n⟩
theorem Tryz.lays194:Go.Proofs.Lays.n194 Tryz.prog Tryz.lays194_ren:={
  mixed:=by kernel_rfl
  f194:=Tryz.func159.trans (congrArg some (by kernel_rfl))
  t0:=Tryz.underlying0
  a0:=Tryz.isAgg0
  z0:=Tryz.sizeOf0
  v0:=Tryz.zeroValue0
  t3:=Tryz.underlying3
  a3:=Tryz.isAgg3
  z3:=Tryz.sizeOf3
  v3:=Tryz.zeroValue3
  t4:=Tryz.underlying4
  a4:=Tryz.isAgg4
  z4:=Tryz.sizeOf4
  v4:=Tryz.zeroValue4
  t9:=Tryz.underlying9
  a9:=Tryz.isAgg9
  z9:=Tryz.sizeOf9
  v9:=Tryz.zeroValue9
  t31:=Tryz.underlying22
  a31:=Tryz.isAgg22
  z31:=Tryz.sizeOf22
  v31:=Tryz.zeroValue22}
open Go.RowKit Go.Lib Go.Sort in
theorem Tryz.slices_Compact_string(a off cap:Nat)(b:List (List UInt8))(w:World)(g:Holds encStr w a off b.toArray)(d:b.length≤9223372036854775807)(c:b.length≤cap):
    Calls Tryz.prog 159 #[.slice (some ⟨a,off,none⟩) b.length cap] w fun e w'=>e=.returned (.slice (some ⟨a,off,none⟩) (Lib.compact b).length cap)/\∃q,w'=putRow encStr (Sort.ahead w q) a off (Lib.compact b++List.replicate (b.length-(Lib.compact b).length) []).toArray:=Any.slices_Compact_string Tryz.lays194 a off cap b w g d c
open Go.RowKit Go.Lib Go.Sort in
theorem Tryz.slices_Compact_string_empty(a:Option Addr)(cap:Nat)(w:World):
    Calls Tryz.prog 159 #[.slice a 0 cap] w fun e w'=>e=.returned (.slice a 0 cap)/\w'=w:=Any.slices_Compact_string_empty Tryz.lays194 a cap w
end Go.Proofs
