/-
  DERIVED: THE SHELF's CONTRACTS AT THIS DUMP, IN PLAIN WORDS (tools/lay-plain.mjs out of 'TryzShelf.lean', which tools/lay-shelf.mjs wrote): THE SAME DECLARATIONS UNDER THE SAME NAMES: 'import', 'namespace', 'open', 'def', 'theorem' AND NOTHING ELSE: no command of the shelf's: FOR A HAND-IN. Each laying: the table of numbers ('.._ren') and one theorem, a field a fact of the dump's own or the kernel's comparison; each contract: ONE APPLICATION.
-/
import Derived.Shelf.Strings.Builder1
import Derived.Shelf.Strings.Builder2
import Derived.Shelf.Strings.OnBuilder
import Derived.Shelf.Small.Bits
import Derived.Shelf.Small.Wraps
import Derived.Shelf.Strings.BuilderF
import Derived.Shelf.Strings.BuilderK
import Derived.Shelf.Strconv.Itoa0
import Derived.Shelf.Strconv.Itoa1
import Derived.Shelf.LaysM
import Derived.Shelf.Strconv.Itoa2
import Derived.Shelf.Strconv.Itoa3
import Derived.Shelf.Strconv.Clone
import Derived.Shelf.Strings.Search1
import Derived.Shelf.Strings.Search2
import Derived.Shelf.Strings.Search3
import Derived.Shelf.Strings.Count
import Derived.Shelf.Strings.Shaped
import Derived.Shelf.Strings.Prefix
import Derived.Shelf.Strings.Split
import Derived.Shelf.Strings.SplitShaped
import Derived.Shelf.Unicode.DecodeSlow
import Derived.Ground.Names2Prog
import Derived.Shelf.Slices.Clone
import Derived.Shelf.Slices.SearchI
import Derived.Shelf.SlGeneric
import Derived.Ground.SlsfProg
import Derived.Ground.SlgqProg
import Derived.Shelf.SlSortCmp.NoneTotal
import Derived.Shelf.SlicesQ.Equal
import Derived.Ground.SlmcProg
import Derived.Shelf.SlMaps.Clone
import Derived.Test.YteajonicnkpbbaaGreatDoorProg
namespace Go.Proofs
open Go.Shelf
def Tryz.lays169_ren:Go.Shelf.Ren:=⟨fun | 169=>116 | n=>n,fun | 70=>159 | 9=>9 | 0=>0 | 72=>161 | 37=>104 | 127=>230 | 3=>3 | 5=>5 | n=>n,fun | n=>n⟩
theorem Tryz.lays169:Go.Proofs.Lays.n169 Tryz.prog Tryz.lays169_ren:={
  mixed:=by kernel_rfl
  f169:=Tryz.func116.trans (congrArg some (by kernel_rfl))
  t0:=Tryz.underlying0
  a0:=Tryz.isAgg0
  z0:=Tryz.sizeOf0
  v0:=Tryz.zeroValue0
  t3:=Tryz.underlying3
  a3:=Tryz.isAgg3
  z3:=Tryz.sizeOf3
  v3:=Tryz.zeroValue3
  t9:=Tryz.underlying9
  a9:=Tryz.isAgg9
  z9:=Tryz.sizeOf9
  v9:=Tryz.zeroValue9
  t37:=Tryz.underlying104
  a37:=Tryz.isAgg104
  z37:=Tryz.sizeOf104
  v37:=Tryz.zeroValue104
  t70:=Tryz.underlying159
  a70:=Tryz.isAgg159
  z70:=Tryz.sizeOf159
  v70:=Tryz.zeroValue159
  t72:=Tryz.underlying161
  a72:=Tryz.isAgg161
  z72:=Tryz.sizeOf161
  v72:=Tryz.zeroValue161
  t127:=Tryz.underlying230
  a127:=Tryz.isAgg230
  z127:=Tryz.sizeOf230
  v127:=Tryz.zeroValue230}
theorem Tryz.Builder_Extra_169:Builder.Extra Tryz.prog Tryz.lays169_ren:={
  sizeBuilder:=by kernel_rfl
  liesBuilder:=by kernel_rfl
  t5:=Tryz.underlying5
  a5:=Tryz.isAgg5
  z5:=Tryz.sizeOf5
  v5:=Tryz.zeroValue5
  infoByte:=by kernel_rfl
  cellsByte:=by kernel_rfl
  sizeByte:=by kernel_rfl
  neB5:=by decide}
def Tryz.lays156_ren:Go.Shelf.Ren:=⟨fun | 156=>115 | 165=>172 | 166=>113 | 169=>116 | 240=>170 | 241=>211 | 276=>209 | 277=>233 | n=>n,fun | 31=>167 | 9=>9 | 3=>3 | 4=>4 | 0=>0 | 20=>20 | 72=>161 | 76=>164 | 70=>159 | 37=>104 | 75=>163 | 127=>230 | 164=>267 | 5=>5 | 80=>122 | n=>n,fun | n=>n⟩
theorem Tryz.lays156:Go.Proofs.Lays.n156 Tryz.prog Tryz.lays156_ren:={
  mixed:=by kernel_rfl
  f156:=Tryz.func115.trans (congrArg some (by kernel_rfl))
  f165:=Tryz.func172.trans (congrArg some (by kernel_rfl))
  f166:=Tryz.func113.trans (congrArg some (by kernel_rfl))
  f169:=Tryz.func116.trans (congrArg some (by kernel_rfl))
  f240:=Tryz.func170.trans (congrArg some (by kernel_rfl))
  f241:=Tryz.func211.trans (congrArg some (by kernel_rfl))
  f276:=Tryz.func209.trans (congrArg some (by kernel_rfl))
  f277:=Tryz.func233.trans (congrArg some (by kernel_rfl))
  t0:=Tryz.underlying0
  a0:=Tryz.isAgg0
  z0:=Tryz.sizeOf0
  v0:=Tryz.zeroValue0
  t3:=Tryz.underlying3
  a3:=Tryz.isAgg3
  z3:=Tryz.sizeOf3
  v3:=Tryz.zeroValue3
  t4:=Tryz.underlying4
  a4:=Tryz.isAgg4
  z4:=Tryz.sizeOf4
  v4:=Tryz.zeroValue4
  t9:=Tryz.underlying9
  a9:=Tryz.isAgg9
  z9:=Tryz.sizeOf9
  v9:=Tryz.zeroValue9
  t20:=Tryz.underlying20
  a20:=Tryz.isAgg20
  z20:=Tryz.sizeOf20
  v20:=Tryz.zeroValue20
  t31:=Tryz.underlying167
  a31:=Tryz.isAgg167
  z31:=Tryz.sizeOf167
  v31:=Tryz.zeroValue167
  t37:=Tryz.underlying104
  a37:=Tryz.isAgg104
  z37:=Tryz.sizeOf104
  v37:=Tryz.zeroValue104
  t70:=Tryz.underlying159
  a70:=Tryz.isAgg159
  z70:=Tryz.sizeOf159
  v70:=Tryz.zeroValue159
  t72:=Tryz.underlying161
  a72:=Tryz.isAgg161
  z72:=Tryz.sizeOf161
  v72:=Tryz.zeroValue161
  t75:=Tryz.underlying163
  a75:=Tryz.isAgg163
  z75:=Tryz.sizeOf163
  v75:=Tryz.zeroValue163
  t76:=Tryz.underlying164
  a76:=Tryz.isAgg164
  z76:=Tryz.sizeOf164
  v76:=Tryz.zeroValue164
  t127:=Tryz.underlying230
  a127:=Tryz.isAgg230
  z127:=Tryz.sizeOf230
  v127:=Tryz.zeroValue230
  t164:=Tryz.underlying267
  a164:=Tryz.isAgg267
  z164:=Tryz.sizeOf267
  v164:=Tryz.zeroValue267}
theorem Tryz.Builder_Extra_156:Builder.Extra Tryz.prog Tryz.lays156_ren:={
  sizeBuilder:=by kernel_rfl
  liesBuilder:=by kernel_rfl
  t5:=Tryz.underlying5
  a5:=Tryz.isAgg5
  z5:=Tryz.sizeOf5
  v5:=Tryz.zeroValue5
  infoByte:=by kernel_rfl
  cellsByte:=by kernel_rfl
  sizeByte:=by kernel_rfl
  neB5:=by decide}
open Go.RowKit in
theorem Tryz.strings_Join(bk o c : Nat)(xs : List ByteArray)(sep : ByteArray)(w : World)(hcells : ∀ (j : Nat) x, xs[j]? = some x → w.cell? ⟨bk, o + j, none⟩ = some (.string x))(hbk : bk < w.heap.size)(hN : xs.length ≤ 140737488355328)(hcap : xs.length ≤ c)(hlen : (Lib.join (xs.map (·.data.toList)) sep.data.toList).length ≤ 140737488355328) :
    Calls Tryz.prog 115 #[.slice (some ⟨bk,o,none⟩) xs.length c,.string sep] w fun e w'=>e=.returned (.string ⟨(Lib.join (xs.map (·.data.toList)) sep.data.toList).toArray⟩)∧Below w.heap.size w w':=Any.strings_Join Tryz.lays156 Tryz.Builder_Extra_156 bk o c xs sep w hcells hbk hN hcap hlen
def Tryz.lays103_ren:Go.Shelf.Ren:=⟨fun | 103=>258 | 210=>272 | 206=>281 | n=>n,fun | 9=>9 | 4=>4 | 24=>312 | 3=>3 | n=>n,fun | n=>n⟩
theorem Tryz.lays103:Go.Proofs.Lays.n103 Tryz.prog Tryz.lays103_ren:={
  mixed:=by kernel_rfl
  f103:=Tryz.func258.trans (congrArg some (by kernel_rfl))
  f206:=Tryz.func281.trans (congrArg some (by kernel_rfl))
  f210:=Tryz.func272.trans (congrArg some (by kernel_rfl))
  t3:=Tryz.underlying3
  a3:=Tryz.isAgg3
  z3:=Tryz.sizeOf3
  v3:=Tryz.zeroValue3
  t4:=Tryz.underlying4
  a4:=Tryz.isAgg4
  z4:=Tryz.sizeOf4
  v4:=Tryz.zeroValue4
  t9:=Tryz.underlying9
  a9:=Tryz.isAgg9
  z9:=Tryz.sizeOf9
  v9:=Tryz.zeroValue9
  t24:=Tryz.underlying312
  a24:=Tryz.isAgg312
  z24:=Tryz.sizeOf312
  v24:=Tryz.zeroValue312}
open Go.RowKit in
theorem Tryz.strings_CutPrefix(s p : ByteArray)(w : World) :
    Calls Tryz.prog 258 #[.string s,.string p] w fun e w'=>e=.returned (.tuple #[.string ⟨(Lib.trimPrefix s.data.toList p.data.toList).toArray⟩,.bool (Lib.hasPrefix s.data.toList p.data.toList)])∧w'=w:=Any.strings_CutPrefix Tryz.lays103 s p w
open Go.RowKit in
theorem Tryz.Builder_String_f(B b : Nat)(l : List UInt8)(w : World)(h : Lib.IsBuilderF 161 5 B b (Lib.byteCells l) w)(h0 : l ≠ []) :
    Calls Tryz.prog 116 #[.pointer (some ⟨b,0,none⟩)] w fun e w'=>e=.returned (.string ⟨l.toArray⟩)∧(Lib.IsBuilderF 161 5 B b (Lib.byteCells l) w'∧Below B w w'):=Any.Builder_String_f Tryz.lays169 Tryz.Builder_Extra_169 B b l w h h0
def Tryz.laysM171_ren:Go.Shelf.Ren:=⟨fun | 171=>171 | 243=>210 | 246=>232 | 283=>251 | 284=>252 | 285=>253 | 286=>254 | 129=>248 | 317=>264 | 318=>265 | 319=>266 | 320=>267 | 337=>274 | 338=>275 | n=>n,fun | 3=>3 | 9=>9 | 2=>2 | 4=>4 | 171=>307 | 0=>0 | 53=>22 | 37=>104 | 5=>5 | 173=>309 | 212=>320 | 51=>283 | 20=>20 | 213=>321 | 46=>231 | 232=>330 | 233=>331 | n=>n,fun | 17=>1 | 18=>2 | 19=>3 | n=>n⟩
theorem Tryz.laysM171:Go.Proofs.LaysM.n171 Tryz.prog Tryz.laysM171_ren:={
  mixed:=by kernel_rfl
  f129:=Tryz.func248.trans (congrArg some (by kernel_rfl))
  f171:=Tryz.func171.trans (congrArg some (by kernel_rfl))
  f243:=Tryz.func210.trans (congrArg some (by kernel_rfl))
  f246:=Tryz.func232.trans (congrArg some (by kernel_rfl))
  f283:=Tryz.func251.trans (congrArg some (by kernel_rfl))
  f284:=Tryz.func252.trans (congrArg some (by kernel_rfl))
  f285:=Tryz.func253.trans (congrArg some (by kernel_rfl))
  f286:=Tryz.func254.trans (congrArg some (by kernel_rfl))
  f317:=Tryz.func264.trans (congrArg some (by kernel_rfl))
  f318:=Tryz.func265.trans (congrArg some (by kernel_rfl))
  f319:=Tryz.func266.trans (congrArg some (by kernel_rfl))
  f320:=Tryz.func267.trans (congrArg some (by kernel_rfl))
  f337:=Tryz.func274.trans (congrArg some (by kernel_rfl))
  f338:=Tryz.func275.trans (congrArg some (by kernel_rfl))
  t0:=Tryz.underlying0
  a0:=Tryz.isAgg0
  z0:=Tryz.sizeOf0
  v0:=Tryz.zeroValue0
  t2:=Tryz.underlying2
  a2:=Tryz.isAgg2
  z2:=Tryz.sizeOf2
  v2:=Tryz.zeroValue2
  t3:=Tryz.underlying3
  a3:=Tryz.isAgg3
  z3:=Tryz.sizeOf3
  v3:=Tryz.zeroValue3
  t4:=Tryz.underlying4
  a4:=Tryz.isAgg4
  z4:=Tryz.sizeOf4
  v4:=Tryz.zeroValue4
  t5:=Tryz.underlying5
  a5:=Tryz.isAgg5
  z5:=Tryz.sizeOf5
  v5:=Tryz.zeroValue5
  t9:=Tryz.underlying9
  a9:=Tryz.isAgg9
  z9:=Tryz.sizeOf9
  v9:=Tryz.zeroValue9
  t20:=Tryz.underlying20
  a20:=Tryz.isAgg20
  z20:=Tryz.sizeOf20
  v20:=Tryz.zeroValue20
  t37:=Tryz.underlying104
  a37:=Tryz.isAgg104
  z37:=Tryz.sizeOf104
  v37:=Tryz.zeroValue104
  t46:=Tryz.underlying231
  a46:=Tryz.isAgg231
  z46:=Tryz.sizeOf231
  v46:=Tryz.zeroValue231
  t51:=Tryz.underlying283
  a51:=Tryz.isAgg283
  z51:=Tryz.sizeOf283
  v51:=Tryz.zeroValue283
  t53:=Tryz.underlying22
  a53:=Tryz.isAgg22
  z53:=Tryz.sizeOf22
  v53:=Tryz.zeroValue22
  t171:=Tryz.underlying307
  a171:=Tryz.isAgg307
  z171:=Tryz.sizeOf307
  v171:=Tryz.zeroValue307
  t173:=Tryz.underlying309
  a173:=Tryz.isAgg309
  z173:=Tryz.sizeOf309
  v173:=Tryz.zeroValue309
  t212:=Tryz.underlying320
  a212:=Tryz.isAgg320
  z212:=Tryz.sizeOf320
  v212:=Tryz.zeroValue320
  t213:=Tryz.underlying321
  a213:=Tryz.isAgg321
  z213:=Tryz.sizeOf321
  t232:=Tryz.underlying330
  a232:=Tryz.isAgg330
  z232:=Tryz.sizeOf330
  v232:=Tryz.zeroValue330
  t233:=Tryz.underlying331
  a233:=Tryz.isAgg331
  z233:=Tryz.sizeOf331
  v233:=Tryz.zeroValue331
  g17:=by kernel_rfl
  g18:=by kernel_rfl
  g19:=by kernel_rfl
  i0:=by kernel_rfl
  i2:=by kernel_rfl
  i3:=by kernel_rfl
  i4:=by kernel_rfl
  i5:=by kernel_rfl
  i9:=by kernel_rfl
  i20:=by kernel_rfl
  i37:=by kernel_rfl
  i46:=by kernel_rfl
  i51:=by kernel_rfl
  i53:=by kernel_rfl
  i171:=by kernel_rfl
  i173:=by kernel_rfl
  i212:=by kernel_rfl
  i232:=by kernel_rfl
  i233:=by kernel_rfl
  m17:=by kernel_rfl
  m18:=by kernel_rfl
  m19:=by kernel_rfl}
open Go.RowKit Go.Sort Go.Lib in
theorem Tryz.strconv_Itoa(n : Int)(h0 : -9223372036854775808 ≤ n)(h1 : n ≤ 9223372036854775807)(w : World)(htab : Lib.TabIs Tryz.prog w "internal/strconv.uint64pow10" .u64 Lib.pow10Tab) :
    Calls Tryz.prog 171 #[.int .i64 n] w fun e w'=>e=.returned (.string ⟨(Lib.itoa n).toArray⟩)∧∃ k os,w'=grow (w.drewN k) os:=Any.strconv_Itoa Tryz.laysM171 n h0 h1 w htab
def Tryz.laysM316_ren:Go.Shelf.Ren:=⟨fun | 316=>173 | n=>n,fun | 9=>9 | 3=>3 | 4=>4 | 37=>104 | 0=>0 | 127=>230 | 5=>5 | n=>n,fun | n=>n⟩
theorem Tryz.laysM316:Go.Proofs.LaysM.n316 Tryz.prog Tryz.laysM316_ren:={
  mixed:=by kernel_rfl
  f316:=Tryz.func173.trans (congrArg some (by kernel_rfl))
  t0:=Tryz.underlying0
  a0:=Tryz.isAgg0
  z0:=Tryz.sizeOf0
  v0:=Tryz.zeroValue0
  t3:=Tryz.underlying3
  a3:=Tryz.isAgg3
  z3:=Tryz.sizeOf3
  v3:=Tryz.zeroValue3
  t4:=Tryz.underlying4
  a4:=Tryz.isAgg4
  z4:=Tryz.sizeOf4
  v4:=Tryz.zeroValue4
  t9:=Tryz.underlying9
  a9:=Tryz.isAgg9
  z9:=Tryz.sizeOf9
  v9:=Tryz.zeroValue9
  t37:=Tryz.underlying104
  a37:=Tryz.isAgg104
  z37:=Tryz.sizeOf104
  v37:=Tryz.zeroValue104
  t127:=Tryz.underlying230
  a127:=Tryz.isAgg230
  z127:=Tryz.sizeOf230
  v127:=Tryz.zeroValue230
  t5:=Tryz.underlying5
  a5:=Tryz.isAgg5
  z5:=Tryz.sizeOf5
  v5:=Tryz.zeroValue5
  i0:=by kernel_rfl
  i3:=by kernel_rfl
  i4:=by kernel_rfl
  i5:=by kernel_rfl
  i9:=by kernel_rfl
  i37:=by kernel_rfl
  i127:=by kernel_rfl}
open Go.RowKit in
theorem Tryz.stringslite_Clone(s : ByteArray)(w : World)(hlim : s.size ≤ 281474976710656) :
    Calls Tryz.prog 173 #[.string s] w fun e w'=>e=.returned (.string s)∧Below w.heap.size w w':=Any.stringslite_Clone Tryz.laysM316 s w hlim
def Tryz.laysM219_ren:Go.Shelf.Ren:=⟨fun | 219=>271 | 217=>277 | 225=>278 | 224=>279 | 267=>280 | 266=>282 | 314=>283 | n=>n,fun | 9=>9 | 3=>3 | 4=>4 | 5=>5 | 46=>231 | 146=>336 | 51=>283 | n=>n,fun | 1=>0 | n=>n⟩
theorem Tryz.laysM219:Go.Proofs.LaysM.n219 Tryz.prog Tryz.laysM219_ren:={
  mixed:=by kernel_rfl
  f217:=Tryz.func277.trans (congrArg some (by kernel_rfl))
  f219:=Tryz.func271.trans (congrArg some (by kernel_rfl))
  f224:=Tryz.func279.trans (congrArg some (by kernel_rfl))
  f225:=Tryz.func278.trans (congrArg some (by kernel_rfl))
  f266:=Tryz.func282.trans (congrArg some (by kernel_rfl))
  f267:=Tryz.func280.trans (congrArg some (by kernel_rfl))
  f314:=Tryz.func283.trans (congrArg some (by kernel_rfl))
  t3:=Tryz.underlying3
  a3:=Tryz.isAgg3
  z3:=Tryz.sizeOf3
  v3:=Tryz.zeroValue3
  t4:=Tryz.underlying4
  a4:=Tryz.isAgg4
  z4:=Tryz.sizeOf4
  v4:=Tryz.zeroValue4
  t5:=Tryz.underlying5
  a5:=Tryz.isAgg5
  z5:=Tryz.sizeOf5
  v5:=Tryz.zeroValue5
  t9:=Tryz.underlying9
  a9:=Tryz.isAgg9
  z9:=Tryz.sizeOf9
  v9:=Tryz.zeroValue9
  t46:=Tryz.underlying231
  a46:=Tryz.isAgg231
  z46:=Tryz.sizeOf231
  v46:=Tryz.zeroValue231
  t51:=Tryz.underlying283
  a51:=Tryz.isAgg283
  z51:=Tryz.sizeOf283
  v51:=Tryz.zeroValue283
  t146:=Tryz.underlying336
  a146:=Tryz.isAgg336
  z146:=Tryz.sizeOf336
  v146:=Tryz.zeroValue336
  g1:=by kernel_rfl
  i3:=by kernel_rfl
  i4:=by kernel_rfl
  i5:=by kernel_rfl
  i9:=by kernel_rfl
  i46:=by kernel_rfl
  i51:=by kernel_rfl
  i146:=by kernel_rfl
  m1:=by kernel_rfl
  s1_3:=fun w h=>Go.Proofs.cell_of_shapedOpen_int (zero:=#[.int .i64 0]) (t:=3) h (of_decide_eq_true (by kernel_rfl)) (by kernel_rfl) rfl (by kernel_rfl) (by kernel_rfl) Tryz.underlying3}
def Tryz.lays146_ren:Go.Shelf.Ren:=⟨fun | 146=>212 | 221=>234 | 268=>255 | 138=>256 | 143=>257 | 195=>268 | 197=>269 | 218=>270 | 219=>271 | 260=>276 | 217=>277 | 225=>278 | 224=>279 | 267=>280 | 266=>282 | 314=>283 | n=>n,fun | 9=>9 | 31=>167 | 3=>3 | 4=>4 | 0=>0 | 105=>323 | 21=>21 | 5=>5 | 46=>231 | 119=>332 | 139=>335 | 138=>334 | 146=>336 | 51=>283 | n=>n,fun | 1=>0 | 3=>4 | 4=>5 | n=>n⟩
theorem Tryz.lays146:Go.Proofs.Lays.n146 Tryz.prog Tryz.lays146_ren:={
  mixed:=by kernel_rfl
  f138:=Tryz.func256.trans (congrArg some (by kernel_rfl))
  f143:=Tryz.func257.trans (congrArg some (by kernel_rfl))
  f146:=Tryz.func212.trans (congrArg some (by kernel_rfl))
  f195:=Tryz.func268.trans (congrArg some (by kernel_rfl))
  f197:=Tryz.func269.trans (congrArg some (by kernel_rfl))
  f217:=Tryz.func277.trans (congrArg some (by kernel_rfl))
  f218:=Tryz.func270.trans (congrArg some (by kernel_rfl))
  f219:=Tryz.func271.trans (congrArg some (by kernel_rfl))
  f221:=Tryz.func234.trans (congrArg some (by kernel_rfl))
  f224:=Tryz.func279.trans (congrArg some (by kernel_rfl))
  f225:=Tryz.func278.trans (congrArg some (by kernel_rfl))
  f260:=Tryz.func276.trans (congrArg some (by kernel_rfl))
  f266:=Tryz.func282.trans (congrArg some (by kernel_rfl))
  f267:=Tryz.func280.trans (congrArg some (by kernel_rfl))
  f268:=Tryz.func255.trans (congrArg some (by kernel_rfl))
  f314:=Tryz.func283.trans (congrArg some (by kernel_rfl))
  t0:=Tryz.underlying0
  a0:=Tryz.isAgg0
  z0:=Tryz.sizeOf0
  v0:=Tryz.zeroValue0
  t3:=Tryz.underlying3
  a3:=Tryz.isAgg3
  z3:=Tryz.sizeOf3
  v3:=Tryz.zeroValue3
  t4:=Tryz.underlying4
  a4:=Tryz.isAgg4
  z4:=Tryz.sizeOf4
  v4:=Tryz.zeroValue4
  t5:=Tryz.underlying5
  a5:=Tryz.isAgg5
  z5:=Tryz.sizeOf5
  v5:=Tryz.zeroValue5
  t9:=Tryz.underlying9
  a9:=Tryz.isAgg9
  z9:=Tryz.sizeOf9
  v9:=Tryz.zeroValue9
  t21:=Tryz.underlying21
  a21:=Tryz.isAgg21
  z21:=Tryz.sizeOf21
  v21:=Tryz.zeroValue21
  t31:=Tryz.underlying167
  a31:=Tryz.isAgg167
  z31:=Tryz.sizeOf167
  v31:=Tryz.zeroValue167
  t46:=Tryz.underlying231
  a46:=Tryz.isAgg231
  z46:=Tryz.sizeOf231
  v46:=Tryz.zeroValue231
  t51:=Tryz.underlying283
  a51:=Tryz.isAgg283
  z51:=Tryz.sizeOf283
  v51:=Tryz.zeroValue283
  t105:=Tryz.underlying323
  a105:=Tryz.isAgg323
  z105:=Tryz.sizeOf323
  v105:=Tryz.zeroValue323
  t119:=Tryz.underlying332
  a119:=Tryz.isAgg332
  z119:=Tryz.sizeOf332
  t138:=Tryz.underlying334
  a138:=Tryz.isAgg334
  z138:=Tryz.sizeOf334
  v138:=Tryz.zeroValue334
  t139:=Tryz.underlying335
  a139:=Tryz.isAgg335
  z139:=Tryz.sizeOf335
  v139:=Tryz.zeroValue335
  t146:=Tryz.underlying336
  a146:=Tryz.isAgg336
  z146:=Tryz.sizeOf336
  v146:=Tryz.zeroValue336
  g1:=by kernel_rfl
  g3:=by kernel_rfl
  g4:=by kernel_rfl}
open Go.RowKit Go.Lib in
theorem Tryz.strings_Split(s sep : ByteArray)(m : Int)(w : World)(hs : s.size < 4294967281)(hm : w.cell? ⟨0, 0, none⟩ = some (.int .i64 m))(h1 : 1 ≤ sep.size) :
    Calls Tryz.prog 212 #[.string s,.string sep] w fun e w'=>
      e=.returned (.slice (some ⟨w.heap.size,0,none⟩) (Lib.countB s sep+1) (Lib.countB s sep+1))∧w'=w.alloc (.cells ((Lib.splitB sep 0 (Lib.countB s sep) s).map Value.string).toArray 9):=Any.strings_Split Tryz.lays146 (by kernel_rfl) s sep m w hs hm h1
def Tryz.cloneM_ren:Go.Shelf.Ren:=⟨fun | 5=>180 | 7=>216 | n=>n,fun | 23=>242 | 25=>247 | 3=>196 | 4=>4 | 20=>20 | n=>n,fun | n=>n⟩
theorem Tryz.cloneM:Go.Proofs.SlLaysW.n5 Tryz.prog Tryz.cloneM_ren:={
  mixed:=by kernel_rfl
  f5:=⟨Tryz.f180.name,by decide,Tryz.func180.trans (congrArg some (by kernel_rfl))⟩
  f7:=Tryz.func216.trans (congrArg some (by kernel_rfl))
  t4:=Tryz.underlying4
  a4:=Tryz.isAgg4
  z4:=Tryz.sizeOf4
  v4:=Tryz.zeroValue4
  t20:=Tryz.underlying20
  a20:=Tryz.isAgg20
  z20:=Tryz.sizeOf20
  v20:=Tryz.zeroValue20
  t23:=Tryz.underlying242
  a23:=Tryz.isAgg242
  z23:=Tryz.sizeOf242
  v23:=Tryz.zeroValue242}
end Go.Proofs
