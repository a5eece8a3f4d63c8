/-
  DERIVED: THE SHELF's CONTRACTS AT THIS DUMP, IN PLAIN WORDS (tools/lay-plain.mjs out of 'TryzShelf.lean', which tools/lay-shelf.mjs wrote): THE SAME DECLARATIONS UNDER THE SAME NAMES: 'import', 'namespace', 'open', 'def', 'theorem' AND NOTHING ELSE: no command of the shelf's: FOR A HAND-IN. Each laying: the table of numbers ('.._ren') and one theorem, a field a fact of the dump's own or the kernel's comparison; each contract: ONE APPLICATION.
-/
import Derived.Shelf.Strings.Builder1
import Derived.Shelf.Strings.Builder2
import Derived.Shelf.Strings.OnBuilder
import Derived.Shelf.Strings.Trim
import Derived.Shelf.Small.Utf8
import Derived.Shelf.Small.Bits
import Derived.Shelf.Small.Strs
import Derived.Shelf.Small.Wraps
import Derived.Shelf.Strings.BuilderF
import Derived.Shelf.Strings.BuilderK
import Derived.Shelf.Strconv.Itoa0
import Derived.Shelf.Strconv.Itoa1
import Derived.Shelf.LaysM
import Derived.Shelf.Strconv.Itoa2
import Derived.Shelf.Strconv.Itoa3
import Derived.Shelf.Strconv.Clone
import Derived.Shelf.Strings.Search1
import Derived.Shelf.Strings.Search2
import Derived.Shelf.Strings.Search3
import Derived.Shelf.Strings.Count
import Derived.Shelf.Strings.Prefix
import Derived.Shelf.Strings.Split
import Derived.Shelf.Strings.SplitShaped
import Derived.Ground.Names2Prog
import Derived.Shelf.Slices.Clone
import Derived.Shelf.SlGeneric
import Derived.Ground.SlsfProg
import Derived.Ground.SlgqProg
import Derived.Shelf.SlSortCmp.NoneTotal
import Derived.Shelf.SlicesQ.Equal
import Derived.Ground.SlmcProg
import Derived.Shelf.SlMaps.Clone
import Derived.Test.YtjhhodndlkpmhaaGreatDoorProg
namespace Go.Proofs
open Go.Shelf
def Tryz.lays169_ren:Go.Shelf.Ren:=⟨fun | 169=>112 | n=>n,fun | 70=>165 | 9=>9 | 0=>0 | 72=>167 | 37=>61 | 127=>209 | 3=>3 | 5=>5 | n=>n,fun | n=>n⟩
theorem Tryz.lays169:Go.Proofs.Lays.n169 Tryz.prog Tryz.lays169_ren:={
  mixed:=by kernel_rfl
  f169:=Tryz.func112.trans (congrArg some (by kernel_rfl))
  t0:=Tryz.underlying0
  a0:=Tryz.isAgg0
  z0:=Tryz.sizeOf0
  v0:=Tryz.zeroValue0
  t3:=Tryz.underlying3
  a3:=Tryz.isAgg3
  z3:=Tryz.sizeOf3
  v3:=Tryz.zeroValue3
  t9:=Tryz.underlying9
  a9:=Tryz.isAgg9
  z9:=Tryz.sizeOf9
  v9:=Tryz.zeroValue9
  t37:=Tryz.underlying61
  a37:=Tryz.isAgg61
  z37:=Tryz.sizeOf61
  v37:=Tryz.zeroValue61
  t70:=Tryz.underlying165
  a70:=Tryz.isAgg165
  z70:=Tryz.sizeOf165
  v70:=Tryz.zeroValue165
  t72:=Tryz.underlying167
  a72:=Tryz.isAgg167
  z72:=Tryz.sizeOf167
  v72:=Tryz.zeroValue167
  t127:=Tryz.underlying209
  a127:=Tryz.isAgg209
  z127:=Tryz.sizeOf209
  v127:=Tryz.zeroValue209}
theorem Tryz.Builder_Extra_169:Builder.Extra Tryz.prog Tryz.lays169_ren:={
  sizeBuilder:=by kernel_rfl
  liesBuilder:=by kernel_rfl
  t5:=Tryz.underlying5
  a5:=Tryz.isAgg5
  z5:=Tryz.sizeOf5
  v5:=Tryz.zeroValue5
  infoByte:=by kernel_rfl
  cellsByte:=by kernel_rfl
  sizeByte:=by kernel_rfl
  neB5:=by decide}
def Tryz.lays156_ren:Go.Shelf.Ren:=⟨fun | 156=>111 | 165=>147 | 166=>109 | 169=>112 | 240=>145 | 241=>174 | 276=>172 | 277=>201 | n=>n,fun | 31=>143 | 9=>9 | 3=>3 | 4=>4 | 0=>0 | 20=>20 | 72=>167 | 76=>170 | 70=>165 | 37=>61 | 75=>169 | 127=>209 | 164=>239 | 5=>5 | 80=>97 | n=>n,fun | n=>n⟩
theorem Tryz.lays156:Go.Proofs.Lays.n156 Tryz.prog Tryz.lays156_ren:={
  mixed:=by kernel_rfl
  f156:=Tryz.func111.trans (congrArg some (by kernel_rfl))
  f165:=Tryz.func147.trans (congrArg some (by kernel_rfl))
  f166:=Tryz.func109.trans (congrArg some (by kernel_rfl))
  f169:=Tryz.func112.trans (congrArg some (by kernel_rfl))
  f240:=Tryz.func145.trans (congrArg some (by kernel_rfl))
  f241:=Tryz.func174.trans (congrArg some (by kernel_rfl))
  f276:=Tryz.func172.trans (congrArg some (by kernel_rfl))
  f277:=Tryz.func201.trans (congrArg some (by kernel_rfl))
  t0:=Tryz.underlying0
  a0:=Tryz.isAgg0
  z0:=Tryz.sizeOf0
  v0:=Tryz.zeroValue0
  t3:=Tryz.underlying3
  a3:=Tryz.isAgg3
  z3:=Tryz.sizeOf3
  v3:=Tryz.zeroValue3
  t4:=Tryz.underlying4
  a4:=Tryz.isAgg4
  z4:=Tryz.sizeOf4
  v4:=Tryz.zeroValue4
  t9:=Tryz.underlying9
  a9:=Tryz.isAgg9
  z9:=Tryz.sizeOf9
  v9:=Tryz.zeroValue9
  t20:=Tryz.underlying20
  a20:=Tryz.isAgg20
  z20:=Tryz.sizeOf20
  v20:=Tryz.zeroValue20
  t31:=Tryz.underlying143
  a31:=Tryz.isAgg143
  z31:=Tryz.sizeOf143
  v31:=Tryz.zeroValue143
  t37:=Tryz.underlying61
  a37:=Tryz.isAgg61
  z37:=Tryz.sizeOf61
  v37:=Tryz.zeroValue61
  t70:=Tryz.underlying165
  a70:=Tryz.isAgg165
  z70:=Tryz.sizeOf165
  v70:=Tryz.zeroValue165
  t72:=Tryz.underlying167
  a72:=Tryz.isAgg167
  z72:=Tryz.sizeOf167
  v72:=Tryz.zeroValue167
  t75:=Tryz.underlying169
  a75:=Tryz.isAgg169
  z75:=Tryz.sizeOf169
  v75:=Tryz.zeroValue169
  t76:=Tryz.underlying170
  a76:=Tryz.isAgg170
  z76:=Tryz.sizeOf170
  v76:=Tryz.zeroValue170
  t127:=Tryz.underlying209
  a127:=Tryz.isAgg209
  z127:=Tryz.sizeOf209
  v127:=Tryz.zeroValue209
  t164:=Tryz.underlying239
  a164:=Tryz.isAgg239
  z164:=Tryz.sizeOf239
  v164:=Tryz.zeroValue239}
theorem Tryz.Builder_Extra_156:Builder.Extra Tryz.prog Tryz.lays156_ren:={
  sizeBuilder:=by kernel_rfl
  liesBuilder:=by kernel_rfl
  t5:=Tryz.underlying5
  a5:=Tryz.isAgg5
  z5:=Tryz.sizeOf5
  v5:=Tryz.zeroValue5
  infoByte:=by kernel_rfl
  cellsByte:=by kernel_rfl
  sizeByte:=by kernel_rfl
  neB5:=by decide}
open Go.RowKit in
theorem Tryz.strings_Join(bk o c : Nat)(xs : List ByteArray)(sep : ByteArray)(w : World)(hcells : ∀ (j : Nat) x, xs[j]? = some x → w.cell? ⟨bk, o + j, none⟩ = some (.string x))(hbk : bk < w.heap.size)(hN : xs.length ≤ 140737488355328)(hcap : xs.length ≤ c)(hlen : (Lib.join (xs.map (·.data.toList)) sep.data.toList).length ≤ 140737488355328) :
    Calls Tryz.prog 111 #[.slice (some ⟨bk,o,none⟩) xs.length c,.string sep] w fun e w'=>e=.returned (.string ⟨(Lib.join (xs.map (·.data.toList)) sep.data.toList).toArray⟩)∧Below w.heap.size w w':=Any.strings_Join Tryz.lays156 Tryz.Builder_Extra_156 bk o c xs sep w hcells hbk hN hcap hlen
def Tryz.lays160_ren:Go.Shelf.Ren:=⟨fun | 160=>170 | 232=>194 | 231=>193 | 227=>195 | 234=>197 | 233=>196 | 236=>199 | 235=>198 | 228=>211 | 271=>214 | 151=>213 | 197=>212 | 120=>226 | 152=>225 | 260=>224 | 137=>236 | 119=>237 | 224=>233 | 225=>232 | 217=>231 | 266=>240 | n=>n,fun | 9=>9 | 4=>4 | 3=>3 | 5=>5 | 117=>257 | 116=>256 | 0=>0 | 124=>260 | 21=>21 | 105=>271 | 46=>175 | 119=>288 | 139=>291 | 138=>290 | n=>n,fun | 3=>2 | 4=>3 | n=>n⟩
theorem Tryz.lays160:Go.Proofs.Lays.n160 Tryz.prog Tryz.lays160_ren:={
  mixed:=by kernel_rfl
  f119:=Tryz.func237.trans (congrArg some (by kernel_rfl))
  f120:=Tryz.func226.trans (congrArg some (by kernel_rfl))
  f137:=Tryz.func236.trans (congrArg some (by kernel_rfl))
  f151:=Tryz.func213.trans (congrArg some (by kernel_rfl))
  f152:=Tryz.func225.trans (congrArg some (by kernel_rfl))
  f160:=Tryz.func170.trans (congrArg some (by kernel_rfl))
  f197:=Tryz.func212.trans (congrArg some (by kernel_rfl))
  f217:=Tryz.func231.trans (congrArg some (by kernel_rfl))
  f224:=Tryz.func233.trans (congrArg some (by kernel_rfl))
  f225:=Tryz.func232.trans (congrArg some (by kernel_rfl))
  f227:=Tryz.func195.trans (congrArg some (by kernel_rfl))
  f228:=Tryz.func211.trans (congrArg some (by kernel_rfl))
  f231:=Tryz.func193.trans (congrArg some (by kernel_rfl))
  f232:=Tryz.func194.trans (congrArg some (by kernel_rfl))
  f233:=Tryz.func196.trans (congrArg some (by kernel_rfl))
  f234:=Tryz.func197.trans (congrArg some (by kernel_rfl))
  f235:=Tryz.func198.trans (congrArg some (by kernel_rfl))
  f236:=Tryz.func199.trans (congrArg some (by kernel_rfl))
  f260:=Tryz.func224.trans (congrArg some (by kernel_rfl))
  f266:=Tryz.func240.trans (congrArg some (by kernel_rfl))
  f271:=Tryz.func214.trans (congrArg some (by kernel_rfl))
  t0:=Tryz.underlying0
  a0:=Tryz.isAgg0
  z0:=Tryz.sizeOf0
  v0:=Tryz.zeroValue0
  t3:=Tryz.underlying3
  a3:=Tryz.isAgg3
  z3:=Tryz.sizeOf3
  v3:=Tryz.zeroValue3
  t4:=Tryz.underlying4
  a4:=Tryz.isAgg4
  z4:=Tryz.sizeOf4
  v4:=Tryz.zeroValue4
  t5:=Tryz.underlying5
  a5:=Tryz.isAgg5
  z5:=Tryz.sizeOf5
  v5:=Tryz.zeroValue5
  t9:=Tryz.underlying9
  a9:=Tryz.isAgg9
  z9:=Tryz.sizeOf9
  v9:=Tryz.zeroValue9
  t21:=Tryz.underlying21
  a21:=Tryz.isAgg21
  z21:=Tryz.sizeOf21
  v21:=Tryz.zeroValue21
  t46:=Tryz.underlying175
  a46:=Tryz.isAgg175
  z46:=Tryz.sizeOf175
  v46:=Tryz.zeroValue175
  t105:=Tryz.underlying271
  a105:=Tryz.isAgg271
  z105:=Tryz.sizeOf271
  v105:=Tryz.zeroValue271
  t116:=Tryz.underlying256
  a116:=Tryz.isAgg256
  z116:=Tryz.sizeOf256
  t117:=Tryz.underlying257
  a117:=Tryz.isAgg257
  z117:=Tryz.sizeOf257
  v117:=Tryz.zeroValue257
  t119:=Tryz.underlying288
  a119:=Tryz.isAgg288
  z119:=Tryz.sizeOf288
  t124:=Tryz.underlying260
  a124:=Tryz.isAgg260
  z124:=Tryz.sizeOf260
  v124:=Tryz.zeroValue260
  t138:=Tryz.underlying290
  a138:=Tryz.isAgg290
  z138:=Tryz.sizeOf290
  v138:=Tryz.zeroValue290
  t139:=Tryz.underlying291
  a139:=Tryz.isAgg291
  z139:=Tryz.sizeOf291
  v139:=Tryz.zeroValue291
  g3:=by kernel_rfl
  g4:=by kernel_rfl}
open Go.RowKit in
theorem Tryz.strings_Trim_one(s : ByteArray)(c : UInt8)(hc : c.toNat < 128)(w : World)(hs : s.size ≤ 9223372036854775807) :
    Calls Tryz.prog 170 #[.string s,.string ⟨#[c]⟩] w fun e w'=>e=.returned (.string ⟨(Lib.trimB s.data.toList c).toArray⟩)∧(w'=w∨w'=w.drew):=Any.strings_Trim_one Tryz.lays160 s c hc w hs
def Tryz.lays103_ren:Go.Shelf.Ren:=⟨fun | 103=>210 | 210=>223 | 206=>235 | n=>n,fun | 9=>9 | 4=>4 | 24=>269 | 3=>3 | n=>n,fun | n=>n⟩
theorem Tryz.lays103:Go.Proofs.Lays.n103 Tryz.prog Tryz.lays103_ren:={
  mixed:=by kernel_rfl
  f103:=Tryz.func210.trans (congrArg some (by kernel_rfl))
  f206:=Tryz.func235.trans (congrArg some (by kernel_rfl))
  f210:=Tryz.func223.trans (congrArg some (by kernel_rfl))
  t3:=Tryz.underlying3
  a3:=Tryz.isAgg3
  z3:=Tryz.sizeOf3
  v3:=Tryz.zeroValue3
  t4:=Tryz.underlying4
  a4:=Tryz.isAgg4
  z4:=Tryz.sizeOf4
  v4:=Tryz.zeroValue4
  t9:=Tryz.underlying9
  a9:=Tryz.isAgg9
  z9:=Tryz.sizeOf9
  v9:=Tryz.zeroValue9
  t24:=Tryz.underlying269
  a24:=Tryz.isAgg269
  z24:=Tryz.sizeOf269
  v24:=Tryz.zeroValue269}
open Go.RowKit in
theorem Tryz.strings_CutPrefix(s p : ByteArray)(w : World) :
    Calls Tryz.prog 210 #[.string s,.string p] w fun e w'=>e=.returned (.tuple #[.string ⟨(Lib.trimPrefix s.data.toList p.data.toList).toArray⟩,.bool (Lib.hasPrefix s.data.toList p.data.toList)])∧w'=w:=Any.strings_CutPrefix Tryz.lays103 s p w
open Go.RowKit in
theorem Tryz.Builder_String_f(B b : Nat)(l : List UInt8)(w : World)(h : Lib.IsBuilderF 167 5 B b (Lib.byteCells l) w)(h0 : l ≠ []) :
    Calls Tryz.prog 112 #[.pointer (some ⟨b,0,none⟩)] w fun e w'=>e=.returned (.string ⟨l.toArray⟩)∧(Lib.IsBuilderF 167 5 B b (Lib.byteCells l) w'∧Below B w w'):=Any.Builder_String_f Tryz.lays169 Tryz.Builder_Extra_169 B b l w h h0
def Tryz.laysM171_ren:Go.Shelf.Ren:=⟨fun | 171=>146 | 243=>173 | 246=>200 | 283=>215 | 284=>216 | 285=>217 | 286=>218 | 129=>184 | 317=>227 | 318=>228 | 319=>229 | 320=>230 | 337=>238 | 338=>239 | n=>n,fun | 3=>3 | 9=>9 | 2=>2 | 4=>4 | 171=>274 | 0=>0 | 53=>48 | 37=>61 | 5=>5 | 173=>276 | 212=>285 | 51=>40 | 20=>20 | 213=>286 | 46=>175 | 232=>295 | 233=>296 | n=>n,fun | 17=>1 | 18=>4 | 19=>5 | n=>n⟩
theorem Tryz.laysM171:Go.Proofs.LaysM.n171 Tryz.prog Tryz.laysM171_ren:={
  mixed:=by kernel_rfl
  f129:=Tryz.func184.trans (congrArg some (by kernel_rfl))
  f171:=Tryz.func146.trans (congrArg some (by kernel_rfl))
  f243:=Tryz.func173.trans (congrArg some (by kernel_rfl))
  f246:=Tryz.func200.trans (congrArg some (by kernel_rfl))
  f283:=Tryz.func215.trans (congrArg some (by kernel_rfl))
  f284:=Tryz.func216.trans (congrArg some (by kernel_rfl))
  f285:=Tryz.func217.trans (congrArg some (by kernel_rfl))
  f286:=Tryz.func218.trans (congrArg some (by kernel_rfl))
  f317:=Tryz.func227.trans (congrArg some (by kernel_rfl))
  f318:=Tryz.func228.trans (congrArg some (by kernel_rfl))
  f319:=Tryz.func229.trans (congrArg some (by kernel_rfl))
  f320:=Tryz.func230.trans (congrArg some (by kernel_rfl))
  f337:=Tryz.func238.trans (congrArg some (by kernel_rfl))
  f338:=Tryz.func239.trans (congrArg some (by kernel_rfl))
  t0:=Tryz.underlying0
  a0:=Tryz.isAgg0
  z0:=Tryz.sizeOf0
  v0:=Tryz.zeroValue0
  t2:=Tryz.underlying2
  a2:=Tryz.isAgg2
  z2:=Tryz.sizeOf2
  v2:=Tryz.zeroValue2
  t3:=Tryz.underlying3
  a3:=Tryz.isAgg3
  z3:=Tryz.sizeOf3
  v3:=Tryz.zeroValue3
  t4:=Tryz.underlying4
  a4:=Tryz.isAgg4
  z4:=Tryz.sizeOf4
  v4:=Tryz.zeroValue4
  t5:=Tryz.underlying5
  a5:=Tryz.isAgg5
  z5:=Tryz.sizeOf5
  v5:=Tryz.zeroValue5
  t9:=Tryz.underlying9
  a9:=Tryz.isAgg9
  z9:=Tryz.sizeOf9
  v9:=Tryz.zeroValue9
  t20:=Tryz.underlying20
  a20:=Tryz.isAgg20
  z20:=Tryz.sizeOf20
  v20:=Tryz.zeroValue20
  t37:=Tryz.underlying61
  a37:=Tryz.isAgg61
  z37:=Tryz.sizeOf61
  v37:=Tryz.zeroValue61
  t46:=Tryz.underlying175
  a46:=Tryz.isAgg175
  z46:=Tryz.sizeOf175
  v46:=Tryz.zeroValue175
  t51:=Tryz.underlying40
  a51:=Tryz.isAgg40
  z51:=Tryz.sizeOf40
  v51:=Tryz.zeroValue40
  t53:=Tryz.underlying48
  a53:=Tryz.isAgg48
  z53:=Tryz.sizeOf48
  v53:=Tryz.zeroValue48
  t171:=Tryz.underlying274
  a171:=Tryz.isAgg274
  z171:=Tryz.sizeOf274
  v171:=Tryz.zeroValue274
  t173:=Tryz.underlying276
  a173:=Tryz.isAgg276
  z173:=Tryz.sizeOf276
  v173:=Tryz.zeroValue276
  t212:=Tryz.underlying285
  a212:=Tryz.isAgg285
  z212:=Tryz.sizeOf285
  v212:=Tryz.zeroValue285
  t213:=Tryz.underlying286
  a213:=Tryz.isAgg286
  z213:=Tryz.sizeOf286
  t232:=Tryz.underlying295
  a232:=Tryz.isAgg295
  z232:=Tryz.sizeOf295
  v232:=Tryz.zeroValue295
  t233:=Tryz.underlying296
  a233:=Tryz.isAgg296
  z233:=Tryz.sizeOf296
  v233:=Tryz.zeroValue296
  g17:=by kernel_rfl
  g18:=by kernel_rfl
  g19:=by kernel_rfl
  i0:=by kernel_rfl
  i2:=by kernel_rfl
  i3:=by kernel_rfl
  i4:=by kernel_rfl
  i5:=by kernel_rfl
  i9:=by kernel_rfl
  i20:=by kernel_rfl
  i37:=by kernel_rfl
  i46:=by kernel_rfl
  i51:=by kernel_rfl
  i53:=by kernel_rfl
  i171:=by kernel_rfl
  i173:=by kernel_rfl
  i212:=by kernel_rfl
  i232:=by kernel_rfl
  i233:=by kernel_rfl
  m17:=by kernel_rfl
  m18:=by kernel_rfl
  m19:=by kernel_rfl}
open Go.RowKit Go.Sort Go.Lib in
theorem Tryz.strconv_Itoa(n : Int)(h0 : -9223372036854775808 ≤ n)(h1 : n ≤ 9223372036854775807)(w : World)(htab : Lib.TabIs Tryz.prog w "internal/strconv.uint64pow10" .u64 Lib.pow10Tab) :
    Calls Tryz.prog 146 #[.int .i64 n] w fun e w'=>e=.returned (.string ⟨(Lib.itoa n).toArray⟩)∧∃ k os,w'=grow (w.drewN k) os:=Any.strconv_Itoa Tryz.laysM171 n h0 h1 w htab
def Tryz.laysM316_ren:Go.Shelf.Ren:=⟨fun | 316=>95 | n=>n,fun | 9=>9 | 3=>3 | 4=>4 | 37=>61 | 0=>0 | 127=>209 | 5=>5 | n=>n,fun | n=>n⟩
theorem Tryz.laysM316:Go.Proofs.LaysM.n316 Tryz.prog Tryz.laysM316_ren:={
  mixed:=by kernel_rfl
  f316:=Tryz.func95.trans (congrArg some (by kernel_rfl))
  t0:=Tryz.underlying0
  a0:=Tryz.isAgg0
  z0:=Tryz.sizeOf0
  v0:=Tryz.zeroValue0
  t3:=Tryz.underlying3
  a3:=Tryz.isAgg3
  z3:=Tryz.sizeOf3
  v3:=Tryz.zeroValue3
  t4:=Tryz.underlying4
  a4:=Tryz.isAgg4
  z4:=Tryz.sizeOf4
  v4:=Tryz.zeroValue4
  t9:=Tryz.underlying9
  a9:=Tryz.isAgg9
  z9:=Tryz.sizeOf9
  v9:=Tryz.zeroValue9
  t37:=Tryz.underlying61
  a37:=Tryz.isAgg61
  z37:=Tryz.sizeOf61
  v37:=Tryz.zeroValue61
  t127:=Tryz.underlying209
  a127:=Tryz.isAgg209
  z127:=Tryz.sizeOf209
  v127:=Tryz.zeroValue209
  t5:=Tryz.underlying5
  a5:=Tryz.isAgg5
  z5:=Tryz.sizeOf5
  v5:=Tryz.zeroValue5
  i0:=by kernel_rfl
  i3:=by kernel_rfl
  i4:=by kernel_rfl
  i5:=by kernel_rfl
  i9:=by kernel_rfl
  i37:=by kernel_rfl
  i127:=by kernel_rfl}
open Go.RowKit in
theorem Tryz.stringslite_Clone(s : ByteArray)(w : World)(hlim : s.size ≤ 281474976710656) :
    Calls Tryz.prog 95 #[.string s] w fun e w'=>e=.returned (.string s)∧Below w.heap.size w w':=Any.stringslite_Clone Tryz.laysM316 s w hlim
def Tryz.lays146_ren:Go.Shelf.Ren:=⟨fun | 146=>156 | 221=>187 | 268=>207 | 138=>208 | 143=>209 | 195=>220 | 197=>212 | 218=>221 | 219=>222 | 260=>224 | 217=>231 | 225=>232 | 224=>233 | 267=>234 | 266=>240 | 314=>241 | n=>n,fun | 9=>9 | 31=>143 | 3=>3 | 4=>4 | 0=>0 | 105=>271 | 21=>21 | 5=>5 | 46=>175 | 119=>288 | 139=>291 | 138=>290 | 146=>293 | 51=>40 | n=>n,fun | 1=>0 | 3=>2 | 4=>3 | n=>n⟩
theorem Tryz.lays146:Go.Proofs.Lays.n146 Tryz.prog Tryz.lays146_ren:={
  mixed:=by kernel_rfl
  f138:=Tryz.func208.trans (congrArg some (by kernel_rfl))
  f143:=Tryz.func209.trans (congrArg some (by kernel_rfl))
  f146:=Tryz.func156.trans (congrArg some (by kernel_rfl))
  f195:=Tryz.func220.trans (congrArg some (by kernel_rfl))
  f197:=Tryz.func212.trans (congrArg some (by kernel_rfl))
  f217:=Tryz.func231.trans (congrArg some (by kernel_rfl))
  f218:=Tryz.func221.trans (congrArg some (by kernel_rfl))
  f219:=Tryz.func222.trans (congrArg some (by kernel_rfl))
  f221:=Tryz.func187.trans (congrArg some (by kernel_rfl))
  f224:=Tryz.func233.trans (congrArg some (by kernel_rfl))
  f225:=Tryz.func232.trans (congrArg some (by kernel_rfl))
  f260:=Tryz.func224.trans (congrArg some (by kernel_rfl))
  f266:=Tryz.func240.trans (congrArg some (by kernel_rfl))
  f267:=Tryz.func234.trans (congrArg some (by kernel_rfl))
  f268:=Tryz.func207.trans (congrArg some (by kernel_rfl))
  f314:=Tryz.func241.trans (congrArg some (by kernel_rfl))
  t0:=Tryz.underlying0
  a0:=Tryz.isAgg0
  z0:=Tryz.sizeOf0
  v0:=Tryz.zeroValue0
  t3:=Tryz.underlying3
  a3:=Tryz.isAgg3
  z3:=Tryz.sizeOf3
  v3:=Tryz.zeroValue3
  t4:=Tryz.underlying4
  a4:=Tryz.isAgg4
  z4:=Tryz.sizeOf4
  v4:=Tryz.zeroValue4
  t5:=Tryz.underlying5
  a5:=Tryz.isAgg5
  z5:=Tryz.sizeOf5
  v5:=Tryz.zeroValue5
  t9:=Tryz.underlying9
  a9:=Tryz.isAgg9
  z9:=Tryz.sizeOf9
  v9:=Tryz.zeroValue9
  t21:=Tryz.underlying21
  a21:=Tryz.isAgg21
  z21:=Tryz.sizeOf21
  v21:=Tryz.zeroValue21
  t31:=Tryz.underlying143
  a31:=Tryz.isAgg143
  z31:=Tryz.sizeOf143
  v31:=Tryz.zeroValue143
  t46:=Tryz.underlying175
  a46:=Tryz.isAgg175
  z46:=Tryz.sizeOf175
  v46:=Tryz.zeroValue175
  t51:=Tryz.underlying40
  a51:=Tryz.isAgg40
  z51:=Tryz.sizeOf40
  v51:=Tryz.zeroValue40
  t105:=Tryz.underlying271
  a105:=Tryz.isAgg271
  z105:=Tryz.sizeOf271
  v105:=Tryz.zeroValue271
  t119:=Tryz.underlying288
  a119:=Tryz.isAgg288
  z119:=Tryz.sizeOf288
  t138:=Tryz.underlying290
  a138:=Tryz.isAgg290
  z138:=Tryz.sizeOf290
  v138:=Tryz.zeroValue290
  t139:=Tryz.underlying291
  a139:=Tryz.isAgg291
  z139:=Tryz.sizeOf291
  v139:=Tryz.zeroValue291
  t146:=Tryz.underlying293
  a146:=Tryz.isAgg293
  z146:=Tryz.sizeOf293
  v146:=Tryz.zeroValue293
  g1:=by kernel_rfl
  g3:=by kernel_rfl
  g4:=by kernel_rfl}
open Go.RowKit Go.Lib in
theorem Tryz.strings_Split(s sep : ByteArray)(m : Int)(w : World)(hs : s.size < 4294967281)(hm : w.cell? ⟨0, 0, none⟩ = some (.int .i64 m))(h1 : 1 ≤ sep.size) :
    Calls Tryz.prog 156 #[.string s,.string sep] w fun e w'=>
      e=.returned (.slice (some ⟨w.heap.size,0,none⟩) (Lib.countB s sep+1) (Lib.countB s sep+1))∧w'=w.alloc (.cells ((Lib.splitB sep 0 (Lib.countB s sep) s).map Value.string).toArray 9):=Any.strings_Split Tryz.lays146 (by kernel_rfl) s sep m w hs hm h1
def Tryz.laysM146_ren:Go.Shelf.Ren:=⟨fun | 146=>156 | 221=>187 | 268=>207 | 138=>208 | 143=>209 | 195=>220 | 197=>212 | 218=>221 | 219=>222 | 260=>224 | 217=>231 | 225=>232 | 224=>233 | 267=>234 | 266=>240 | 314=>241 | n=>n,fun | 9=>9 | 31=>143 | 3=>3 | 4=>4 | 0=>0 | 105=>271 | 21=>21 | 5=>5 | 46=>175 | 119=>288 | 139=>291 | 138=>290 | 146=>293 | 51=>40 | n=>n,fun | 1=>0 | 3=>2 | 4=>3 | n=>n⟩
theorem Tryz.laysM146:Go.Proofs.LaysM.n146 Tryz.prog Tryz.laysM146_ren:={
  mixed:=by kernel_rfl
  f138:=Tryz.func208.trans (congrArg some (by kernel_rfl))
  f143:=Tryz.func209.trans (congrArg some (by kernel_rfl))
  f146:=Tryz.func156.trans (congrArg some (by kernel_rfl))
  f195:=Tryz.func220.trans (congrArg some (by kernel_rfl))
  f197:=Tryz.func212.trans (congrArg some (by kernel_rfl))
  f217:=Tryz.func231.trans (congrArg some (by kernel_rfl))
  f218:=Tryz.func221.trans (congrArg some (by kernel_rfl))
  f219:=Tryz.func222.trans (congrArg some (by kernel_rfl))
  f221:=Tryz.func187.trans (congrArg some (by kernel_rfl))
  f224:=Tryz.func233.trans (congrArg some (by kernel_rfl))
  f225:=Tryz.func232.trans (congrArg some (by kernel_rfl))
  f260:=Tryz.func224.trans (congrArg some (by kernel_rfl))
  f266:=Tryz.func240.trans (congrArg some (by kernel_rfl))
  f267:=Tryz.func234.trans (congrArg some (by kernel_rfl))
  f268:=Tryz.func207.trans (congrArg some (by kernel_rfl))
  f314:=Tryz.func241.trans (congrArg some (by kernel_rfl))
  t0:=Tryz.underlying0
  a0:=Tryz.isAgg0
  z0:=Tryz.sizeOf0
  v0:=Tryz.zeroValue0
  t3:=Tryz.underlying3
  a3:=Tryz.isAgg3
  z3:=Tryz.sizeOf3
  v3:=Tryz.zeroValue3
  t4:=Tryz.underlying4
  a4:=Tryz.isAgg4
  z4:=Tryz.sizeOf4
  v4:=Tryz.zeroValue4
  t5:=Tryz.underlying5
  a5:=Tryz.isAgg5
  z5:=Tryz.sizeOf5
  v5:=Tryz.zeroValue5
  t9:=Tryz.underlying9
  a9:=Tryz.isAgg9
  z9:=Tryz.sizeOf9
  v9:=Tryz.zeroValue9
  t21:=Tryz.underlying21
  a21:=Tryz.isAgg21
  z21:=Tryz.sizeOf21
  v21:=Tryz.zeroValue21
  t31:=Tryz.underlying143
  a31:=Tryz.isAgg143
  z31:=Tryz.sizeOf143
  v31:=Tryz.zeroValue143
  t46:=Tryz.underlying175
  a46:=Tryz.isAgg175
  z46:=Tryz.sizeOf175
  v46:=Tryz.zeroValue175
  t51:=Tryz.underlying40
  a51:=Tryz.isAgg40
  z51:=Tryz.sizeOf40
  v51:=Tryz.zeroValue40
  t105:=Tryz.underlying271
  a105:=Tryz.isAgg271
  z105:=Tryz.sizeOf271
  v105:=Tryz.zeroValue271
  t119:=Tryz.underlying288
  a119:=Tryz.isAgg288
  z119:=Tryz.sizeOf288
  t138:=Tryz.underlying290
  a138:=Tryz.isAgg290
  z138:=Tryz.sizeOf290
  v138:=Tryz.zeroValue290
  t139:=Tryz.underlying291
  a139:=Tryz.isAgg291
  z139:=Tryz.sizeOf291
  v139:=Tryz.zeroValue291
  t146:=Tryz.underlying293
  a146:=Tryz.isAgg293
  z146:=Tryz.sizeOf293
  v146:=Tryz.zeroValue293
  g1:=by kernel_rfl
  g3:=by kernel_rfl
  g4:=by kernel_rfl
  i0:=by kernel_rfl
  i3:=by kernel_rfl
  i4:=by kernel_rfl
  i5:=by kernel_rfl
  i9:=by kernel_rfl
  i21:=by kernel_rfl
  i31:=by kernel_rfl
  i46:=by kernel_rfl
  i51:=by kernel_rfl
  i105:=by kernel_rfl
  i138:=by kernel_rfl
  i139:=by kernel_rfl
  i146:=by kernel_rfl
  m1:=by kernel_rfl
  s1_3:=fun w h=>Go.Proofs.cell_of_shapedOpen_int (zero:=#[.int .i64 0]) (t:=3) h (of_decide_eq_true (by kernel_rfl)) (by kernel_rfl) rfl (by kernel_rfl) (by kernel_rfl) Tryz.underlying3
  m3:=by kernel_rfl
  m4:=by kernel_rfl}
def Tryz.srtR_ren:Go.Shelf.Ren:=⟨fun | 6=>114 | 15=>149 | 14=>148 | 28=>183 | 29=>184 | 20=>175 | 21=>176 | 22=>177 | 23=>178 | 24=>179 | 25=>180 | 26=>181 | 27=>182 | 46=>202 | 47=>203 | 48=>204 | 49=>205 | 50=>206 | 57=>219 | n=>n,fun | 22=>71 | 24=>127 | 25=>182 | 3=>3 | 39=>175 | 0=>0 | 53=>40 | 55=>48 | 4=>4 | 46=>243 | 45=>242 | 50=>138 | 5=>5 | 9=>9 | 66=>263 | 70=>266 | 76=>278 | 77=>279 | n=>n,fun | n=>n⟩
theorem Tryz.srtR:Go.Proofs.SlLaysF0.n6 Tryz.prog Tryz.srtR_ren:={
  mixed:=by kernel_rfl
  f6:=⟨Tryz.f114.name,by decide,Tryz.func114.trans (congrArg some (by kernel_rfl))⟩
  f14:=⟨Tryz.f148.name,by decide,Tryz.func148.trans (congrArg some (by kernel_rfl))⟩
  f15:=Tryz.func149.trans (congrArg some (by kernel_rfl))
  f20:=⟨Tryz.f175.name,by decide,Tryz.func175.trans (congrArg some (by kernel_rfl))⟩
  f21:=⟨Tryz.f176.name,by decide,Tryz.func176.trans (congrArg some (by kernel_rfl))⟩
  f22:=⟨Tryz.f177.name,by decide,Tryz.func177.trans (congrArg some (by kernel_rfl))⟩
  f23:=⟨Tryz.f178.name,by decide,Tryz.func178.trans (congrArg some (by kernel_rfl))⟩
  f24:=⟨Tryz.f179.name,by decide,Tryz.func179.trans (congrArg some (by kernel_rfl))⟩
  f25:=⟨Tryz.f180.name,by decide,Tryz.func180.trans (congrArg some (by kernel_rfl))⟩
  f26:=⟨Tryz.f181.name,by decide,Tryz.func181.trans (congrArg some (by kernel_rfl))⟩
  f27:=⟨Tryz.f182.name,by decide,Tryz.func182.trans (congrArg some (by kernel_rfl))⟩
  f28:=Tryz.func183.trans (congrArg some (by kernel_rfl))
  f29:=Tryz.func184.trans (congrArg some (by kernel_rfl))
  f46:=⟨Tryz.f202.name,by decide,Tryz.func202.trans (congrArg some (by kernel_rfl))⟩
  f47:=Tryz.func203.trans (congrArg some (by kernel_rfl))
  f48:=Tryz.func204.trans (congrArg some (by kernel_rfl))
  f49:=⟨Tryz.f205.name,by decide,Tryz.func205.trans (congrArg some (by kernel_rfl))⟩
  f50:=⟨Tryz.f206.name,by decide,Tryz.func206.trans (congrArg some (by kernel_rfl))⟩
  f57:=⟨Tryz.f219.name,by decide,Tryz.func219.trans (congrArg some (by kernel_rfl))⟩
  t0:=Tryz.underlying0
  a0:=Tryz.isAgg0
  z0:=Tryz.sizeOf0
  v0:=Tryz.zeroValue0
  t3:=Tryz.underlying3
  a3:=Tryz.isAgg3
  z3:=Tryz.sizeOf3
  v3:=Tryz.zeroValue3
  t4:=Tryz.underlying4
  a4:=Tryz.isAgg4
  z4:=Tryz.sizeOf4
  v4:=Tryz.zeroValue4
  t5:=Tryz.underlying5
  a5:=Tryz.isAgg5
  z5:=Tryz.sizeOf5
  v5:=Tryz.zeroValue5
  t9:=Tryz.underlying9
  a9:=Tryz.isAgg9
  z9:=Tryz.sizeOf9
  v9:=Tryz.zeroValue9
  t22:=Tryz.underlying71
  a22:=Tryz.isAgg71
  z22:=Tryz.sizeOf71
  v22:=Tryz.zeroValue71
  t25:=Tryz.underlying182
  a25:=Tryz.isAgg182
  z25:=Tryz.sizeOf182
  v25:=Tryz.zeroValue182
  t39:=Tryz.underlying175
  a39:=Tryz.isAgg175
  z39:=Tryz.sizeOf175
  v39:=Tryz.zeroValue175
  t45:=Tryz.underlying242
  a45:=Tryz.isAgg242
  z45:=Tryz.sizeOf242
  v45:=Tryz.zeroValue242
  t46:=Tryz.underlying243
  a46:=Tryz.isAgg243
  z46:=Tryz.sizeOf243
  v46:=Tryz.zeroValue243
  t50:=Tryz.underlying138
  a50:=Tryz.isAgg138
  z50:=Tryz.sizeOf138
  v50:=Tryz.zeroValue138
  t53:=Tryz.underlying40
  a53:=Tryz.isAgg40
  z53:=Tryz.sizeOf40
  v53:=Tryz.zeroValue40
  t55:=Tryz.underlying48
  a55:=Tryz.isAgg48
  z55:=Tryz.sizeOf48
  v55:=Tryz.zeroValue48
  t66:=Tryz.underlying263
  a66:=Tryz.isAgg263
  z66:=Tryz.sizeOf263
  v66:=Tryz.zeroValue263
  t70:=Tryz.underlying266
  a70:=Tryz.isAgg266
  z70:=Tryz.sizeOf266
  v70:=Tryz.zeroValue266
  t76:=Tryz.underlying278
  a76:=Tryz.isAgg278
  z76:=Tryz.sizeOf278
  v76:=Tryz.zeroValue278
  t77:=Tryz.underlying279
  a77:=Tryz.isAgg279
  z77:=Tryz.sizeOf279
  v77:=Tryz.zeroValue279}
def Tryz.cloneM_ren:Go.Shelf.Ren:=⟨fun | 5=>135 | 7=>168 | n=>n,fun | 23=>176 | 25=>180 | 3=>125 | 4=>4 | 20=>20 | n=>n,fun | n=>n⟩
theorem Tryz.cloneM:Go.Proofs.SlLaysW.n5 Tryz.prog Tryz.cloneM_ren:={
  mixed:=by kernel_rfl
  f5:=⟨Tryz.f135.name,by decide,Tryz.func135.trans (congrArg some (by kernel_rfl))⟩
  f7:=Tryz.func168.trans (congrArg some (by kernel_rfl))
  t4:=Tryz.underlying4
  a4:=Tryz.isAgg4
  z4:=Tryz.sizeOf4
  v4:=Tryz.zeroValue4
  t20:=Tryz.underlying20
  a20:=Tryz.isAgg20
  z20:=Tryz.sizeOf20
  v20:=Tryz.zeroValue20
  t23:=Tryz.underlying176
  a23:=Tryz.isAgg176
  z23:=Tryz.sizeOf176
  v23:=Tryz.zeroValue176}
end Go.Proofs
