/-
  DERIVED: THE SHELF's CONTRACTS AT THIS DUMP, IN PLAIN WORDS (tools/lay-plain.mjs out of 'TryzShelf.lean', which tools/lay-shelf.mjs wrote): THE SAME DECLARATIONS UNDER THE SAME NAMES: 'import', 'namespace', 'open', 'def', 'theorem' AND NOTHING ELSE: no command of the shelf's: FOR A HAND-IN. Each laying: the table of numbers ('.._ren') and one theorem, a field a fact of the dump's own or the kernel's comparison; each contract: ONE APPLICATION.
-/
import Derived.Shelf.Strings.Builder1
import Derived.Shelf.Strings.Builder2
import Derived.Shelf.Small.Bits
import Derived.Shelf.Small.Wraps
import Derived.Shelf.Utf8.RuneCount
import Derived.Shelf.Strconv.Itoa0
import Derived.Shelf.Strconv.Itoa1
import Derived.Shelf.LaysM
import Derived.Shelf.Strconv.Itoa2
import Derived.Shelf.Strconv.Itoa3
import Derived.Shelf.Strconv.Clone
import Derived.Shelf.Strings.Search1
import Derived.Shelf.Strings.Search2
import Derived.Shelf.Strings.Search3
import Derived.Shelf.Strings.Count
import Derived.Shelf.Strings.Shaped
import Derived.Shelf.Strings.Prefix
import Derived.Shelf.Strings.Split
import Derived.Shelf.Strings.SplitShaped
import Derived.Shelf.Unicode.Decode
import Derived.Shelf.Strings.RuneCount
import Derived.Shelf.Strings.Explode
import Derived.Shelf.Unicode.DecodeSlow
import Derived.Shelf.Unicode.DecodeAny
import Derived.Shelf.Slices.Equal
import Derived.Ground.Names2Prog
import Derived.Shelf.Slices.Clone
import Derived.Shelf.Slices.SearchI
import Derived.Shelf.Slices.Empties2
import Derived.Ground.SlgnProg
import Derived.Shelf.SlicesE.Equal
import Derived.Shelf.SlicesE.Clone
import Derived.Shelf.SlGeneric
import Derived.Ground.SlsfProg
import Derived.Ground.SlgqProg
import Derived.Shelf.SlSortCmp.NoneTotal
import Derived.Shelf.SlicesQ.Equal
import Derived.Ground.SlmcProg
import Derived.Shelf.SlMaps.Clone
import Derived.Test.YtaakghjbbkgbdaaGreatDoorProg
namespace Go.Proofs
open Go.Shelf
def Tryz.lays103_ren : Go.Shelf.Ren := ⟨fun | 103 => 368 | 210 => 378 | 206 => 386 | n => n, fun | 9 => 9 | 4 => 4 | 24 => 401 | 3 => 3 | n => n, fun | n => n⟩
theorem Tryz.lays103 : Go.Proofs.Lays.n103 Tryz.prog Tryz.lays103_ren := {
  mixed := by kernel_rfl
  f103 := Tryz.func368.trans (congrArg some (by kernel_rfl))
  f206 := Tryz.func386.trans (congrArg some (by kernel_rfl))
  f210 := Tryz.func378.trans (congrArg some (by kernel_rfl))
  t3 := Tryz.underlying3
  a3 := Tryz.isAgg3
  z3 := Tryz.sizeOf3
  v3 := Tryz.zeroValue3
  t4 := Tryz.underlying4
  a4 := Tryz.isAgg4
  z4 := Tryz.sizeOf4
  v4 := Tryz.zeroValue4
  t9 := Tryz.underlying9
  a9 := Tryz.isAgg9
  z9 := Tryz.sizeOf9
  v9 := Tryz.zeroValue9
  t24 := Tryz.underlying401
  a24 := Tryz.isAgg401
  z24 := Tryz.sizeOf401
  v24 := Tryz.zeroValue401 }
open Go.RowKit in
theorem Tryz.strings_CutPrefix (s p : ByteArray) (w : World) :
    Calls Tryz.prog 368 #[.string s, .string p] w fun e w' => e = .returned (.tuple #[.string ⟨(Lib.trimPrefix s.data.toList p.data.toList).toArray⟩, .bool (Lib.hasPrefix s.data.toList p.data.toList)]) ∧ w' = w := Any.strings_CutPrefix Tryz.lays103 s p w
def Tryz.laysM316_ren : Go.Shelf.Ren := ⟨fun | 316 => 281 | n => n, fun | 9 => 9 | 3 => 3 | 4 => 4 | 37 => 162 | 0 => 0 | 127 => 332 | 5 => 5 | n => n, fun | n => n⟩
theorem Tryz.laysM316 : Go.Proofs.LaysM.n316 Tryz.prog Tryz.laysM316_ren := {
  mixed := by kernel_rfl
  f316 := Tryz.func281.trans (congrArg some (by kernel_rfl))
  t0 := Tryz.underlying0
  a0 := Tryz.isAgg0
  z0 := Tryz.sizeOf0
  v0 := Tryz.zeroValue0
  t3 := Tryz.underlying3
  a3 := Tryz.isAgg3
  z3 := Tryz.sizeOf3
  v3 := Tryz.zeroValue3
  t4 := Tryz.underlying4
  a4 := Tryz.isAgg4
  z4 := Tryz.sizeOf4
  v4 := Tryz.zeroValue4
  t9 := Tryz.underlying9
  a9 := Tryz.isAgg9
  z9 := Tryz.sizeOf9
  v9 := Tryz.zeroValue9
  t37 := Tryz.underlying162
  a37 := Tryz.isAgg162
  z37 := Tryz.sizeOf162
  v37 := Tryz.zeroValue162
  t127 := Tryz.underlying332
  a127 := Tryz.isAgg332
  z127 := Tryz.sizeOf332
  v127 := Tryz.zeroValue332
  t5 := Tryz.underlying5
  a5 := Tryz.isAgg5
  z5 := Tryz.sizeOf5
  v5 := Tryz.zeroValue5
  i0 := by kernel_rfl
  i3 := by kernel_rfl
  i4 := by kernel_rfl
  i5 := by kernel_rfl
  i9 := by kernel_rfl
  i37 := by kernel_rfl
  i127 := by kernel_rfl }
open Go.RowKit in
theorem Tryz.stringslite_Clone (s : ByteArray) (w : World) (hlim : s.size ≤ 281474976710656) :
    Calls Tryz.prog 281 #[.string s] w fun e w' => e = .returned (.string s) ∧ Below w.heap.size w w' := Any.stringslite_Clone Tryz.laysM316 s w hlim
def Tryz.lays146_ren : Go.Shelf.Ren := ⟨fun | 146 => 324 | 221 => 351 | 268 => 365 | 138 => 366 | 143 => 367 | 195 => 374 | 197 => 375 | 218 => 376 | 219 => 377 | 260 => 381 | 217 => 382 | 225 => 383 | 224 => 384 | 267 => 385 | 266 => 387 | 314 => 388 | n => n, fun | 9 => 9 | 31 => 258 | 3 => 3 | 4 => 4 | 0 => 0 | 105 => 410 | 21 => 21 | 5 => 5 | 46 => 333 | 119 => 416 | 139 => 419 | 138 => 418 | 146 => 420 | 51 => 354 | n => n, fun | 1 => 0 | 3 => 4 | 4 => 5 | n => n⟩
theorem Tryz.lays146 : Go.Proofs.Lays.n146 Tryz.prog Tryz.lays146_ren := {
  mixed := by kernel_rfl
  f138 := Tryz.func366.trans (congrArg some (by kernel_rfl))
  f143 := Tryz.func367.trans (congrArg some (by kernel_rfl))
  f146 := Tryz.func324.trans (congrArg some (by kernel_rfl))
  f195 := Tryz.func374.trans (congrArg some (by kernel_rfl))
  f197 := Tryz.func375.trans (congrArg some (by kernel_rfl))
  f217 := Tryz.func382.trans (congrArg some (by kernel_rfl))
  f218 := Tryz.func376.trans (congrArg some (by kernel_rfl))
  f219 := Tryz.func377.trans (congrArg some (by kernel_rfl))
  f221 := Tryz.func351.trans (congrArg some (by kernel_rfl))
  f224 := Tryz.func384.trans (congrArg some (by kernel_rfl))
  f225 := Tryz.func383.trans (congrArg some (by kernel_rfl))
  f260 := Tryz.func381.trans (congrArg some (by kernel_rfl))
  f266 := Tryz.func387.trans (congrArg some (by kernel_rfl))
  f267 := Tryz.func385.trans (congrArg some (by kernel_rfl))
  f268 := Tryz.func365.trans (congrArg some (by kernel_rfl))
  f314 := Tryz.func388.trans (congrArg some (by kernel_rfl))
  t0 := Tryz.underlying0
  a0 := Tryz.isAgg0
  z0 := Tryz.sizeOf0
  v0 := Tryz.zeroValue0
  t3 := Tryz.underlying3
  a3 := Tryz.isAgg3
  z3 := Tryz.sizeOf3
  v3 := Tryz.zeroValue3
  t4 := Tryz.underlying4
  a4 := Tryz.isAgg4
  z4 := Tryz.sizeOf4
  v4 := Tryz.zeroValue4
  t5 := Tryz.underlying5
  a5 := Tryz.isAgg5
  z5 := Tryz.sizeOf5
  v5 := Tryz.zeroValue5
  t9 := Tryz.underlying9
  a9 := Tryz.isAgg9
  z9 := Tryz.sizeOf9
  v9 := Tryz.zeroValue9
  t21 := Tryz.underlying21
  a21 := Tryz.isAgg21
  z21 := Tryz.sizeOf21
  v21 := Tryz.zeroValue21
  t31 := Tryz.underlying258
  a31 := Tryz.isAgg258
  z31 := Tryz.sizeOf258
  v31 := Tryz.zeroValue258
  t46 := Tryz.underlying333
  a46 := Tryz.isAgg333
  z46 := Tryz.sizeOf333
  v46 := Tryz.zeroValue333
  t51 := Tryz.underlying354
  a51 := Tryz.isAgg354
  z51 := Tryz.sizeOf354
  v51 := Tryz.zeroValue354
  t105 := Tryz.underlying410
  a105 := Tryz.isAgg410
  z105 := Tryz.sizeOf410
  v105 := Tryz.zeroValue410
  t119 := Tryz.underlying416
  a119 := Tryz.isAgg416
  z119 := Tryz.sizeOf416
  t138 := Tryz.underlying418
  a138 := Tryz.isAgg418
  z138 := Tryz.sizeOf418
  v138 := Tryz.zeroValue418
  t139 := Tryz.underlying419
  a139 := Tryz.isAgg419
  z139 := Tryz.sizeOf419
  v139 := Tryz.zeroValue419
  t146 := Tryz.underlying420
  a146 := Tryz.isAgg420
  z146 := Tryz.sizeOf420
  v146 := Tryz.zeroValue420
  g1 := by kernel_rfl
  g3 := by kernel_rfl
  g4 := by kernel_rfl }
open Go.RowKit Go.Lib in
theorem Tryz.strings_Split (s sep : ByteArray) (m : Int) (w : World) (hs : s.size < 4294967281) (hm : w.cell? ⟨0, 0, none⟩ = some (.int .i64 m)) (h1 : 1 ≤ sep.size) :
    Calls Tryz.prog 324 #[.string s, .string sep] w fun e w' =>
      e = .returned (.slice (some ⟨w.heap.size, 0, none⟩) (Lib.countB s sep + 1) (Lib.countB s sep + 1)) ∧ w' = w.alloc (.cells ((Lib.splitB sep 0 (Lib.countB s sep) s).map Value.string).toArray 9) := Any.strings_Split Tryz.lays146 (by kernel_rfl) s sep m w hs hm h1
def Tryz.laysM146_ren : Go.Shelf.Ren := ⟨fun | 146 => 324 | 221 => 351 | 268 => 365 | 138 => 366 | 143 => 367 | 195 => 374 | 197 => 375 | 218 => 376 | 219 => 377 | 260 => 381 | 217 => 382 | 225 => 383 | 224 => 384 | 267 => 385 | 266 => 387 | 314 => 388 | n => n, fun | 9 => 9 | 31 => 258 | 3 => 3 | 4 => 4 | 0 => 0 | 105 => 410 | 21 => 21 | 5 => 5 | 46 => 333 | 119 => 416 | 139 => 419 | 138 => 418 | 146 => 420 | 51 => 354 | n => n, fun | 1 => 0 | 3 => 4 | 4 => 5 | n => n⟩
theorem Tryz.laysM146 : Go.Proofs.LaysM.n146 Tryz.prog Tryz.laysM146_ren := {
  mixed := by kernel_rfl
  f138 := Tryz.func366.trans (congrArg some (by kernel_rfl))
  f143 := Tryz.func367.trans (congrArg some (by kernel_rfl))
  f146 := Tryz.func324.trans (congrArg some (by kernel_rfl))
  f195 := Tryz.func374.trans (congrArg some (by kernel_rfl))
  f197 := Tryz.func375.trans (congrArg some (by kernel_rfl))
  f217 := Tryz.func382.trans (congrArg some (by kernel_rfl))
  f218 := Tryz.func376.trans (congrArg some (by kernel_rfl))
  f219 := Tryz.func377.trans (congrArg some (by kernel_rfl))
  f221 := Tryz.func351.trans (congrArg some (by kernel_rfl))
  f224 := Tryz.func384.trans (congrArg some (by kernel_rfl))
  f225 := Tryz.func383.trans (congrArg some (by kernel_rfl))
  f260 := Tryz.func381.trans (congrArg some (by kernel_rfl))
  f266 := Tryz.func387.trans (congrArg some (by kernel_rfl))
  f267 := Tryz.func385.trans (congrArg some (by kernel_rfl))
  f268 := Tryz.func365.trans (congrArg some (by kernel_rfl))
  f314 := Tryz.func388.trans (congrArg some (by kernel_rfl))
  t0 := Tryz.underlying0
  a0 := Tryz.isAgg0
  z0 := Tryz.sizeOf0
  v0 := Tryz.zeroValue0
  t3 := Tryz.underlying3
  a3 := Tryz.isAgg3
  z3 := Tryz.sizeOf3
  v3 := Tryz.zeroValue3
  t4 := Tryz.underlying4
  a4 := Tryz.isAgg4
  z4 := Tryz.sizeOf4
  v4 := Tryz.zeroValue4
  t5 := Tryz.underlying5
  a5 := Tryz.isAgg5
  z5 := Tryz.sizeOf5
  v5 := Tryz.zeroValue5
  t9 := Tryz.underlying9
  a9 := Tryz.isAgg9
  z9 := Tryz.sizeOf9
  v9 := Tryz.zeroValue9
  t21 := Tryz.underlying21
  a21 := Tryz.isAgg21
  z21 := Tryz.sizeOf21
  v21 := Tryz.zeroValue21
  t31 := Tryz.underlying258
  a31 := Tryz.isAgg258
  z31 := Tryz.sizeOf258
  v31 := Tryz.zeroValue258
  t46 := Tryz.underlying333
  a46 := Tryz.isAgg333
  z46 := Tryz.sizeOf333
  v46 := Tryz.zeroValue333
  t51 := Tryz.underlying354
  a51 := Tryz.isAgg354
  z51 := Tryz.sizeOf354
  v51 := Tryz.zeroValue354
  t105 := Tryz.underlying410
  a105 := Tryz.isAgg410
  z105 := Tryz.sizeOf410
  v105 := Tryz.zeroValue410
  t119 := Tryz.underlying416
  a119 := Tryz.isAgg416
  z119 := Tryz.sizeOf416
  t138 := Tryz.underlying418
  a138 := Tryz.isAgg418
  z138 := Tryz.sizeOf418
  v138 := Tryz.zeroValue418
  t139 := Tryz.underlying419
  a139 := Tryz.isAgg419
  z139 := Tryz.sizeOf419
  v139 := Tryz.zeroValue419
  t146 := Tryz.underlying420
  a146 := Tryz.isAgg420
  z146 := Tryz.sizeOf420
  v146 := Tryz.zeroValue420
  g1 := by kernel_rfl
  g3 := by kernel_rfl
  g4 := by kernel_rfl
  i0 := by kernel_rfl
  i3 := by kernel_rfl
  i4 := by kernel_rfl
  i5 := by kernel_rfl
  i9 := by kernel_rfl
  i21 := by kernel_rfl
  i31 := by kernel_rfl
  i46 := by kernel_rfl
  i51 := by kernel_rfl
  i105 := by kernel_rfl
  i138 := by kernel_rfl
  i139 := by kernel_rfl
  i146 := by kernel_rfl
  m1 := by kernel_rfl
  s1_3 := fun w h => Go.Proofs.cell_of_shapedOpen_int (zero := #[.int .i64 0]) (t := 3) h (of_decide_eq_true (by kernel_rfl)) (by kernel_rfl) rfl (by kernel_rfl) (by kernel_rfl) Tryz.underlying3
  m3 := by kernel_rfl
  m4 := by kernel_rfl }
def Tryz.srtR_ren : Go.Shelf.Ren := ⟨fun | 6 => 242 | 15 => 301 | 14 => 300 | 28 => 343 | 29 => 344 | 20 => 335 | 21 => 336 | 22 => 337 | 23 => 338 | 24 => 339 | 25 => 340 | 26 => 341 | 27 => 342 | 46 => 356 | 47 => 357 | 48 => 358 | 49 => 359 | 50 => 360 | 57 => 369 | n => n, fun | 22 => 93 | 24 => 208 | 25 => 309 | 3 => 3 | 39 => 333 | 0 => 0 | 53 => 354 | 55 => 22 | 4 => 4 | 46 => 380 | 45 => 379 | 50 => 216 | 5 => 5 | 9 => 9 | 66 => 391 | 70 => 394 | 76 => 403 | 77 => 404 | n => n, fun | n => n⟩
theorem Tryz.srtR : Go.Proofs.SlLaysF0.n6 Tryz.prog Tryz.srtR_ren := {
  mixed := by kernel_rfl
  f6 := ⟨Tryz.f242.name, by decide, Tryz.func242.trans (congrArg some (by kernel_rfl))⟩
  f14 := ⟨Tryz.f300.name, by decide, Tryz.func300.trans (congrArg some (by kernel_rfl))⟩
  f15 := Tryz.func301.trans (congrArg some (by kernel_rfl))
  f20 := ⟨Tryz.f335.name, by decide, Tryz.func335.trans (congrArg some (by kernel_rfl))⟩
  f21 := ⟨Tryz.f336.name, by decide, Tryz.func336.trans (congrArg some (by kernel_rfl))⟩
  f22 := ⟨Tryz.f337.name, by decide, Tryz.func337.trans (congrArg some (by kernel_rfl))⟩
  f23 := ⟨Tryz.f338.name, by decide, Tryz.func338.trans (congrArg some (by kernel_rfl))⟩
  f24 := ⟨Tryz.f339.name, by decide, Tryz.func339.trans (congrArg some (by kernel_rfl))⟩
  f25 := ⟨Tryz.f340.name, by decide, Tryz.func340.trans (congrArg some (by kernel_rfl))⟩
  f26 := ⟨Tryz.f341.name, by decide, Tryz.func341.trans (congrArg some (by kernel_rfl))⟩
  f27 := ⟨Tryz.f342.name, by decide, Tryz.func342.trans (congrArg some (by kernel_rfl))⟩
  f28 := Tryz.func343.trans (congrArg some (by kernel_rfl))
  f29 := Tryz.func344.trans (congrArg some (by kernel_rfl))
  f46 := ⟨Tryz.f356.name, by decide, Tryz.func356.trans (congrArg some (by kernel_rfl))⟩
  f47 := Tryz.func357.trans (congrArg some (by kernel_rfl))
  f48 := Tryz.func358.trans (congrArg some (by kernel_rfl))
  f49 := ⟨Tryz.f359.name, by decide, Tryz.func359.trans (congrArg some (by kernel_rfl))⟩
  f50 := ⟨Tryz.f360.name, by decide, Tryz.func360.trans (congrArg some (by kernel_rfl))⟩
  f57 := ⟨Tryz.f369.name, by decide, Tryz.func369.trans (congrArg some (by kernel_rfl))⟩
  t0 := Tryz.underlying0
  a0 := Tryz.isAgg0
  z0 := Tryz.sizeOf0
  v0 := Tryz.zeroValue0
  t3 := Tryz.underlying3
  a3 := Tryz.isAgg3
  z3 := Tryz.sizeOf3
  v3 := Tryz.zeroValue3
  t4 := Tryz.underlying4
  a4 := Tryz.isAgg4
  z4 := Tryz.sizeOf4
  v4 := Tryz.zeroValue4
  t5 := Tryz.underlying5
  a5 := Tryz.isAgg5
  z5 := Tryz.sizeOf5
  v5 := Tryz.zeroValue5
  t9 := Tryz.underlying9
  a9 := Tryz.isAgg9
  z9 := Tryz.sizeOf9
  v9 := Tryz.zeroValue9
  t22 := Tryz.underlying93
  a22 := Tryz.isAgg93
  z22 := Tryz.sizeOf93
  v22 := Tryz.zeroValue93
  t25 := Tryz.underlying309
  a25 := Tryz.isAgg309
  z25 := Tryz.sizeOf309
  v25 := Tryz.zeroValue309
  t39 := Tryz.underlying333
  a39 := Tryz.isAgg333
  z39 := Tryz.sizeOf333
  v39 := Tryz.zeroValue333
  t45 := Tryz.underlying379
  a45 := Tryz.isAgg379
  z45 := Tryz.sizeOf379
  v45 := Tryz.zeroValue379
  t46 := Tryz.underlying380
  a46 := Tryz.isAgg380
  z46 := Tryz.sizeOf380
  v46 := Tryz.zeroValue380
  t50 := Tryz.underlying216
  a50 := Tryz.isAgg216
  z50 := Tryz.sizeOf216
  v50 := Tryz.zeroValue216
  t53 := Tryz.underlying354
  a53 := Tryz.isAgg354
  z53 := Tryz.sizeOf354
  v53 := Tryz.zeroValue354
  t55 := Tryz.underlying22
  a55 := Tryz.isAgg22
  z55 := Tryz.sizeOf22
  v55 := Tryz.zeroValue22
  t66 := Tryz.underlying391
  a66 := Tryz.isAgg391
  z66 := Tryz.sizeOf391
  v66 := Tryz.zeroValue391
  t70 := Tryz.underlying394
  a70 := Tryz.isAgg394
  z70 := Tryz.sizeOf394
  v70 := Tryz.zeroValue394
  t76 := Tryz.underlying403
  a76 := Tryz.isAgg403
  z76 := Tryz.sizeOf403
  v76 := Tryz.zeroValue403
  t77 := Tryz.underlying404
  a77 := Tryz.isAgg404
  z77 := Tryz.sizeOf404
  v77 := Tryz.zeroValue404 }
def Tryz.cloneM_ren : Go.Shelf.Ren := ⟨fun | 5 => 288 | 7 => 328 | n => n, fun | 23 => 303 | 25 => 307 | 3 => 206 | 4 => 4 | 20 => 20 | n => n, fun | n => n⟩
theorem Tryz.cloneM : Go.Proofs.SlLaysW.n5 Tryz.prog Tryz.cloneM_ren := {
  mixed := by kernel_rfl
  f5 := ⟨Tryz.f288.name, by decide, Tryz.func288.trans (congrArg some (by kernel_rfl))⟩
  f7 := Tryz.func328.trans (congrArg some (by kernel_rfl))
  t4 := Tryz.underlying4
  a4 := Tryz.isAgg4
  z4 := Tryz.sizeOf4
  v4 := Tryz.zeroValue4
  t20 := Tryz.underlying20
  a20 := Tryz.isAgg20
  z20 := Tryz.sizeOf20
  v20 := Tryz.zeroValue20
  t23 := Tryz.underlying303
  a23 := Tryz.isAgg303
  z23 := Tryz.sizeOf303
  v23 := Tryz.zeroValue303 }
end Go.Proofs
