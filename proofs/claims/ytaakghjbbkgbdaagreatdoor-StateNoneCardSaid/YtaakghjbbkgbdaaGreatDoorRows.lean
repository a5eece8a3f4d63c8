/-
  NARROWER THAN 'FOR EVERY INPUT', by the rows' own cells (each row's printed sentence says how): CatTells: laid · CatSpoilt: laid · CatApart: laid · StateModel: laid · StateSmall: laid · StateRoom: laid · StateNone: laid · StateCopies: laid · StatePending: laid · StateAborts: laid · StateMakes: laid · StatePlays: laid.
  DERIVED. THE GIVEN ROWS OF THIS SEAT. 12 by the template 'for every input the law returns true; each argument reads behind the call as it read before'; 0 by the template 'total and deterministic' (their statements: YtaakghjbbkgbdaaGreatDoorTotals.lean).
  GIVEN WITH THE SEED: the statements are not yours to turn. If you find one false, say at which input.
  Laid BY PROGRAM, IN A SANDBOX (cutbox-rows.mjs): the forced cells as the released guide's own fill.sh prints them over the translation 53a3868756f3b4db… (all of the seat's roots in one cut). By AI agents, Wed Nov 11 2026. No macro, syntax, notation, axiom, sorry.
-/
import Derived.Test.YtaakghjbbkgbdaaGreatDoorChecked
import GoSem.PinnedTables
import GoSem.Claim
import GoSem.ClaimJoined
import GoSem.ClaimMapViews
import Derived.JoinedTies
import Derived.KernelRfl
namespace Go.Proofs.YtaakghjbbkgbdaaGreatDoor
/- THE CELL 'sum', in the pinned program and in every row, IS THE sha256 OF THE DUMP (.gsa) THAT YtaakghjbbkgbdaaGreatDoorProg.lean LOADS. Nothing in Lean hashes anything: it is a label: what it is worth is what the hold of that sum in a sandbox is worth. -/
noncomputable def Tryz.pinned : Pinned := { name := "ytaakghjbbkgbdaagreatdoor", sum := "53a3868756f3b4dbf83c02597ebf503e906206e4afb412afd1f9598ddc361a68", checked := Tryz.checked }
namespace Rows
def none {H : Type} : Left H := { results := [], args := [] }

/- WHAT THE LISTED PACKAGE-LEVEL VARIABLES READ AS WHEN THE CALL BEGINS. Each datum BY PROGRAM (the guide's laid-datum.mjs) off the statement by which the dump's own 'gosem.cut.vars' lays the variable. In a bare row this is a premise. The card (YtaakghjbbkgbdaaGreatDoorCards.lean) ties it to the program's text. -/
def laid_math_bits_deBruijn32tab {H : Type} : DataW H := .agg [.lit (.int .u8 0), .lit (.int .u8 1), .lit (.int .u8 28), .lit (.int .u8 2), .lit (.int .u8 29), .lit (.int .u8 14), .lit (.int .u8 24), .lit (.int .u8 3), .lit (.int .u8 30), .lit (.int .u8 22), .lit (.int .u8 20), .lit (.int .u8 15), .lit (.int .u8 25), .lit (.int .u8 17), .lit (.int .u8 4), .lit (.int .u8 8), .lit (.int .u8 31), .lit (.int .u8 27), .lit (.int .u8 13), .lit (.int .u8 23), .lit (.int .u8 21), .lit (.int .u8 19), .lit (.int .u8 16), .lit (.int .u8 7), .lit (.int .u8 26), .lit (.int .u8 12), .lit (.int .u8 18), .lit (.int .u8 6), .lit (.int .u8 11), .lit (.int .u8 5), .lit (.int .u8 10), .lit (.int .u8 9)]
def laid_math_bits_deBruijn64tab {H : Type} : DataW H := .agg [.lit (.int .u8 0), .lit (.int .u8 1), .lit (.int .u8 56), .lit (.int .u8 2), .lit (.int .u8 57), .lit (.int .u8 49), .lit (.int .u8 28), .lit (.int .u8 3), .lit (.int .u8 61), .lit (.int .u8 58), .lit (.int .u8 42), .lit (.int .u8 50), .lit (.int .u8 38), .lit (.int .u8 29), .lit (.int .u8 17), .lit (.int .u8 4), .lit (.int .u8 62), .lit (.int .u8 47), .lit (.int .u8 59), .lit (.int .u8 36), .lit (.int .u8 45), .lit (.int .u8 43), .lit (.int .u8 51), .lit (.int .u8 22), .lit (.int .u8 53), .lit (.int .u8 39), .lit (.int .u8 33), .lit (.int .u8 30), .lit (.int .u8 24), .lit (.int .u8 18), .lit (.int .u8 12), .lit (.int .u8 5), .lit (.int .u8 63), .lit (.int .u8 55), .lit (.int .u8 48), .lit (.int .u8 27), .lit (.int .u8 60), .lit (.int .u8 41), .lit (.int .u8 37), .lit (.int .u8 16), .lit (.int .u8 46), .lit (.int .u8 35), .lit (.int .u8 44), .lit (.int .u8 21), .lit (.int .u8 52), .lit (.int .u8 32), .lit (.int .u8 23), .lit (.int .u8 11), .lit (.int .u8 54), .lit (.int .u8 26), .lit (.int .u8 40), .lit (.int .u8 15), .lit (.int .u8 34), .lit (.int .u8 20), .lit (.int .u8 31), .lit (.int .u8 10), .lit (.int .u8 25), .lit (.int .u8 14), .lit (.int .u8 19), .lit (.int .u8 9), .lit (.int .u8 13), .lit (.int .u8 8), .lit (.int .u8 7), .lit (.int .u8 6)]
def laid_internal_strconv_uint64pow10 {H : Type} : DataW H := .agg [.lit (.int .u64 1), .lit (.int .u64 10), .lit (.int .u64 100), .lit (.int .u64 1000), .lit (.int .u64 10000), .lit (.int .u64 100000), .lit (.int .u64 1000000), .lit (.int .u64 10000000), .lit (.int .u64 100000000), .lit (.int .u64 1000000000), .lit (.int .u64 10000000000), .lit (.int .u64 100000000000), .lit (.int .u64 1000000000000), .lit (.int .u64 10000000000000), .lit (.int .u64 100000000000000), .lit (.int .u64 1000000000000000), .lit (.int .u64 10000000000000000), .lit (.int .u64 100000000000000000), .lit (.int .u64 1000000000000000000), .lit (.int .u64 10000000000000000000)]
def laid_unicode_utf8_acceptRanges {H : Type} : DataW H := .agg [.agg [.lit (.int .u8 128), .lit (.int .u8 191)], .agg [.lit (.int .u8 160), .lit (.int .u8 191)], .agg [.lit (.int .u8 128), .lit (.int .u8 159)], .agg [.lit (.int .u8 144), .lit (.int .u8 191)], .agg [.lit (.int .u8 128), .lit (.int .u8 143)], .agg [.lit (.int .u8 0), .lit (.int .u8 0)], .agg [.lit (.int .u8 0), .lit (.int .u8 0)], .agg [.lit (.int .u8 0), .lit (.int .u8 0)], .agg [.lit (.int .u8 0), .lit (.int .u8 0)], .agg [.lit (.int .u8 0), .lit (.int .u8 0)], .agg [.lit (.int .u8 0), .lit (.int .u8 0)], .agg [.lit (.int .u8 0), .lit (.int .u8 0)], .agg [.lit (.int .u8 0), .lit (.int .u8 0)], .agg [.lit (.int .u8 0), .lit (.int .u8 0)], .agg [.lit (.int .u8 0), .lit (.int .u8 0)], .agg [.lit (.int .u8 0), .lit (.int .u8 0)]]
/-- One of Go's own tables, pinned by name: the form's constant. -/
def laid_unicode_utf8_first : DataW Unit := Go.Pinned.utf8First

/-- 'sedimentlaw23.CatTells': WHATEVER THE INPUT: true; the input reads as it did. -/
def catTellsSpec : ChangeSpec := { name := "catTells", fn := fun _ => fun
  | [d1, d2] => { results := [.lit (.bool true)], args := [d1, d2] }
  | _ => none }
def catTellsRow : OpenClaim := { program := "ytaakghjbbkgbdaagreatdoor", sum := "53a3868756f3b4dbf83c02597ebf503e906206e4afb412afd1f9598ddc361a68", func := "sediment/sedimentlaw23.CatTells", spec := "catTells", inPlace := ["internal/bytealg.CountString", "internal/bytealg.IndexByteString", "internal/bytealg.IndexString", "maps.clone", "internal/abi.NoEscape", "internal/bytealg.MakeNoZero"], unfollowed := true, recurses := true, named := ["unicode/utf8.first", "unicode/utf8.acceptRanges", "internal/bytealg.MaxLen", "internal/strconv.uint64pow10", "math/bits.deBruijn32tab", "math/bits.deBruijn64tab"], plainKeys := false, apart := false, laid := [("math/bits.deBruijn32tab", laid_math_bits_deBruijn32tab), ("math/bits.deBruijn64tab", laid_math_bits_deBruijn64tab), ("internal/strconv.uint64pow10", laid_internal_strconv_uint64pow10), ("unicode/utf8.acceptRanges", laid_unicode_utf8_acceptRanges), ("unicode/utf8.first", laid_unicode_utf8_first)] }
def CatTellsSaid : Prop := catTellsRow.holds Tryz.pinned (OpenSpec.ofChange catTellsSpec)

/-- ITS FALSE NEIGHBOUR: 'it returns false'. Refute it at one input. -/
def catTellsWrong : ChangeSpec := { name := "catTells", fn := fun _ => fun
  | [d1, d2] => { results := [.lit (.bool false)], args := [d1, d2] }
  | _ => none }
def CatTellsWrongFalsely : Prop := catTellsRow.holds Tryz.pinned (OpenSpec.ofChange catTellsWrong)

/-- 'sedimentlaw23.CatSpoilt': WHATEVER THE INPUT: true; the input reads as it did. -/
def catSpoiltSpec : ChangeSpec := { name := "catSpoilt", fn := fun _ => fun
  | [d1, d2] => { results := [.lit (.bool true)], args := [d1, d2] }
  | _ => none }
def catSpoiltRow : OpenClaim := { program := "ytaakghjbbkgbdaagreatdoor", sum := "53a3868756f3b4dbf83c02597ebf503e906206e4afb412afd1f9598ddc361a68", func := "sediment/sedimentlaw23.CatSpoilt", spec := "catSpoilt", inPlace := ["internal/bytealg.CountString", "internal/bytealg.IndexByteString", "internal/bytealg.IndexString", "maps.clone", "internal/abi.NoEscape", "internal/bytealg.MakeNoZero"], unfollowed := true, recurses := true, named := ["unicode/utf8.first", "unicode/utf8.acceptRanges", "internal/bytealg.MaxLen", "internal/strconv.uint64pow10", "math/bits.deBruijn32tab", "math/bits.deBruijn64tab"], plainKeys := false, apart := false, laid := [("math/bits.deBruijn32tab", laid_math_bits_deBruijn32tab), ("math/bits.deBruijn64tab", laid_math_bits_deBruijn64tab), ("internal/strconv.uint64pow10", laid_internal_strconv_uint64pow10), ("unicode/utf8.acceptRanges", laid_unicode_utf8_acceptRanges), ("unicode/utf8.first", laid_unicode_utf8_first)] }
def CatSpoiltSaid : Prop := catSpoiltRow.holds Tryz.pinned (OpenSpec.ofChange catSpoiltSpec)

/-- ITS FALSE NEIGHBOUR: 'it returns false'. Refute it at one input. -/
def catSpoiltWrong : ChangeSpec := { name := "catSpoilt", fn := fun _ => fun
  | [d1, d2] => { results := [.lit (.bool false)], args := [d1, d2] }
  | _ => none }
def CatSpoiltWrongFalsely : Prop := catSpoiltRow.holds Tryz.pinned (OpenSpec.ofChange catSpoiltWrong)

/-- 'sedimentlaw23.CatApart': WHATEVER THE INPUT: true; the input reads as it did. -/
def catApartSpec : ChangeSpec := { name := "catApart", fn := fun _ => fun
  | [d1, d2] => { results := [.lit (.bool true)], args := [d1, d2] }
  | _ => none }
def catApartRow : OpenClaim := { program := "ytaakghjbbkgbdaagreatdoor", sum := "53a3868756f3b4dbf83c02597ebf503e906206e4afb412afd1f9598ddc361a68", func := "sediment/sedimentlaw23.CatApart", spec := "catApart", inPlace := ["internal/bytealg.CountString", "internal/bytealg.IndexByteString", "internal/bytealg.IndexString", "maps.clone", "internal/abi.NoEscape", "internal/bytealg.MakeNoZero"], unfollowed := true, recurses := true, named := ["unicode/utf8.first", "unicode/utf8.acceptRanges", "internal/bytealg.MaxLen", "internal/strconv.uint64pow10", "math/bits.deBruijn32tab", "math/bits.deBruijn64tab"], plainKeys := false, apart := false, laid := [("math/bits.deBruijn32tab", laid_math_bits_deBruijn32tab), ("math/bits.deBruijn64tab", laid_math_bits_deBruijn64tab), ("internal/strconv.uint64pow10", laid_internal_strconv_uint64pow10), ("unicode/utf8.acceptRanges", laid_unicode_utf8_acceptRanges), ("unicode/utf8.first", laid_unicode_utf8_first)] }
def CatApartSaid : Prop := catApartRow.holds Tryz.pinned (OpenSpec.ofChange catApartSpec)

/-- ITS FALSE NEIGHBOUR: 'it returns false'. Refute it at one input. -/
def catApartWrong : ChangeSpec := { name := "catApart", fn := fun _ => fun
  | [d1, d2] => { results := [.lit (.bool false)], args := [d1, d2] }
  | _ => none }
def CatApartWrongFalsely : Prop := catApartRow.holds Tryz.pinned (OpenSpec.ofChange catApartWrong)

/-- 'sedimentlaw15.StateModel': WHATEVER THE INPUT: true; the input reads as it did. -/
def stateModelSpec : ChangeSpec := { name := "stateModel", fn := fun _ => fun
  | [d1, d2] => { results := [.lit (.bool true)], args := [d1, d2] }
  | _ => none }
def stateModelRow : OpenClaim := { program := "ytaakghjbbkgbdaagreatdoor", sum := "53a3868756f3b4dbf83c02597ebf503e906206e4afb412afd1f9598ddc361a68", func := "sediment/sedimentlaw15.StateModel", spec := "stateModel", inPlace := ["internal/bytealg.CountString", "internal/bytealg.IndexByteString", "internal/bytealg.IndexString", "maps.clone", "math/bits.Add64"], unfollowed := true, recurses := true, named := ["unicode/utf8.first", "unicode/utf8.acceptRanges", "internal/bytealg.MaxLen"], plainKeys := false, apart := false, laid := [("unicode/utf8.acceptRanges", laid_unicode_utf8_acceptRanges), ("unicode/utf8.first", laid_unicode_utf8_first)] }
def StateModelSaid : Prop := stateModelRow.holds Tryz.pinned (OpenSpec.ofChange stateModelSpec)

/-- ITS FALSE NEIGHBOUR: 'it returns false'. Refute it at one input. -/
def stateModelWrong : ChangeSpec := { name := "stateModel", fn := fun _ => fun
  | [d1, d2] => { results := [.lit (.bool false)], args := [d1, d2] }
  | _ => none }
def StateModelWrongFalsely : Prop := stateModelRow.holds Tryz.pinned (OpenSpec.ofChange stateModelWrong)

/-- 'sedimentlaw15.StateSmall': WHATEVER THE INPUT: true; the input reads as it did. -/
def stateSmallSpec : ChangeSpec := { name := "stateSmall", fn := fun _ => fun
  | [d1, d2, d3] => { results := [.lit (.bool true)], args := [d1, d2, d3] }
  | _ => none }
def stateSmallRow : OpenClaim := { program := "ytaakghjbbkgbdaagreatdoor", sum := "53a3868756f3b4dbf83c02597ebf503e906206e4afb412afd1f9598ddc361a68", func := "sediment/sedimentlaw15.StateSmall", spec := "stateSmall", inPlace := ["internal/bytealg.CountString", "internal/bytealg.IndexByteString", "internal/bytealg.IndexString", "maps.clone", "math/bits.Add64"], unfollowed := true, recurses := true, named := ["unicode/utf8.first", "unicode/utf8.acceptRanges", "internal/bytealg.MaxLen"], plainKeys := false, apart := false, laid := [("unicode/utf8.acceptRanges", laid_unicode_utf8_acceptRanges), ("unicode/utf8.first", laid_unicode_utf8_first)] }
def StateSmallSaid : Prop := stateSmallRow.holds Tryz.pinned (OpenSpec.ofChange stateSmallSpec)

/-- ITS FALSE NEIGHBOUR: 'it returns false'. Refute it at one input. -/
def stateSmallWrong : ChangeSpec := { name := "stateSmall", fn := fun _ => fun
  | [d1, d2, d3] => { results := [.lit (.bool false)], args := [d1, d2, d3] }
  | _ => none }
def StateSmallWrongFalsely : Prop := stateSmallRow.holds Tryz.pinned (OpenSpec.ofChange stateSmallWrong)

/-- 'sedimentlaw15.StateRoom': WHATEVER THE INPUT: true; the input reads as it did. -/
def stateRoomSpec : ChangeSpec := { name := "stateRoom", fn := fun _ => fun
  | [d1, d2, d3] => { results := [.lit (.bool true)], args := [d1, d2, d3] }
  | _ => none }
def stateRoomRow : OpenClaim := { program := "ytaakghjbbkgbdaagreatdoor", sum := "53a3868756f3b4dbf83c02597ebf503e906206e4afb412afd1f9598ddc361a68", func := "sediment/sedimentlaw15.StateRoom", spec := "stateRoom", inPlace := ["internal/bytealg.CountString", "internal/bytealg.IndexByteString", "internal/bytealg.IndexString", "maps.clone", "math/bits.Add64"], unfollowed := true, recurses := true, named := ["unicode/utf8.first", "unicode/utf8.acceptRanges", "internal/bytealg.MaxLen"], plainKeys := false, apart := false, laid := [("unicode/utf8.acceptRanges", laid_unicode_utf8_acceptRanges), ("unicode/utf8.first", laid_unicode_utf8_first)] }
def StateRoomSaid : Prop := stateRoomRow.holds Tryz.pinned (OpenSpec.ofChange stateRoomSpec)

/-- ITS FALSE NEIGHBOUR: 'it returns false'. Refute it at one input. -/
def stateRoomWrong : ChangeSpec := { name := "stateRoom", fn := fun _ => fun
  | [d1, d2, d3] => { results := [.lit (.bool false)], args := [d1, d2, d3] }
  | _ => none }
def StateRoomWrongFalsely : Prop := stateRoomRow.holds Tryz.pinned (OpenSpec.ofChange stateRoomWrong)

/-- 'sedimentlaw15.StateNone': WHATEVER THE INPUT: true; the input reads as it did. -/
def stateNoneSpec : ChangeSpec := { name := "stateNone", fn := fun _ => fun
  | [d1, d2, d3] => { results := [.lit (.bool true)], args := [d1, d2, d3] }
  | _ => none }
def stateNoneRow : OpenClaim := { program := "ytaakghjbbkgbdaagreatdoor", sum := "53a3868756f3b4dbf83c02597ebf503e906206e4afb412afd1f9598ddc361a68", func := "sediment/sedimentlaw15.StateNone", spec := "stateNone", inPlace := ["internal/bytealg.CountString", "internal/bytealg.IndexByteString", "internal/bytealg.IndexString", "maps.clone", "math/bits.Add64"], unfollowed := true, recurses := true, named := ["unicode/utf8.first", "unicode/utf8.acceptRanges", "internal/bytealg.MaxLen"], plainKeys := false, apart := false, laid := [("unicode/utf8.acceptRanges", laid_unicode_utf8_acceptRanges), ("unicode/utf8.first", laid_unicode_utf8_first)] }
def StateNoneSaid : Prop := stateNoneRow.holds Tryz.pinned (OpenSpec.ofChange stateNoneSpec)

/-- ITS FALSE NEIGHBOUR: 'it returns false'. Refute it at one input. -/
def stateNoneWrong : ChangeSpec := { name := "stateNone", fn := fun _ => fun
  | [d1, d2, d3] => { results := [.lit (.bool false)], args := [d1, d2, d3] }
  | _ => none }
def StateNoneWrongFalsely : Prop := stateNoneRow.holds Tryz.pinned (OpenSpec.ofChange stateNoneWrong)

/-- 'sedimentlaw15.StateCopies': WHATEVER THE INPUT: true; the input reads as it did. -/
def stateCopiesSpec : ChangeSpec := { name := "stateCopies", fn := fun _ => fun
  | [d1, d2, d3] => { results := [.lit (.bool true)], args := [d1, d2, d3] }
  | _ => none }
def stateCopiesRow : OpenClaim := { program := "ytaakghjbbkgbdaagreatdoor", sum := "53a3868756f3b4dbf83c02597ebf503e906206e4afb412afd1f9598ddc361a68", func := "sediment/sedimentlaw15.StateCopies", spec := "stateCopies", inPlace := ["internal/bytealg.CountString", "internal/bytealg.IndexByteString", "internal/bytealg.IndexString", "maps.clone", "math/bits.Add64"], unfollowed := true, recurses := true, named := ["unicode/utf8.first", "unicode/utf8.acceptRanges", "internal/bytealg.MaxLen"], plainKeys := false, apart := false, laid := [("unicode/utf8.acceptRanges", laid_unicode_utf8_acceptRanges), ("unicode/utf8.first", laid_unicode_utf8_first)] }
def StateCopiesSaid : Prop := stateCopiesRow.holds Tryz.pinned (OpenSpec.ofChange stateCopiesSpec)

/-- ITS FALSE NEIGHBOUR: 'it returns false'. Refute it at one input. -/
def stateCopiesWrong : ChangeSpec := { name := "stateCopies", fn := fun _ => fun
  | [d1, d2, d3] => { results := [.lit (.bool false)], args := [d1, d2, d3] }
  | _ => none }
def StateCopiesWrongFalsely : Prop := stateCopiesRow.holds Tryz.pinned (OpenSpec.ofChange stateCopiesWrong)

/-- 'sedimentlaw15.StatePending': WHATEVER THE INPUT: true; the input reads as it did. -/
def statePendingSpec : ChangeSpec := { name := "statePending", fn := fun _ => fun
  | [d1, d2, d3, d4, d5, d6, d7] => { results := [.lit (.bool true)], args := [d1, d2, d3, d4, d5, d6, d7] }
  | _ => none }
def statePendingRow : OpenClaim := { program := "ytaakghjbbkgbdaagreatdoor", sum := "53a3868756f3b4dbf83c02597ebf503e906206e4afb412afd1f9598ddc361a68", func := "sediment/sedimentlaw15.StatePending", spec := "statePending", inPlace := ["internal/bytealg.CountString", "internal/bytealg.IndexByteString", "internal/bytealg.IndexString", "maps.clone", "math/bits.Add64"], unfollowed := true, recurses := true, named := ["unicode/utf8.first", "unicode/utf8.acceptRanges", "internal/bytealg.MaxLen"], plainKeys := false, apart := false, laid := [("unicode/utf8.acceptRanges", laid_unicode_utf8_acceptRanges), ("unicode/utf8.first", laid_unicode_utf8_first)] }
def StatePendingSaid : Prop := statePendingRow.holds Tryz.pinned (OpenSpec.ofChange statePendingSpec)

/-- ITS FALSE NEIGHBOUR: 'it returns false'. Refute it at one input. -/
def statePendingWrong : ChangeSpec := { name := "statePending", fn := fun _ => fun
  | [d1, d2, d3, d4, d5, d6, d7] => { results := [.lit (.bool false)], args := [d1, d2, d3, d4, d5, d6, d7] }
  | _ => none }
def StatePendingWrongFalsely : Prop := statePendingRow.holds Tryz.pinned (OpenSpec.ofChange statePendingWrong)

/-- 'sedimentlaw15.StateAborts': WHATEVER THE INPUT: true; the input reads as it did. -/
def stateAbortsSpec : ChangeSpec := { name := "stateAborts", fn := fun _ => fun
  | [d1, d2, d3, d4, d5] => { results := [.lit (.bool true)], args := [d1, d2, d3, d4, d5] }
  | _ => none }
def stateAbortsRow : OpenClaim := { program := "ytaakghjbbkgbdaagreatdoor", sum := "53a3868756f3b4dbf83c02597ebf503e906206e4afb412afd1f9598ddc361a68", func := "sediment/sedimentlaw15.StateAborts", spec := "stateAborts", inPlace := ["internal/bytealg.CountString", "internal/bytealg.IndexByteString", "internal/bytealg.IndexString", "maps.clone", "math/bits.Add64"], unfollowed := true, recurses := true, named := ["unicode/utf8.first", "unicode/utf8.acceptRanges", "internal/bytealg.MaxLen"], plainKeys := false, apart := false, laid := [("unicode/utf8.acceptRanges", laid_unicode_utf8_acceptRanges), ("unicode/utf8.first", laid_unicode_utf8_first)] }
def StateAbortsSaid : Prop := stateAbortsRow.holds Tryz.pinned (OpenSpec.ofChange stateAbortsSpec)

/-- ITS FALSE NEIGHBOUR: 'it returns false'. Refute it at one input. -/
def stateAbortsWrong : ChangeSpec := { name := "stateAborts", fn := fun _ => fun
  | [d1, d2, d3, d4, d5] => { results := [.lit (.bool false)], args := [d1, d2, d3, d4, d5] }
  | _ => none }
def StateAbortsWrongFalsely : Prop := stateAbortsRow.holds Tryz.pinned (OpenSpec.ofChange stateAbortsWrong)

/-- 'sedimentlaw15.StateMakes': WHATEVER THE INPUT: true; the input reads as it did. -/
def stateMakesSpec : ChangeSpec := { name := "stateMakes", fn := fun _ => fun
  | [d1, d2, d3, d4, d5, d6, d7, d8, d9] => { results := [.lit (.bool true)], args := [d1, d2, d3, d4, d5, d6, d7, d8, d9] }
  | _ => none }
def stateMakesRow : OpenClaim := { program := "ytaakghjbbkgbdaagreatdoor", sum := "53a3868756f3b4dbf83c02597ebf503e906206e4afb412afd1f9598ddc361a68", func := "sediment/sedimentlaw15.StateMakes", spec := "stateMakes", inPlace := ["internal/bytealg.CountString", "internal/bytealg.IndexByteString", "internal/bytealg.IndexString", "maps.clone", "math/bits.Add64"], unfollowed := true, recurses := true, named := ["unicode/utf8.first", "unicode/utf8.acceptRanges", "internal/bytealg.MaxLen"], plainKeys := false, apart := false, laid := [("unicode/utf8.acceptRanges", laid_unicode_utf8_acceptRanges), ("unicode/utf8.first", laid_unicode_utf8_first)] }
def StateMakesSaid : Prop := stateMakesRow.holds Tryz.pinned (OpenSpec.ofChange stateMakesSpec)

/-- ITS FALSE NEIGHBOUR: 'it returns false'. Refute it at one input. -/
def stateMakesWrong : ChangeSpec := { name := "stateMakes", fn := fun _ => fun
  | [d1, d2, d3, d4, d5, d6, d7, d8, d9] => { results := [.lit (.bool false)], args := [d1, d2, d3, d4, d5, d6, d7, d8, d9] }
  | _ => none }
def StateMakesWrongFalsely : Prop := stateMakesRow.holds Tryz.pinned (OpenSpec.ofChange stateMakesWrong)

/-- 'sedimentlaw15.StatePlays': WHATEVER THE INPUT: true; the input reads as it did. -/
def statePlaysSpec : ChangeSpec := { name := "statePlays", fn := fun _ => fun
  | [d1, d2, d3, d4, d5, d6] => { results := [.lit (.bool true)], args := [d1, d2, d3, d4, d5, d6] }
  | _ => none }
def statePlaysRow : OpenClaim := { program := "ytaakghjbbkgbdaagreatdoor", sum := "53a3868756f3b4dbf83c02597ebf503e906206e4afb412afd1f9598ddc361a68", func := "sediment/sedimentlaw15.StatePlays", spec := "statePlays", inPlace := ["internal/bytealg.CountString", "internal/bytealg.IndexByteString", "internal/bytealg.IndexString", "maps.clone", "math/bits.Add64"], unfollowed := true, recurses := true, named := ["unicode/utf8.first", "unicode/utf8.acceptRanges", "internal/bytealg.MaxLen"], plainKeys := false, apart := false, laid := [("unicode/utf8.acceptRanges", laid_unicode_utf8_acceptRanges), ("unicode/utf8.first", laid_unicode_utf8_first)] }
def StatePlaysSaid : Prop := statePlaysRow.holds Tryz.pinned (OpenSpec.ofChange statePlaysSpec)

/-- ITS FALSE NEIGHBOUR: 'it returns false'. Refute it at one input. -/
def statePlaysWrong : ChangeSpec := { name := "statePlays", fn := fun _ => fun
  | [d1, d2, d3, d4, d5, d6] => { results := [.lit (.bool false)], args := [d1, d2, d3, d4, d5, d6] }
  | _ => none }
def StatePlaysWrongFalsely : Prop := statePlaysRow.holds Tryz.pinned (OpenSpec.ofChange statePlaysWrong)

/- THE SECOND FORM. 'bulk': how many values and letters a reading holds, each counted each time it is reached (what is shared counts as often as it is met; a slice's spare places count too). A statement '..UptoSaid' is the law's where the arguments, and the package variables that the reading takes, are together of bulk at most 1048576: NARROWER than '..Said'. Prove '..Said' where nothing that the law and all that it calls make is longer than what came in: it says more and counts as full. Else prove '..UptoSaid'. A law counts once. -/
mutual
def uptoBulk {H : Type} : DataW H → Nat
  | .lit (.string bytes) => bytes.length + 1
  | .lit _ => 1
  | .nil => 1
  | .ptr d => uptoBulk d + 1
  | .slice elems spare => uptoBulkAll elems + uptoBulkAll spare + 1
  | .agg parts => uptoBulkAll parts + 1
  | .iface _ d => uptoBulk d + 1
  | .map entries => uptoBulkEntries entries + 1
  | .held _ => 1
def uptoBulkAll {H : Type} : List (DataW H) → Nat
  | [] => 0
  | d :: r => uptoBulk d + uptoBulkAll r
def uptoBulkEntries {H : Type} : List (Lit × DataW H) → Nat
  | [] => 0
  | x :: r => uptoBulkEntry x + uptoBulkEntries r
def uptoBulkEntry {H : Type} : Lit × DataW H → Nat
  | (.string bytes, d) => bytes.length + uptoBulk d + 1
  | (_, d) => uptoBulk d + 1
 end
def uptoSmall : (H : Type) → List (DataW H) → Bool := fun _ ds => decide (uptoBulkAll ds ≤ 1048576)
def OpenSpec.upto (s : _root_.Go.ChangeSpec) : _root_.Go.OpenSpec := { _root_.Go.OpenSpec.ofChange s with cond := some uptoSmall }

/-- 'sedimentlaw23.CatTells', WHERE WHAT IT READS IS OF BULK AT MOST 1048576: true; the input reads as it did. -/
def catTellsUptoRow : OpenClaim := { program := "ytaakghjbbkgbdaagreatdoor", sum := "53a3868756f3b4dbf83c02597ebf503e906206e4afb412afd1f9598ddc361a68", func := "sediment/sedimentlaw23.CatTells", spec := "catTells", inPlace := ["internal/bytealg.CountString", "internal/bytealg.IndexByteString", "internal/bytealg.IndexString", "maps.clone", "internal/abi.NoEscape", "internal/bytealg.MakeNoZero"], unfollowed := true, recurses := true, named := ["unicode/utf8.first", "unicode/utf8.acceptRanges", "internal/bytealg.MaxLen", "internal/strconv.uint64pow10", "math/bits.deBruijn32tab", "math/bits.deBruijn64tab"], plainKeys := false, apart := false, laid := [("math/bits.deBruijn32tab", laid_math_bits_deBruijn32tab), ("math/bits.deBruijn64tab", laid_math_bits_deBruijn64tab), ("internal/strconv.uint64pow10", laid_internal_strconv_uint64pow10), ("unicode/utf8.acceptRanges", laid_unicode_utf8_acceptRanges), ("unicode/utf8.first", laid_unicode_utf8_first)], narrowed := true }
def CatTellsUptoSaid : Prop := catTellsUptoRow.holds Tryz.pinned (OpenSpec.upto catTellsSpec)

/-- 'sedimentlaw23.CatSpoilt', WHERE WHAT IT READS IS OF BULK AT MOST 1048576: true; the input reads as it did. -/
def catSpoiltUptoRow : OpenClaim := { program := "ytaakghjbbkgbdaagreatdoor", sum := "53a3868756f3b4dbf83c02597ebf503e906206e4afb412afd1f9598ddc361a68", func := "sediment/sedimentlaw23.CatSpoilt", spec := "catSpoilt", inPlace := ["internal/bytealg.CountString", "internal/bytealg.IndexByteString", "internal/bytealg.IndexString", "maps.clone", "internal/abi.NoEscape", "internal/bytealg.MakeNoZero"], unfollowed := true, recurses := true, named := ["unicode/utf8.first", "unicode/utf8.acceptRanges", "internal/bytealg.MaxLen", "internal/strconv.uint64pow10", "math/bits.deBruijn32tab", "math/bits.deBruijn64tab"], plainKeys := false, apart := false, laid := [("math/bits.deBruijn32tab", laid_math_bits_deBruijn32tab), ("math/bits.deBruijn64tab", laid_math_bits_deBruijn64tab), ("internal/strconv.uint64pow10", laid_internal_strconv_uint64pow10), ("unicode/utf8.acceptRanges", laid_unicode_utf8_acceptRanges), ("unicode/utf8.first", laid_unicode_utf8_first)], narrowed := true }
def CatSpoiltUptoSaid : Prop := catSpoiltUptoRow.holds Tryz.pinned (OpenSpec.upto catSpoiltSpec)

/-- 'sedimentlaw23.CatApart', WHERE WHAT IT READS IS OF BULK AT MOST 1048576: true; the input reads as it did. -/
def catApartUptoRow : OpenClaim := { program := "ytaakghjbbkgbdaagreatdoor", sum := "53a3868756f3b4dbf83c02597ebf503e906206e4afb412afd1f9598ddc361a68", func := "sediment/sedimentlaw23.CatApart", spec := "catApart", inPlace := ["internal/bytealg.CountString", "internal/bytealg.IndexByteString", "internal/bytealg.IndexString", "maps.clone", "internal/abi.NoEscape", "internal/bytealg.MakeNoZero"], unfollowed := true, recurses := true, named := ["unicode/utf8.first", "unicode/utf8.acceptRanges", "internal/bytealg.MaxLen", "internal/strconv.uint64pow10", "math/bits.deBruijn32tab", "math/bits.deBruijn64tab"], plainKeys := false, apart := false, laid := [("math/bits.deBruijn32tab", laid_math_bits_deBruijn32tab), ("math/bits.deBruijn64tab", laid_math_bits_deBruijn64tab), ("internal/strconv.uint64pow10", laid_internal_strconv_uint64pow10), ("unicode/utf8.acceptRanges", laid_unicode_utf8_acceptRanges), ("unicode/utf8.first", laid_unicode_utf8_first)], narrowed := true }
def CatApartUptoSaid : Prop := catApartUptoRow.holds Tryz.pinned (OpenSpec.upto catApartSpec)

/-- 'sedimentlaw15.StateModel', WHERE WHAT IT READS IS OF BULK AT MOST 1048576: true; the input reads as it did. -/
def stateModelUptoRow : OpenClaim := { program := "ytaakghjbbkgbdaagreatdoor", sum := "53a3868756f3b4dbf83c02597ebf503e906206e4afb412afd1f9598ddc361a68", func := "sediment/sedimentlaw15.StateModel", spec := "stateModel", inPlace := ["internal/bytealg.CountString", "internal/bytealg.IndexByteString", "internal/bytealg.IndexString", "maps.clone", "math/bits.Add64"], unfollowed := true, recurses := true, named := ["unicode/utf8.first", "unicode/utf8.acceptRanges", "internal/bytealg.MaxLen"], plainKeys := false, apart := false, laid := [("unicode/utf8.acceptRanges", laid_unicode_utf8_acceptRanges), ("unicode/utf8.first", laid_unicode_utf8_first)], narrowed := true }
def StateModelUptoSaid : Prop := stateModelUptoRow.holds Tryz.pinned (OpenSpec.upto stateModelSpec)

/-- 'sedimentlaw15.StateSmall', WHERE WHAT IT READS IS OF BULK AT MOST 1048576: true; the input reads as it did. -/
def stateSmallUptoRow : OpenClaim := { program := "ytaakghjbbkgbdaagreatdoor", sum := "53a3868756f3b4dbf83c02597ebf503e906206e4afb412afd1f9598ddc361a68", func := "sediment/sedimentlaw15.StateSmall", spec := "stateSmall", inPlace := ["internal/bytealg.CountString", "internal/bytealg.IndexByteString", "internal/bytealg.IndexString", "maps.clone", "math/bits.Add64"], unfollowed := true, recurses := true, named := ["unicode/utf8.first", "unicode/utf8.acceptRanges", "internal/bytealg.MaxLen"], plainKeys := false, apart := false, laid := [("unicode/utf8.acceptRanges", laid_unicode_utf8_acceptRanges), ("unicode/utf8.first", laid_unicode_utf8_first)], narrowed := true }
def StateSmallUptoSaid : Prop := stateSmallUptoRow.holds Tryz.pinned (OpenSpec.upto stateSmallSpec)

/-- 'sedimentlaw15.StateRoom', WHERE WHAT IT READS IS OF BULK AT MOST 1048576: true; the input reads as it did. -/
def stateRoomUptoRow : OpenClaim := { program := "ytaakghjbbkgbdaagreatdoor", sum := "53a3868756f3b4dbf83c02597ebf503e906206e4afb412afd1f9598ddc361a68", func := "sediment/sedimentlaw15.StateRoom", spec := "stateRoom", inPlace := ["internal/bytealg.CountString", "internal/bytealg.IndexByteString", "internal/bytealg.IndexString", "maps.clone", "math/bits.Add64"], unfollowed := true, recurses := true, named := ["unicode/utf8.first", "unicode/utf8.acceptRanges", "internal/bytealg.MaxLen"], plainKeys := false, apart := false, laid := [("unicode/utf8.acceptRanges", laid_unicode_utf8_acceptRanges), ("unicode/utf8.first", laid_unicode_utf8_first)], narrowed := true }
def StateRoomUptoSaid : Prop := stateRoomUptoRow.holds Tryz.pinned (OpenSpec.upto stateRoomSpec)

/-- 'sedimentlaw15.StateNone', WHERE WHAT IT READS IS OF BULK AT MOST 1048576: true; the input reads as it did. -/
def stateNoneUptoRow : OpenClaim := { program := "ytaakghjbbkgbdaagreatdoor", sum := "53a3868756f3b4dbf83c02597ebf503e906206e4afb412afd1f9598ddc361a68", func := "sediment/sedimentlaw15.StateNone", spec := "stateNone", inPlace := ["internal/bytealg.CountString", "internal/bytealg.IndexByteString", "internal/bytealg.IndexString", "maps.clone", "math/bits.Add64"], unfollowed := true, recurses := true, named := ["unicode/utf8.first", "unicode/utf8.acceptRanges", "internal/bytealg.MaxLen"], plainKeys := false, apart := false, laid := [("unicode/utf8.acceptRanges", laid_unicode_utf8_acceptRanges), ("unicode/utf8.first", laid_unicode_utf8_first)], narrowed := true }
def StateNoneUptoSaid : Prop := stateNoneUptoRow.holds Tryz.pinned (OpenSpec.upto stateNoneSpec)

/-- 'sedimentlaw15.StateCopies', WHERE WHAT IT READS IS OF BULK AT MOST 1048576: true; the input reads as it did. -/
def stateCopiesUptoRow : OpenClaim := { program := "ytaakghjbbkgbdaagreatdoor", sum := "53a3868756f3b4dbf83c02597ebf503e906206e4afb412afd1f9598ddc361a68", func := "sediment/sedimentlaw15.StateCopies", spec := "stateCopies", inPlace := ["internal/bytealg.CountString", "internal/bytealg.IndexByteString", "internal/bytealg.IndexString", "maps.clone", "math/bits.Add64"], unfollowed := true, recurses := true, named := ["unicode/utf8.first", "unicode/utf8.acceptRanges", "internal/bytealg.MaxLen"], plainKeys := false, apart := false, laid := [("unicode/utf8.acceptRanges", laid_unicode_utf8_acceptRanges), ("unicode/utf8.first", laid_unicode_utf8_first)], narrowed := true }
def StateCopiesUptoSaid : Prop := stateCopiesUptoRow.holds Tryz.pinned (OpenSpec.upto stateCopiesSpec)

/-- 'sedimentlaw15.StatePending', WHERE WHAT IT READS IS OF BULK AT MOST 1048576: true; the input reads as it did. -/
def statePendingUptoRow : OpenClaim := { program := "ytaakghjbbkgbdaagreatdoor", sum := "53a3868756f3b4dbf83c02597ebf503e906206e4afb412afd1f9598ddc361a68", func := "sediment/sedimentlaw15.StatePending", spec := "statePending", inPlace := ["internal/bytealg.CountString", "internal/bytealg.IndexByteString", "internal/bytealg.IndexString", "maps.clone", "math/bits.Add64"], unfollowed := true, recurses := true, named := ["unicode/utf8.first", "unicode/utf8.acceptRanges", "internal/bytealg.MaxLen"], plainKeys := false, apart := false, laid := [("unicode/utf8.acceptRanges", laid_unicode_utf8_acceptRanges), ("unicode/utf8.first", laid_unicode_utf8_first)], narrowed := true }
def StatePendingUptoSaid : Prop := statePendingUptoRow.holds Tryz.pinned (OpenSpec.upto statePendingSpec)

/-- 'sedimentlaw15.StateAborts', WHERE WHAT IT READS IS OF BULK AT MOST 1048576: true; the input reads as it did. -/
def stateAbortsUptoRow : OpenClaim := { program := "ytaakghjbbkgbdaagreatdoor", sum := "53a3868756f3b4dbf83c02597ebf503e906206e4afb412afd1f9598ddc361a68", func := "sediment/sedimentlaw15.StateAborts", spec := "stateAborts", inPlace := ["internal/bytealg.CountString", "internal/bytealg.IndexByteString", "internal/bytealg.IndexString", "maps.clone", "math/bits.Add64"], unfollowed := true, recurses := true, named := ["unicode/utf8.first", "unicode/utf8.acceptRanges", "internal/bytealg.MaxLen"], plainKeys := false, apart := false, laid := [("unicode/utf8.acceptRanges", laid_unicode_utf8_acceptRanges), ("unicode/utf8.first", laid_unicode_utf8_first)], narrowed := true }
def StateAbortsUptoSaid : Prop := stateAbortsUptoRow.holds Tryz.pinned (OpenSpec.upto stateAbortsSpec)

/-- 'sedimentlaw15.StateMakes', WHERE WHAT IT READS IS OF BULK AT MOST 1048576: true; the input reads as it did. -/
def stateMakesUptoRow : OpenClaim := { program := "ytaakghjbbkgbdaagreatdoor", sum := "53a3868756f3b4dbf83c02597ebf503e906206e4afb412afd1f9598ddc361a68", func := "sediment/sedimentlaw15.StateMakes", spec := "stateMakes", inPlace := ["internal/bytealg.CountString", "internal/bytealg.IndexByteString", "internal/bytealg.IndexString", "maps.clone", "math/bits.Add64"], unfollowed := true, recurses := true, named := ["unicode/utf8.first", "unicode/utf8.acceptRanges", "internal/bytealg.MaxLen"], plainKeys := false, apart := false, laid := [("unicode/utf8.acceptRanges", laid_unicode_utf8_acceptRanges), ("unicode/utf8.first", laid_unicode_utf8_first)], narrowed := true }
def StateMakesUptoSaid : Prop := stateMakesUptoRow.holds Tryz.pinned (OpenSpec.upto stateMakesSpec)

/-- 'sedimentlaw15.StatePlays', WHERE WHAT IT READS IS OF BULK AT MOST 1048576: true; the input reads as it did. -/
def statePlaysUptoRow : OpenClaim := { program := "ytaakghjbbkgbdaagreatdoor", sum := "53a3868756f3b4dbf83c02597ebf503e906206e4afb412afd1f9598ddc361a68", func := "sediment/sedimentlaw15.StatePlays", spec := "statePlays", inPlace := ["internal/bytealg.CountString", "internal/bytealg.IndexByteString", "internal/bytealg.IndexString", "maps.clone", "math/bits.Add64"], unfollowed := true, recurses := true, named := ["unicode/utf8.first", "unicode/utf8.acceptRanges", "internal/bytealg.MaxLen"], plainKeys := false, apart := false, laid := [("unicode/utf8.acceptRanges", laid_unicode_utf8_acceptRanges), ("unicode/utf8.first", laid_unicode_utf8_first)], narrowed := true }
def StatePlaysUptoSaid : Prop := statePlaysUptoRow.holds Tryz.pinned (OpenSpec.upto statePlaysSpec)

end Rows
end Go.Proofs.YtaakghjbbkgbdaaGreatDoor
