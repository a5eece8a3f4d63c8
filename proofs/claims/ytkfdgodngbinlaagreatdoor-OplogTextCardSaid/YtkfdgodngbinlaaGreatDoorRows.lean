/-
  NARROWER THAN 'FOR EVERY INPUT', by the rows' own cells (each row's printed sentence says how): StateSmall: laid · StateRoom: laid · StateCopies: laid · StatePending: laid · StateAborts: laid · OplogParts: laid · OplogText: laid.
  DERIVED. THE GIVEN ROWS OF THIS SEAT. 7 by the template 'for every input the law returns true; each argument reads behind the call as it read before'; 0 by the template 'total and deterministic' (their statements: YtkfdgodngbinlaaGreatDoorTotals.lean).
  GIVEN WITH THE SEED: the statements are not yours to turn. If you find one false, say at which input.
  Laid BY PROGRAM, IN A SANDBOX (cutbox-rows.mjs): the forced cells as the released guide's own fill.sh prints them over the translation e48429283447c74e… (all of the seat's roots in one cut). By AI agents, Wed Nov 11 2026. No macro, syntax, notation, axiom, sorry.
-/
import Derived.Test.YtkfdgodngbinlaaGreatDoorChecked
import GoSem.PinnedTables
import GoSem.Claim
import GoSem.ClaimJoined
import GoSem.ClaimMapViews
import Derived.JoinedTies
import Derived.KernelRfl
namespace Go.Proofs.YtkfdgodngbinlaaGreatDoor
/- THE CELL 'sum', in the pinned program and in every row, IS THE sha256 OF THE DUMP (.gsa) THAT YtkfdgodngbinlaaGreatDoorProg.lean LOADS. Nothing in Lean hashes anything: it is a label: what it is worth is what the hold of that sum in a sandbox is worth. -/
noncomputable def Tryz.pinned : Pinned := { name := "ytkfdgodngbinlaagreatdoor", sum := "e48429283447c74e0b47abc277f09d910768a2ec0c7788240b034e96235d148b", checked := Tryz.checked }
namespace Rows
def none {H : Type} : Left H := { results := [], args := [] }

/- WHAT THE LISTED PACKAGE-LEVEL VARIABLES READ AS WHEN THE CALL BEGINS. Each datum BY PROGRAM (the guide's laid-datum.mjs) off the statement by which the dump's own 'gosem.cut.vars' lays the variable. In a bare row this is a premise. The card (YtkfdgodngbinlaaGreatDoorCards.lean) ties it to the program's text. -/
def laid_unicode_utf8_acceptRanges {H : Type} : DataW H := .agg [.agg [.lit (.int .u8 128), .lit (.int .u8 191)], .agg [.lit (.int .u8 160), .lit (.int .u8 191)], .agg [.lit (.int .u8 128), .lit (.int .u8 159)], .agg [.lit (.int .u8 144), .lit (.int .u8 191)], .agg [.lit (.int .u8 128), .lit (.int .u8 143)], .agg [.lit (.int .u8 0), .lit (.int .u8 0)], .agg [.lit (.int .u8 0), .lit (.int .u8 0)], .agg [.lit (.int .u8 0), .lit (.int .u8 0)], .agg [.lit (.int .u8 0), .lit (.int .u8 0)], .agg [.lit (.int .u8 0), .lit (.int .u8 0)], .agg [.lit (.int .u8 0), .lit (.int .u8 0)], .agg [.lit (.int .u8 0), .lit (.int .u8 0)], .agg [.lit (.int .u8 0), .lit (.int .u8 0)], .agg [.lit (.int .u8 0), .lit (.int .u8 0)], .agg [.lit (.int .u8 0), .lit (.int .u8 0)], .agg [.lit (.int .u8 0), .lit (.int .u8 0)]]
/-- One of Go's own tables, pinned by name: the form's constant. -/
def laid_unicode_utf8_first : DataW Unit := Go.Pinned.utf8First

/-- 'sedimentlaw15.StateSmall': WHATEVER THE INPUT: true; the input reads as it did. -/
def stateSmallSpec : ChangeSpec := { name := "stateSmall", fn := fun _ => fun
  | [d1, d2, d3] => { results := [.lit (.bool true)], args := [d1, d2, d3] }
  | _ => none }
def stateSmallRow : OpenClaim := { program := "ytkfdgodngbinlaagreatdoor", sum := "e48429283447c74e0b47abc277f09d910768a2ec0c7788240b034e96235d148b", func := "sediment/sedimentlaw15.StateSmall", spec := "stateSmall", inPlace := ["internal/bytealg.CountString", "internal/bytealg.IndexByteString", "internal/bytealg.IndexString", "maps.clone", "math/bits.Add64"], unfollowed := true, recurses := true, named := ["unicode/utf8.first", "unicode/utf8.acceptRanges", "internal/bytealg.MaxLen"], plainKeys := false, apart := false, laid := [("unicode/utf8.acceptRanges", laid_unicode_utf8_acceptRanges), ("unicode/utf8.first", laid_unicode_utf8_first)] }
def StateSmallSaid : Prop := stateSmallRow.holds Tryz.pinned (OpenSpec.ofChange stateSmallSpec)

/-- ITS FALSE NEIGHBOUR: 'it returns false'. Refute it at one input. -/
def stateSmallWrong : ChangeSpec := { name := "stateSmall", fn := fun _ => fun
  | [d1, d2, d3] => { results := [.lit (.bool false)], args := [d1, d2, d3] }
  | _ => none }
def StateSmallWrongFalsely : Prop := stateSmallRow.holds Tryz.pinned (OpenSpec.ofChange stateSmallWrong)

/-- 'sedimentlaw15.StateRoom': WHATEVER THE INPUT: true; the input reads as it did. -/
def stateRoomSpec : ChangeSpec := { name := "stateRoom", fn := fun _ => fun
  | [d1, d2, d3] => { results := [.lit (.bool true)], args := [d1, d2, d3] }
  | _ => none }
def stateRoomRow : OpenClaim := { program := "ytkfdgodngbinlaagreatdoor", sum := "e48429283447c74e0b47abc277f09d910768a2ec0c7788240b034e96235d148b", func := "sediment/sedimentlaw15.StateRoom", spec := "stateRoom", inPlace := ["internal/bytealg.CountString", "internal/bytealg.IndexByteString", "internal/bytealg.IndexString", "maps.clone", "math/bits.Add64"], unfollowed := true, recurses := true, named := ["unicode/utf8.first", "unicode/utf8.acceptRanges", "internal/bytealg.MaxLen"], plainKeys := false, apart := false, laid := [("unicode/utf8.acceptRanges", laid_unicode_utf8_acceptRanges), ("unicode/utf8.first", laid_unicode_utf8_first)] }
def StateRoomSaid : Prop := stateRoomRow.holds Tryz.pinned (OpenSpec.ofChange stateRoomSpec)

/-- ITS FALSE NEIGHBOUR: 'it returns false'. Refute it at one input. -/
def stateRoomWrong : ChangeSpec := { name := "stateRoom", fn := fun _ => fun
  | [d1, d2, d3] => { results := [.lit (.bool false)], args := [d1, d2, d3] }
  | _ => none }
def StateRoomWrongFalsely : Prop := stateRoomRow.holds Tryz.pinned (OpenSpec.ofChange stateRoomWrong)

/-- 'sedimentlaw15.StateCopies': WHATEVER THE INPUT: true; the input reads as it did. -/
def stateCopiesSpec : ChangeSpec := { name := "stateCopies", fn := fun _ => fun
  | [d1, d2, d3] => { results := [.lit (.bool true)], args := [d1, d2, d3] }
  | _ => none }
def stateCopiesRow : OpenClaim := { program := "ytkfdgodngbinlaagreatdoor", sum := "e48429283447c74e0b47abc277f09d910768a2ec0c7788240b034e96235d148b", func := "sediment/sedimentlaw15.StateCopies", spec := "stateCopies", inPlace := ["internal/bytealg.CountString", "internal/bytealg.IndexByteString", "internal/bytealg.IndexString", "maps.clone", "math/bits.Add64"], unfollowed := true, recurses := true, named := ["unicode/utf8.first", "unicode/utf8.acceptRanges", "internal/bytealg.MaxLen"], plainKeys := false, apart := false, laid := [("unicode/utf8.acceptRanges", laid_unicode_utf8_acceptRanges), ("unicode/utf8.first", laid_unicode_utf8_first)] }
def StateCopiesSaid : Prop := stateCopiesRow.holds Tryz.pinned (OpenSpec.ofChange stateCopiesSpec)

/-- ITS FALSE NEIGHBOUR: 'it returns false'. Refute it at one input. -/
def stateCopiesWrong : ChangeSpec := { name := "stateCopies", fn := fun _ => fun
  | [d1, d2, d3] => { results := [.lit (.bool false)], args := [d1, d2, d3] }
  | _ => none }
def StateCopiesWrongFalsely : Prop := stateCopiesRow.holds Tryz.pinned (OpenSpec.ofChange stateCopiesWrong)

/-- 'sedimentlaw15.StatePending': WHATEVER THE INPUT: true; the input reads as it did. -/
def statePendingSpec : ChangeSpec := { name := "statePending", fn := fun _ => fun
  | [d1, d2, d3, d4, d5, d6, d7] => { results := [.lit (.bool true)], args := [d1, d2, d3, d4, d5, d6, d7] }
  | _ => none }
def statePendingRow : OpenClaim := { program := "ytkfdgodngbinlaagreatdoor", sum := "e48429283447c74e0b47abc277f09d910768a2ec0c7788240b034e96235d148b", func := "sediment/sedimentlaw15.StatePending", spec := "statePending", inPlace := ["internal/bytealg.CountString", "internal/bytealg.IndexByteString", "internal/bytealg.IndexString", "maps.clone", "math/bits.Add64"], unfollowed := true, recurses := true, named := ["unicode/utf8.first", "unicode/utf8.acceptRanges", "internal/bytealg.MaxLen"], plainKeys := false, apart := false, laid := [("unicode/utf8.acceptRanges", laid_unicode_utf8_acceptRanges), ("unicode/utf8.first", laid_unicode_utf8_first)] }
def StatePendingSaid : Prop := statePendingRow.holds Tryz.pinned (OpenSpec.ofChange statePendingSpec)

/-- ITS FALSE NEIGHBOUR: 'it returns false'. Refute it at one input. -/
def statePendingWrong : ChangeSpec := { name := "statePending", fn := fun _ => fun
  | [d1, d2, d3, d4, d5, d6, d7] => { results := [.lit (.bool false)], args := [d1, d2, d3, d4, d5, d6, d7] }
  | _ => none }
def StatePendingWrongFalsely : Prop := statePendingRow.holds Tryz.pinned (OpenSpec.ofChange statePendingWrong)

/-- 'sedimentlaw15.StateAborts': WHATEVER THE INPUT: true; the input reads as it did. -/
def stateAbortsSpec : ChangeSpec := { name := "stateAborts", fn := fun _ => fun
  | [d1, d2, d3, d4, d5] => { results := [.lit (.bool true)], args := [d1, d2, d3, d4, d5] }
  | _ => none }
def stateAbortsRow : OpenClaim := { program := "ytkfdgodngbinlaagreatdoor", sum := "e48429283447c74e0b47abc277f09d910768a2ec0c7788240b034e96235d148b", func := "sediment/sedimentlaw15.StateAborts", spec := "stateAborts", inPlace := ["internal/bytealg.CountString", "internal/bytealg.IndexByteString", "internal/bytealg.IndexString", "maps.clone", "math/bits.Add64"], unfollowed := true, recurses := true, named := ["unicode/utf8.first", "unicode/utf8.acceptRanges", "internal/bytealg.MaxLen"], plainKeys := false, apart := false, laid := [("unicode/utf8.acceptRanges", laid_unicode_utf8_acceptRanges), ("unicode/utf8.first", laid_unicode_utf8_first)] }
def StateAbortsSaid : Prop := stateAbortsRow.holds Tryz.pinned (OpenSpec.ofChange stateAbortsSpec)

/-- ITS FALSE NEIGHBOUR: 'it returns false'. Refute it at one input. -/
def stateAbortsWrong : ChangeSpec := { name := "stateAborts", fn := fun _ => fun
  | [d1, d2, d3, d4, d5] => { results := [.lit (.bool false)], args := [d1, d2, d3, d4, d5] }
  | _ => none }
def StateAbortsWrongFalsely : Prop := stateAbortsRow.holds Tryz.pinned (OpenSpec.ofChange stateAbortsWrong)

/-- 'sedimentlaw20.OplogParts': WHATEVER THE INPUT: true; the input reads as it did. -/
def oplogPartsSpec : ChangeSpec := { name := "oplogParts", fn := fun _ => fun
  | [d1, d2] => { results := [.lit (.bool true)], args := [d1, d2] }
  | _ => none }
def oplogPartsRow : OpenClaim := { program := "ytkfdgodngbinlaagreatdoor", sum := "e48429283447c74e0b47abc277f09d910768a2ec0c7788240b034e96235d148b", func := "sediment/sedimentlaw20.OplogParts", spec := "oplogParts", inPlace := ["internal/bytealg.IndexByteString", "internal/bytealg.IndexString", "internal/bytealg.CountString", "maps.clone", "math/bits.Add64"], unfollowed := true, recurses := true, named := ["unicode/utf8.first", "unicode/utf8.acceptRanges", "internal/bytealg.MaxLen"], plainKeys := false, apart := false, laid := [("unicode/utf8.acceptRanges", laid_unicode_utf8_acceptRanges), ("unicode/utf8.first", laid_unicode_utf8_first)] }
def OplogPartsSaid : Prop := oplogPartsRow.holds Tryz.pinned (OpenSpec.ofChange oplogPartsSpec)

/-- ITS FALSE NEIGHBOUR: 'it returns false'. Refute it at one input. -/
def oplogPartsWrong : ChangeSpec := { name := "oplogParts", fn := fun _ => fun
  | [d1, d2] => { results := [.lit (.bool false)], args := [d1, d2] }
  | _ => none }
def OplogPartsWrongFalsely : Prop := oplogPartsRow.holds Tryz.pinned (OpenSpec.ofChange oplogPartsWrong)

/-- 'sedimentlaw20.OplogText': WHATEVER THE INPUT: true; the input reads as it did. -/
def oplogTextSpec : ChangeSpec := { name := "oplogText", fn := fun _ => fun
  | [d] => { results := [.lit (.bool true)], args := [d] }
  | _ => none }
def oplogTextRow : OpenClaim := { program := "ytkfdgodngbinlaagreatdoor", sum := "e48429283447c74e0b47abc277f09d910768a2ec0c7788240b034e96235d148b", func := "sediment/sedimentlaw20.OplogText", spec := "oplogText", inPlace := ["internal/bytealg.IndexByteString", "internal/bytealg.IndexString", "internal/bytealg.CountString", "maps.clone", "math/bits.Add64"], unfollowed := true, recurses := true, named := ["unicode/utf8.first", "unicode/utf8.acceptRanges", "internal/bytealg.MaxLen"], plainKeys := false, apart := false, laid := [("unicode/utf8.acceptRanges", laid_unicode_utf8_acceptRanges), ("unicode/utf8.first", laid_unicode_utf8_first)] }
def OplogTextSaid : Prop := oplogTextRow.holds Tryz.pinned (OpenSpec.ofChange oplogTextSpec)

/-- ITS FALSE NEIGHBOUR: 'it returns false'. Refute it at one input. -/
def oplogTextWrong : ChangeSpec := { name := "oplogText", fn := fun _ => fun
  | [d] => { results := [.lit (.bool false)], args := [d] }
  | _ => none }
def OplogTextWrongFalsely : Prop := oplogTextRow.holds Tryz.pinned (OpenSpec.ofChange oplogTextWrong)

/- THE SECOND FORM. 'bulk': how many values and letters a reading holds, each counted each time it is reached (what is shared counts as often as it is met; a slice's spare places count too). A statement '..UptoSaid' is the law's where the arguments, and the package variables that the reading takes, are together of bulk at most 1048576: NARROWER than '..Said'. Prove '..Said' where nothing that the law and all that it calls make is longer than what came in: it says more and counts as full. Else prove '..UptoSaid'. A law counts once. -/
mutual
def uptoBulk {H : Type} : DataW H → Nat
  | .lit (.string bytes) => bytes.length + 1
  | .lit _ => 1
  | .nil => 1
  | .ptr d => uptoBulk d + 1
  | .slice elems spare => uptoBulkAll elems + uptoBulkAll spare + 1
  | .agg parts => uptoBulkAll parts + 1
  | .iface _ d => uptoBulk d + 1
  | .map entries => uptoBulkEntries entries + 1
  | .held _ => 1
def uptoBulkAll {H : Type} : List (DataW H) → Nat
  | [] => 0
  | d :: r => uptoBulk d + uptoBulkAll r
def uptoBulkEntries {H : Type} : List (Lit × DataW H) → Nat
  | [] => 0
  | x :: r => uptoBulkEntry x + uptoBulkEntries r
def uptoBulkEntry {H : Type} : Lit × DataW H → Nat
  | (.string bytes, d) => bytes.length + uptoBulk d + 1
  | (_, d) => uptoBulk d + 1
 end
def uptoSmall : (H : Type) → List (DataW H) → Bool := fun _ ds => decide (uptoBulkAll ds ≤ 1048576)
def OpenSpec.upto (s : _root_.Go.ChangeSpec) : _root_.Go.OpenSpec := { _root_.Go.OpenSpec.ofChange s with cond := some uptoSmall }

/-- 'sedimentlaw15.StateSmall', WHERE WHAT IT READS IS OF BULK AT MOST 1048576: true; the input reads as it did. -/
def stateSmallUptoRow : OpenClaim := { program := "ytkfdgodngbinlaagreatdoor", sum := "e48429283447c74e0b47abc277f09d910768a2ec0c7788240b034e96235d148b", func := "sediment/sedimentlaw15.StateSmall", spec := "stateSmall", inPlace := ["internal/bytealg.CountString", "internal/bytealg.IndexByteString", "internal/bytealg.IndexString", "maps.clone", "math/bits.Add64"], unfollowed := true, recurses := true, named := ["unicode/utf8.first", "unicode/utf8.acceptRanges", "internal/bytealg.MaxLen"], plainKeys := false, apart := false, laid := [("unicode/utf8.acceptRanges", laid_unicode_utf8_acceptRanges), ("unicode/utf8.first", laid_unicode_utf8_first)], narrowed := true }
def StateSmallUptoSaid : Prop := stateSmallUptoRow.holds Tryz.pinned (OpenSpec.upto stateSmallSpec)

/-- 'sedimentlaw15.StateRoom', WHERE WHAT IT READS IS OF BULK AT MOST 1048576: true; the input reads as it did. -/
def stateRoomUptoRow : OpenClaim := { program := "ytkfdgodngbinlaagreatdoor", sum := "e48429283447c74e0b47abc277f09d910768a2ec0c7788240b034e96235d148b", func := "sediment/sedimentlaw15.StateRoom", spec := "stateRoom", inPlace := ["internal/bytealg.CountString", "internal/bytealg.IndexByteString", "internal/bytealg.IndexString", "maps.clone", "math/bits.Add64"], unfollowed := true, recurses := true, named := ["unicode/utf8.first", "unicode/utf8.acceptRanges", "internal/bytealg.MaxLen"], plainKeys := false, apart := false, laid := [("unicode/utf8.acceptRanges", laid_unicode_utf8_acceptRanges), ("unicode/utf8.first", laid_unicode_utf8_first)], narrowed := true }
def StateRoomUptoSaid : Prop := stateRoomUptoRow.holds Tryz.pinned (OpenSpec.upto stateRoomSpec)

/-- 'sedimentlaw15.StateCopies', WHERE WHAT IT READS IS OF BULK AT MOST 1048576: true; the input reads as it did. -/
def stateCopiesUptoRow : OpenClaim := { program := "ytkfdgodngbinlaagreatdoor", sum := "e48429283447c74e0b47abc277f09d910768a2ec0c7788240b034e96235d148b", func := "sediment/sedimentlaw15.StateCopies", spec := "stateCopies", inPlace := ["internal/bytealg.CountString", "internal/bytealg.IndexByteString", "internal/bytealg.IndexString", "maps.clone", "math/bits.Add64"], unfollowed := true, recurses := true, named := ["unicode/utf8.first", "unicode/utf8.acceptRanges", "internal/bytealg.MaxLen"], plainKeys := false, apart := false, laid := [("unicode/utf8.acceptRanges", laid_unicode_utf8_acceptRanges), ("unicode/utf8.first", laid_unicode_utf8_first)], narrowed := true }
def StateCopiesUptoSaid : Prop := stateCopiesUptoRow.holds Tryz.pinned (OpenSpec.upto stateCopiesSpec)

/-- 'sedimentlaw15.StatePending', WHERE WHAT IT READS IS OF BULK AT MOST 1048576: true; the input reads as it did. -/
def statePendingUptoRow : OpenClaim := { program := "ytkfdgodngbinlaagreatdoor", sum := "e48429283447c74e0b47abc277f09d910768a2ec0c7788240b034e96235d148b", func := "sediment/sedimentlaw15.StatePending", spec := "statePending", inPlace := ["internal/bytealg.CountString", "internal/bytealg.IndexByteString", "internal/bytealg.IndexString", "maps.clone", "math/bits.Add64"], unfollowed := true, recurses := true, named := ["unicode/utf8.first", "unicode/utf8.acceptRanges", "internal/bytealg.MaxLen"], plainKeys := false, apart := false, laid := [("unicode/utf8.acceptRanges", laid_unicode_utf8_acceptRanges), ("unicode/utf8.first", laid_unicode_utf8_first)], narrowed := true }
def StatePendingUptoSaid : Prop := statePendingUptoRow.holds Tryz.pinned (OpenSpec.upto statePendingSpec)

/-- 'sedimentlaw15.StateAborts', WHERE WHAT IT READS IS OF BULK AT MOST 1048576: true; the input reads as it did. -/
def stateAbortsUptoRow : OpenClaim := { program := "ytkfdgodngbinlaagreatdoor", sum := "e48429283447c74e0b47abc277f09d910768a2ec0c7788240b034e96235d148b", func := "sediment/sedimentlaw15.StateAborts", spec := "stateAborts", inPlace := ["internal/bytealg.CountString", "internal/bytealg.IndexByteString", "internal/bytealg.IndexString", "maps.clone", "math/bits.Add64"], unfollowed := true, recurses := true, named := ["unicode/utf8.first", "unicode/utf8.acceptRanges", "internal/bytealg.MaxLen"], plainKeys := false, apart := false, laid := [("unicode/utf8.acceptRanges", laid_unicode_utf8_acceptRanges), ("unicode/utf8.first", laid_unicode_utf8_first)], narrowed := true }
def StateAbortsUptoSaid : Prop := stateAbortsUptoRow.holds Tryz.pinned (OpenSpec.upto stateAbortsSpec)

/-- 'sedimentlaw20.OplogParts', WHERE WHAT IT READS IS OF BULK AT MOST 1048576: true; the input reads as it did. -/
def oplogPartsUptoRow : OpenClaim := { program := "ytkfdgodngbinlaagreatdoor", sum := "e48429283447c74e0b47abc277f09d910768a2ec0c7788240b034e96235d148b", func := "sediment/sedimentlaw20.OplogParts", spec := "oplogParts", inPlace := ["internal/bytealg.IndexByteString", "internal/bytealg.IndexString", "internal/bytealg.CountString", "maps.clone", "math/bits.Add64"], unfollowed := true, recurses := true, named := ["unicode/utf8.first", "unicode/utf8.acceptRanges", "internal/bytealg.MaxLen"], plainKeys := false, apart := false, laid := [("unicode/utf8.acceptRanges", laid_unicode_utf8_acceptRanges), ("unicode/utf8.first", laid_unicode_utf8_first)], narrowed := true }
def OplogPartsUptoSaid : Prop := oplogPartsUptoRow.holds Tryz.pinned (OpenSpec.upto oplogPartsSpec)

/-- 'sedimentlaw20.OplogText', WHERE WHAT IT READS IS OF BULK AT MOST 1048576: true; the input reads as it did. -/
def oplogTextUptoRow : OpenClaim := { program := "ytkfdgodngbinlaagreatdoor", sum := "e48429283447c74e0b47abc277f09d910768a2ec0c7788240b034e96235d148b", func := "sediment/sedimentlaw20.OplogText", spec := "oplogText", inPlace := ["internal/bytealg.IndexByteString", "internal/bytealg.IndexString", "internal/bytealg.CountString", "maps.clone", "math/bits.Add64"], unfollowed := true, recurses := true, named := ["unicode/utf8.first", "unicode/utf8.acceptRanges", "internal/bytealg.MaxLen"], plainKeys := false, apart := false, laid := [("unicode/utf8.acceptRanges", laid_unicode_utf8_acceptRanges), ("unicode/utf8.first", laid_unicode_utf8_first)], narrowed := true }
def OplogTextUptoSaid : Prop := oplogTextUptoRow.holds Tryz.pinned (OpenSpec.upto oplogTextSpec)

end Rows
end Go.Proofs.YtkfdgodngbinlaaGreatDoor
