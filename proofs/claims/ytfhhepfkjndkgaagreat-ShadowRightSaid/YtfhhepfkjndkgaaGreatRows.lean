/-
  No cell of these rows narrows 'for every input' (looked for: loops, veiled, ifaces, maps, wideKeys, modest, calm, conditions, laid).
  DERIVED. THE GIVEN ROWS OF THIS SEAT. 5 by the template 'for every input the law returns true; each argument reads behind the call as it read before'; 0 by the template 'total and deterministic' (their statements: YtfhhepfkjndkgaaGreatTotals.lean).
  GIVEN WITH THE SEED: the statements are not yours to turn. If you find one false, say at which input.
  Laid BY PROGRAM, IN A SANDBOX (cutbox-rows.mjs): the forced cells as the released guide's own fill.sh prints them over the translation c25313c0cafea057… (all of the seat's roots in one cut). By AI agents, Wed Nov 11 2026. No macro, syntax, notation, axiom, sorry.
-/
import Derived.Test.YtfhhepfkjndkgaaGreatChecked
import GoSem.Claim
import GoSem.ClaimJoined
import GoSem.ClaimMapViews
import Derived.JoinedTies
import Derived.KernelRfl
namespace Go.Proofs.YtfhhepfkjndkgaaGreat
/- THE CELL 'sum', in the pinned program and in every row, IS THE sha256 OF THE DUMP (.gsa) THAT YtfhhepfkjndkgaaGreatProg.lean LOADS. Nothing in Lean hashes anything: it is a label: what it is worth is what the hold of that sum in a sandbox is worth. -/
noncomputable def Tryz.pinned : Pinned := { name := "ytfhhepfkjndkgaagreat", sum := "c25313c0cafea05721a36306fcef6d54625f0869ceaa888dfd360627af1753ec", checked := Tryz.checked }
namespace Rows
def none {H : Type} : Left H := { results := [], args := [] }

/-- 'sedimentlaw14.ShadowChecks': WHATEVER THE INPUT: true; the input reads as it did. -/
def shadowChecksSpec : ChangeSpec := { name := "shadowChecks", fn := fun _ => fun
  | [d1, d2, d3, d4, d5, d6] => { results := [.lit (.bool true)], args := [d1, d2, d3, d4, d5, d6] }
  | _ => none }
def shadowChecksRow : OpenClaim := { program := "ytfhhepfkjndkgaagreat", sum := "c25313c0cafea05721a36306fcef6d54625f0869ceaa888dfd360627af1753ec", func := "sediment/sedimentlaw14.ShadowChecks", spec := "shadowChecks", inPlace := ["math/bits.Add64", "maps.clone"], unfollowed := true, recurses := true, plainKeys := false, apart := false }
def ShadowChecksSaid : Prop := shadowChecksRow.holds Tryz.pinned (OpenSpec.ofChange shadowChecksSpec)

/-- ITS FALSE NEIGHBOUR: 'it returns false'. Refute it at one input. -/
def shadowChecksWrong : ChangeSpec := { name := "shadowChecks", fn := fun _ => fun
  | [d1, d2, d3, d4, d5, d6] => { results := [.lit (.bool false)], args := [d1, d2, d3, d4, d5, d6] }
  | _ => none }
def ShadowChecksWrongFalsely : Prop := shadowChecksRow.holds Tryz.pinned (OpenSpec.ofChange shadowChecksWrong)

/-- 'sedimentlaw14.ShadowNone': WHATEVER THE INPUT: true; the input reads as it did. -/
def shadowNoneSpec : ChangeSpec := { name := "shadowNone", fn := fun _ => fun
  | [d1, d2] => { results := [.lit (.bool true)], args := [d1, d2] }
  | _ => none }
def shadowNoneRow : OpenClaim := { program := "ytfhhepfkjndkgaagreat", sum := "c25313c0cafea05721a36306fcef6d54625f0869ceaa888dfd360627af1753ec", func := "sediment/sedimentlaw14.ShadowNone", spec := "shadowNone", inPlace := ["math/bits.Add64", "maps.clone"], unfollowed := true, recurses := true, plainKeys := false, apart := false }
def ShadowNoneSaid : Prop := shadowNoneRow.holds Tryz.pinned (OpenSpec.ofChange shadowNoneSpec)

/-- ITS FALSE NEIGHBOUR: 'it returns false'. Refute it at one input. -/
def shadowNoneWrong : ChangeSpec := { name := "shadowNone", fn := fun _ => fun
  | [d1, d2] => { results := [.lit (.bool false)], args := [d1, d2] }
  | _ => none }
def ShadowNoneWrongFalsely : Prop := shadowNoneRow.holds Tryz.pinned (OpenSpec.ofChange shadowNoneWrong)

/-- 'sedimentlaw14.ShadowResumes': WHATEVER THE INPUT: true; the input reads as it did. -/
def shadowResumesSpec : ChangeSpec := { name := "shadowResumes", fn := fun _ => fun
  | [d1, d2, d3, d4, d5, d6] => { results := [.lit (.bool true)], args := [d1, d2, d3, d4, d5, d6] }
  | _ => none }
def shadowResumesRow : OpenClaim := { program := "ytfhhepfkjndkgaagreat", sum := "c25313c0cafea05721a36306fcef6d54625f0869ceaa888dfd360627af1753ec", func := "sediment/sedimentlaw14.ShadowResumes", spec := "shadowResumes", inPlace := ["math/bits.Add64", "maps.clone"], unfollowed := true, recurses := true, plainKeys := false, apart := false }
def ShadowResumesSaid : Prop := shadowResumesRow.holds Tryz.pinned (OpenSpec.ofChange shadowResumesSpec)

/-- ITS FALSE NEIGHBOUR: 'it returns false'. Refute it at one input. -/
def shadowResumesWrong : ChangeSpec := { name := "shadowResumes", fn := fun _ => fun
  | [d1, d2, d3, d4, d5, d6] => { results := [.lit (.bool false)], args := [d1, d2, d3, d4, d5, d6] }
  | _ => none }
def ShadowResumesWrongFalsely : Prop := shadowResumesRow.holds Tryz.pinned (OpenSpec.ofChange shadowResumesWrong)

/-- 'sedimentlaw14.ShadowRight': WHATEVER THE INPUT: true; the input reads as it did. -/
def shadowRightSpec : ChangeSpec := { name := "shadowRight", fn := fun _ => fun
  | [d1, d2, d3, d4, d5, d6] => { results := [.lit (.bool true)], args := [d1, d2, d3, d4, d5, d6] }
  | _ => none }
def shadowRightRow : OpenClaim := { program := "ytfhhepfkjndkgaagreat", sum := "c25313c0cafea05721a36306fcef6d54625f0869ceaa888dfd360627af1753ec", func := "sediment/sedimentlaw14.ShadowRight", spec := "shadowRight", inPlace := ["math/bits.Add64", "maps.clone"], unfollowed := true, recurses := true, plainKeys := false, apart := false }
def ShadowRightSaid : Prop := shadowRightRow.holds Tryz.pinned (OpenSpec.ofChange shadowRightSpec)

/-- ITS FALSE NEIGHBOUR: 'it returns false'. Refute it at one input. -/
def shadowRightWrong : ChangeSpec := { name := "shadowRight", fn := fun _ => fun
  | [d1, d2, d3, d4, d5, d6] => { results := [.lit (.bool false)], args := [d1, d2, d3, d4, d5, d6] }
  | _ => none }
def ShadowRightWrongFalsely : Prop := shadowRightRow.holds Tryz.pinned (OpenSpec.ofChange shadowRightWrong)

/-- 'sedimentlaw14.ShadowPlays': WHATEVER THE INPUT: true; the input reads as it did. -/
def shadowPlaysSpec : ChangeSpec := { name := "shadowPlays", fn := fun _ => fun
  | [d1, d2, d3, d4, d5, d6, d7, d8] => { results := [.lit (.bool true)], args := [d1, d2, d3, d4, d5, d6, d7, d8] }
  | _ => none }
def shadowPlaysRow : OpenClaim := { program := "ytfhhepfkjndkgaagreat", sum := "c25313c0cafea05721a36306fcef6d54625f0869ceaa888dfd360627af1753ec", func := "sediment/sedimentlaw14.ShadowPlays", spec := "shadowPlays", inPlace := ["math/bits.Add64", "maps.clone"], unfollowed := true, recurses := true, plainKeys := false, apart := false }
def ShadowPlaysSaid : Prop := shadowPlaysRow.holds Tryz.pinned (OpenSpec.ofChange shadowPlaysSpec)

/-- ITS FALSE NEIGHBOUR: 'it returns false'. Refute it at one input. -/
def shadowPlaysWrong : ChangeSpec := { name := "shadowPlays", fn := fun _ => fun
  | [d1, d2, d3, d4, d5, d6, d7, d8] => { results := [.lit (.bool false)], args := [d1, d2, d3, d4, d5, d6, d7, d8] }
  | _ => none }
def ShadowPlaysWrongFalsely : Prop := shadowPlaysRow.holds Tryz.pinned (OpenSpec.ofChange shadowPlaysWrong)

/- THE SECOND FORM. 'bulk': how many values and letters a reading holds, each counted each time it is reached (what is shared counts as often as it is met; a slice's spare places count too). A statement '..UptoSaid' is the law's where the arguments, and the package variables that the reading takes, are together of bulk at most 1048576: NARROWER than '..Said'. Prove '..Said' where nothing that the law and all that it calls make is longer than what came in: it says more and counts as full. Else prove '..UptoSaid'. A law counts once. -/
mutual
def uptoBulk {H : Type} : DataW H → Nat
  | .lit (.string bytes) => bytes.length + 1
  | .lit _ => 1
  | .nil => 1
  | .ptr d => uptoBulk d + 1
  | .slice elems spare => uptoBulkAll elems + uptoBulkAll spare + 1
  | .agg parts => uptoBulkAll parts + 1
  | .iface _ d => uptoBulk d + 1
  | .map entries => uptoBulkEntries entries + 1
  | .held _ => 1
def uptoBulkAll {H : Type} : List (DataW H) → Nat
  | [] => 0
  | d :: r => uptoBulk d + uptoBulkAll r
def uptoBulkEntries {H : Type} : List (Lit × DataW H) → Nat
  | [] => 0
  | x :: r => uptoBulkEntry x + uptoBulkEntries r
def uptoBulkEntry {H : Type} : Lit × DataW H → Nat
  | (.string bytes, d) => bytes.length + uptoBulk d + 1
  | (_, d) => uptoBulk d + 1
 end
def uptoSmall : (H : Type) → List (DataW H) → Bool := fun _ ds => decide (uptoBulkAll ds ≤ 1048576)
def OpenSpec.upto (s : _root_.Go.ChangeSpec) : _root_.Go.OpenSpec := { _root_.Go.OpenSpec.ofChange s with cond := some uptoSmall }

/-- 'sedimentlaw14.ShadowChecks', WHERE WHAT IT READS IS OF BULK AT MOST 1048576: true; the input reads as it did. -/
def shadowChecksUptoRow : OpenClaim := { program := "ytfhhepfkjndkgaagreat", sum := "c25313c0cafea05721a36306fcef6d54625f0869ceaa888dfd360627af1753ec", func := "sediment/sedimentlaw14.ShadowChecks", spec := "shadowChecks", inPlace := ["math/bits.Add64", "maps.clone"], unfollowed := true, recurses := true, plainKeys := false, apart := false, narrowed := true }
def ShadowChecksUptoSaid : Prop := shadowChecksUptoRow.holds Tryz.pinned (OpenSpec.upto shadowChecksSpec)

/-- 'sedimentlaw14.ShadowNone', WHERE WHAT IT READS IS OF BULK AT MOST 1048576: true; the input reads as it did. -/
def shadowNoneUptoRow : OpenClaim := { program := "ytfhhepfkjndkgaagreat", sum := "c25313c0cafea05721a36306fcef6d54625f0869ceaa888dfd360627af1753ec", func := "sediment/sedimentlaw14.ShadowNone", spec := "shadowNone", inPlace := ["math/bits.Add64", "maps.clone"], unfollowed := true, recurses := true, plainKeys := false, apart := false, narrowed := true }
def ShadowNoneUptoSaid : Prop := shadowNoneUptoRow.holds Tryz.pinned (OpenSpec.upto shadowNoneSpec)

/-- 'sedimentlaw14.ShadowResumes', WHERE WHAT IT READS IS OF BULK AT MOST 1048576: true; the input reads as it did. -/
def shadowResumesUptoRow : OpenClaim := { program := "ytfhhepfkjndkgaagreat", sum := "c25313c0cafea05721a36306fcef6d54625f0869ceaa888dfd360627af1753ec", func := "sediment/sedimentlaw14.ShadowResumes", spec := "shadowResumes", inPlace := ["math/bits.Add64", "maps.clone"], unfollowed := true, recurses := true, plainKeys := false, apart := false, narrowed := true }
def ShadowResumesUptoSaid : Prop := shadowResumesUptoRow.holds Tryz.pinned (OpenSpec.upto shadowResumesSpec)

/-- 'sedimentlaw14.ShadowRight', WHERE WHAT IT READS IS OF BULK AT MOST 1048576: true; the input reads as it did. -/
def shadowRightUptoRow : OpenClaim := { program := "ytfhhepfkjndkgaagreat", sum := "c25313c0cafea05721a36306fcef6d54625f0869ceaa888dfd360627af1753ec", func := "sediment/sedimentlaw14.ShadowRight", spec := "shadowRight", inPlace := ["math/bits.Add64", "maps.clone"], unfollowed := true, recurses := true, plainKeys := false, apart := false, narrowed := true }
def ShadowRightUptoSaid : Prop := shadowRightUptoRow.holds Tryz.pinned (OpenSpec.upto shadowRightSpec)

/-- 'sedimentlaw14.ShadowPlays', WHERE WHAT IT READS IS OF BULK AT MOST 1048576: true; the input reads as it did. -/
def shadowPlaysUptoRow : OpenClaim := { program := "ytfhhepfkjndkgaagreat", sum := "c25313c0cafea05721a36306fcef6d54625f0869ceaa888dfd360627af1753ec", func := "sediment/sedimentlaw14.ShadowPlays", spec := "shadowPlays", inPlace := ["math/bits.Add64", "maps.clone"], unfollowed := true, recurses := true, plainKeys := false, apart := false, narrowed := true }
def ShadowPlaysUptoSaid : Prop := shadowPlaysUptoRow.holds Tryz.pinned (OpenSpec.upto shadowPlaysSpec)

end Rows
end Go.Proofs.YtfhhepfkjndkgaaGreat
