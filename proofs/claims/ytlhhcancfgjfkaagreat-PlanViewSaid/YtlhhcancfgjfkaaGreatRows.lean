/-
  No cell of these rows narrows 'for every input' (looked for: loops, veiled, ifaces, maps, wideKeys, modest, calm, conditions, laid).
  DERIVED. THE GIVEN ROWS OF THIS SEAT. 4 by the template 'for every input the law returns true; each argument reads behind the call as it read before'; 0 by the template 'total and deterministic' (their statements: YtlhhcancfgjfkaaGreatTotals.lean).
  GIVEN WITH THE SEED: the statements are not yours to turn. If you find one false, say at which input.
  Laid BY PROGRAM, IN A SANDBOX (cutbox-rows.mjs): the forced cells as the released guide's own fill.sh prints them over the translation 7c8a85920f3a7371… (all of the seat's roots in one cut). By AI agents, Wed Nov 11 2026. No macro, syntax, notation, axiom, sorry.
-/
import Derived.Test.YtlhhcancfgjfkaaGreatChecked
import GoSem.Claim
import GoSem.ClaimJoined
import GoSem.ClaimMapViews
import Derived.JoinedTies
import Derived.KernelRfl
namespace Go.Proofs.YtlhhcancfgjfkaaGreat
/- THE CELL 'sum', in the pinned program and in every row, IS THE sha256 OF THE DUMP (.gsa) THAT YtlhhcancfgjfkaaGreatProg.lean LOADS. Nothing in Lean hashes anything: it is a label: what it is worth is what the hold of that sum in a sandbox is worth. -/
noncomputable def Tryz.pinned : Pinned := { name := "ytlhhcancfgjfkaagreat", sum := "7c8a85920f3a73710c794acbcda7228279647de8d14e7e3087c5d8f7583e9d06", checked := Tryz.checked }
namespace Rows
def none {H : Type} : Left H := { results := [], args := [] }

/-- 'sedimentlaw11.TiersView': WHATEVER THE INPUT: true; the input reads as it did. -/
def tiersViewSpec : ChangeSpec := { name := "tiersView", fn := fun _ => fun
  | [d1, d2, d3, d4] => { results := [.lit (.bool true)], args := [d1, d2, d3, d4] }
  | _ => none }
def tiersViewRow : OpenClaim := { program := "ytlhhcancfgjfkaagreat", sum := "7c8a85920f3a73710c794acbcda7228279647de8d14e7e3087c5d8f7583e9d06", func := "sediment/sedimentlaw11.TiersView", spec := "tiersView", inPlace := ["math/bits.Add64", "maps.clone"], unfollowed := true, recurses := true, plainKeys := false, apart := false }
def TiersViewSaid : Prop := tiersViewRow.holds Tryz.pinned (OpenSpec.ofChange tiersViewSpec)

/-- ITS FALSE NEIGHBOUR: 'it returns false'. Refute it at one input. -/
def tiersViewWrong : ChangeSpec := { name := "tiersView", fn := fun _ => fun
  | [d1, d2, d3, d4] => { results := [.lit (.bool false)], args := [d1, d2, d3, d4] }
  | _ => none }
def TiersViewWrongFalsely : Prop := tiersViewRow.holds Tryz.pinned (OpenSpec.ofChange tiersViewWrong)

/-- 'sedimentlaw13.PlanView': WHATEVER THE INPUT: true; the input reads as it did. -/
def planViewSpec : ChangeSpec := { name := "planView", fn := fun _ => fun
  | [d1, d2, d3, d4] => { results := [.lit (.bool true)], args := [d1, d2, d3, d4] }
  | _ => none }
def planViewRow : OpenClaim := { program := "ytlhhcancfgjfkaagreat", sum := "7c8a85920f3a73710c794acbcda7228279647de8d14e7e3087c5d8f7583e9d06", func := "sediment/sedimentlaw13.PlanView", spec := "planView", inPlace := ["math/bits.Add64", "maps.clone"], unfollowed := true, recurses := true, plainKeys := false, apart := false }
def PlanViewSaid : Prop := planViewRow.holds Tryz.pinned (OpenSpec.ofChange planViewSpec)

/-- ITS FALSE NEIGHBOUR: 'it returns false'. Refute it at one input. -/
def planViewWrong : ChangeSpec := { name := "planView", fn := fun _ => fun
  | [d1, d2, d3, d4] => { results := [.lit (.bool false)], args := [d1, d2, d3, d4] }
  | _ => none }
def PlanViewWrongFalsely : Prop := planViewRow.holds Tryz.pinned (OpenSpec.ofChange planViewWrong)

/-- 'sedimentlaw11.TiersPlays': WHATEVER THE INPUT: true; the input reads as it did. -/
def tiersPlaysSpec : ChangeSpec := { name := "tiersPlays", fn := fun _ => fun
  | [d1, d2, d3, d4, d5, d6, d7] => { results := [.lit (.bool true)], args := [d1, d2, d3, d4, d5, d6, d7] }
  | _ => none }
def tiersPlaysRow : OpenClaim := { program := "ytlhhcancfgjfkaagreat", sum := "7c8a85920f3a73710c794acbcda7228279647de8d14e7e3087c5d8f7583e9d06", func := "sediment/sedimentlaw11.TiersPlays", spec := "tiersPlays", inPlace := ["math/bits.Add64", "maps.clone"], unfollowed := true, recurses := true, plainKeys := false, apart := false }
def TiersPlaysSaid : Prop := tiersPlaysRow.holds Tryz.pinned (OpenSpec.ofChange tiersPlaysSpec)

/-- ITS FALSE NEIGHBOUR: 'it returns false'. Refute it at one input. -/
def tiersPlaysWrong : ChangeSpec := { name := "tiersPlays", fn := fun _ => fun
  | [d1, d2, d3, d4, d5, d6, d7] => { results := [.lit (.bool false)], args := [d1, d2, d3, d4, d5, d6, d7] }
  | _ => none }
def TiersPlaysWrongFalsely : Prop := tiersPlaysRow.holds Tryz.pinned (OpenSpec.ofChange tiersPlaysWrong)

/-- 'sedimentlaw13.PlanBuilds': WHATEVER THE INPUT: true; the input reads as it did. -/
def planBuildsSpec : ChangeSpec := { name := "planBuilds", fn := fun _ => fun
  | [d1, d2, d3, d4, d5, d6, d7] => { results := [.lit (.bool true)], args := [d1, d2, d3, d4, d5, d6, d7] }
  | _ => none }
def planBuildsRow : OpenClaim := { program := "ytlhhcancfgjfkaagreat", sum := "7c8a85920f3a73710c794acbcda7228279647de8d14e7e3087c5d8f7583e9d06", func := "sediment/sedimentlaw13.PlanBuilds", spec := "planBuilds", inPlace := ["math/bits.Add64", "maps.clone"], unfollowed := true, recurses := true, plainKeys := false, apart := false }
def PlanBuildsSaid : Prop := planBuildsRow.holds Tryz.pinned (OpenSpec.ofChange planBuildsSpec)

/-- ITS FALSE NEIGHBOUR: 'it returns false'. Refute it at one input. -/
def planBuildsWrong : ChangeSpec := { name := "planBuilds", fn := fun _ => fun
  | [d1, d2, d3, d4, d5, d6, d7] => { results := [.lit (.bool false)], args := [d1, d2, d3, d4, d5, d6, d7] }
  | _ => none }
def PlanBuildsWrongFalsely : Prop := planBuildsRow.holds Tryz.pinned (OpenSpec.ofChange planBuildsWrong)

/- THE SECOND FORM. 'bulk': how many values and letters a reading holds, each counted each time it is reached (what is shared counts as often as it is met; a slice's spare places count too). A statement '..UptoSaid' is the law's where the arguments, and the package variables that the reading takes, are together of bulk at most 1048576: NARROWER than '..Said'. Prove '..Said' where nothing that the law and all that it calls make is longer than what came in: it says more and counts as full. Else prove '..UptoSaid'. A law counts once. -/
mutual
def uptoBulk {H : Type} : DataW H → Nat
  | .lit (.string bytes) => bytes.length + 1
  | .lit _ => 1
  | .nil => 1
  | .ptr d => uptoBulk d + 1
  | .slice elems spare => uptoBulkAll elems + uptoBulkAll spare + 1
  | .agg parts => uptoBulkAll parts + 1
  | .iface _ d => uptoBulk d + 1
  | .map entries => uptoBulkEntries entries + 1
  | .held _ => 1
def uptoBulkAll {H : Type} : List (DataW H) → Nat
  | [] => 0
  | d :: r => uptoBulk d + uptoBulkAll r
def uptoBulkEntries {H : Type} : List (Lit × DataW H) → Nat
  | [] => 0
  | x :: r => uptoBulkEntry x + uptoBulkEntries r
def uptoBulkEntry {H : Type} : Lit × DataW H → Nat
  | (.string bytes, d) => bytes.length + uptoBulk d + 1
  | (_, d) => uptoBulk d + 1
 end
def uptoSmall : (H : Type) → List (DataW H) → Bool := fun _ ds => decide (uptoBulkAll ds ≤ 1048576)
def OpenSpec.upto (s : _root_.Go.ChangeSpec) : _root_.Go.OpenSpec := { _root_.Go.OpenSpec.ofChange s with cond := some uptoSmall }

/-- 'sedimentlaw11.TiersView', WHERE WHAT IT READS IS OF BULK AT MOST 1048576: true; the input reads as it did. -/
def tiersViewUptoRow : OpenClaim := { program := "ytlhhcancfgjfkaagreat", sum := "7c8a85920f3a73710c794acbcda7228279647de8d14e7e3087c5d8f7583e9d06", func := "sediment/sedimentlaw11.TiersView", spec := "tiersView", inPlace := ["math/bits.Add64", "maps.clone"], unfollowed := true, recurses := true, plainKeys := false, apart := false, narrowed := true }
def TiersViewUptoSaid : Prop := tiersViewUptoRow.holds Tryz.pinned (OpenSpec.upto tiersViewSpec)

/-- 'sedimentlaw13.PlanView', WHERE WHAT IT READS IS OF BULK AT MOST 1048576: true; the input reads as it did. -/
def planViewUptoRow : OpenClaim := { program := "ytlhhcancfgjfkaagreat", sum := "7c8a85920f3a73710c794acbcda7228279647de8d14e7e3087c5d8f7583e9d06", func := "sediment/sedimentlaw13.PlanView", spec := "planView", inPlace := ["math/bits.Add64", "maps.clone"], unfollowed := true, recurses := true, plainKeys := false, apart := false, narrowed := true }
def PlanViewUptoSaid : Prop := planViewUptoRow.holds Tryz.pinned (OpenSpec.upto planViewSpec)

/-- 'sedimentlaw11.TiersPlays', WHERE WHAT IT READS IS OF BULK AT MOST 1048576: true; the input reads as it did. -/
def tiersPlaysUptoRow : OpenClaim := { program := "ytlhhcancfgjfkaagreat", sum := "7c8a85920f3a73710c794acbcda7228279647de8d14e7e3087c5d8f7583e9d06", func := "sediment/sedimentlaw11.TiersPlays", spec := "tiersPlays", inPlace := ["math/bits.Add64", "maps.clone"], unfollowed := true, recurses := true, plainKeys := false, apart := false, narrowed := true }
def TiersPlaysUptoSaid : Prop := tiersPlaysUptoRow.holds Tryz.pinned (OpenSpec.upto tiersPlaysSpec)

/-- 'sedimentlaw13.PlanBuilds', WHERE WHAT IT READS IS OF BULK AT MOST 1048576: true; the input reads as it did. -/
def planBuildsUptoRow : OpenClaim := { program := "ytlhhcancfgjfkaagreat", sum := "7c8a85920f3a73710c794acbcda7228279647de8d14e7e3087c5d8f7583e9d06", func := "sediment/sedimentlaw13.PlanBuilds", spec := "planBuilds", inPlace := ["math/bits.Add64", "maps.clone"], unfollowed := true, recurses := true, plainKeys := false, apart := false, narrowed := true }
def PlanBuildsUptoSaid : Prop := planBuildsUptoRow.holds Tryz.pinned (OpenSpec.upto planBuildsSpec)

end Rows
end Go.Proofs.YtlhhcancfgjfkaaGreat
