/- An api.Policy that came in. -/
import Derived.Test.YtaakghjbbkgbdaaGreatDoorOpenRec
import Derived.Test.YtaakghjbbkgbdaaGreatDoorFills
import Derived.Test.YtaakghjbbkgbdaaGreatDoorOpC
namespace Go.Proofs.YtaakghjbbkgbdaaGreatDoor
set_option linter.all false
open Go.ChangeShapes Go.WideShapes Go.ChangeAt Go.RowKit

end Go.Proofs.YtaakghjbbkgbdaaGreatDoor
namespace Go.Proofs.YtaakghjbbkgbdaaGreatDoor
set_option linter.all false
open Go.ChangeShapes Go.WideShapes Go.ChangeAt Go.RowKit

set_option maxRecDepth 100000 in
theorem in_sample {H : Type} {enc : TypeId × Value → H} {w : World} {r : Reach} {b0 : Nat} {v : Value} {d : DataW H} {ps : List MemPlace} (hv : Value.okWide Tryz.prog w r b0 100 v) (h : DataW.Trod enc Tryz.prog w 0 (fun _ => true) true 100 v d ps) :
  ∃ s : SampV, v = .agg #[.string s.name, .int .i64 s.time, .int .i64 s.value] ∧ s.wf := by
 obtain ⟨cs, rfl, hcs⟩ := okWide_agg Tryz.underlying100 hv
 have h := Dat.of h
 rw [hcs] at h
 obtain ⟨s, rfl, hs⟩ := dat_samp h
 exact ⟨s, rfl, hs⟩
end Go.Proofs.YtaakghjbbkgbdaaGreatDoor
namespace Go.Proofs.YtaakghjbbkgbdaaGreatDoor
set_option linter.all false
open Go.RowKit

end Go.Proofs.YtaakghjbbkgbdaaGreatDoor
