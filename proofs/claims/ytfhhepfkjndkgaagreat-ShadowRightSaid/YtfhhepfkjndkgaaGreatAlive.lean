/- Walk of sedimentlaw13.alive. -/
import Derived.Test.YtfhhepfkjndkgaaGreatBound
import Derived.Deep.DeepCutAuto
import Derived.Deep.RegionWith
namespace Go.Proofs.YtfhhepfkjndkgaaGreat
set_option linter.all false
open Go.RowKit

theorem web_ok : checkB webN webT = true := by decide +kernel
theorem fif_ok : checkB fifN fifT = true := by decide +kernel
theorem fif_steps : stepsV fifT = 6 := by decide +kernel
theorem wf_web : ∀ t ∈ webT, t.wf := by
 intro t ht
 simp only [webT, List.mem_cons, List.not_mem_nil, or_false] at ht
 rcases ht with rfl | rfl <;> (unfold TierV.wf i64 maxLen; decide)
theorem wf_fif : ∀ t ∈ fifT, t.wf := by
 intro t ht
 simp only [fifT, List.mem_cons, List.not_mem_nil, or_false] at ht
 rcases ht with rfl | rfl <;> (unfold TierV.wf i64 maxLen; decide)
theorem sh_fif : ∀ t ∈ fifT, t.shards ≤ 8 := by decide +kernel


end Go.Proofs.YtfhhepfkjndkgaaGreat
