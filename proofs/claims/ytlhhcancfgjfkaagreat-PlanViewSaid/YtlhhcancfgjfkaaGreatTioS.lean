/- Tiers stand while a row of samples turns, and the other way round. -/
import Derived.Test.YtlhhcancfgjfkaaGreatTio
namespace Go.Proofs.YtlhhcancfgjfkaaGreat
set_option linter.all false
open Go.RowKit

section
variable {nm : ByteArray} {l : List TierV} {fl : List Int} {lo : Nat} {w w' : World} {t : Nat} {X : TiersX} {F G : Nat → Prop} {c : Nat}
theorem TiersOn.frS {base : Nat} (h : TiersOn w t base X F) (hf : Fr G w w') (hG : ∀ j, G j → ∃ cs fz, w.heap[j]? = some (.cells cs 103 fz)) : TiersOn w' t base X F := by
  obtain ⟨A, c, B, d, T, ct, tb, hi, rfl⟩ := h
  have hrow : ∀ {e : TypeId} {size n base' : Nat} {v : Value} {xs : List Value}, w.ownsRow base' e size v n xs → e ≠ 103 → ∀ j, rowF v j → ¬ G j := fun ho hne j hj hg => by
    obtain ⟨cs', fz', hc⟩ := own_ty ho hj
    obtain ⟨cs, fz, hb⟩ := hG j hg
    rw [hb] at hc
    injection hc with hc
    injection hc with _ hc _
    exact hne hc.symm
  have hblk : ∀ {g' : Nat} {ty : TypeId} {cs : Array Value}, Blk w g' ty cs → ty ≠ 103 → ¬ G g' := fun {g' ty cs} hB hne hg => by
    have hb0 : w.heap[g']? = some (Obj.cells cs ty (0, 0)) := hB
    obtain ⟨cs, fz, hb⟩ := hG g' hg
    rw [hb] at hb0
    injection hb0 with hc
    injection hc with _ hc _
    exact hne hc.symm
  have hmap : ∀ j, tM tb j → ¬ G j := fun j hj hg => by
    obtain ⟨_, _, es, ck, hbm⟩ := hi.map_ hj
    obtain ⟨cs, fz, hb⟩ := hG j hg
    rw [hb] at hbm
    cases hbm
  refine ⟨A, c, B, d, T, ct, tb, ⟨hi.blk.fr hf (hblk hi.blk (by decide)), own_fr hi.tiers hf (hrow hi.tiers (by decide)), own_fr hi.floors hf (hrow hi.floors (by decide)), own_fr hi.row hf (hrow hi.row (by decide)), hi.tlen, fun i p x l h1 h2 h3 => ?_, hi.nodup, hi.ge, hi.tge⟩, rfl⟩
  have hT := hi.tab i p x l h1 h2 h3
  exact hT.fr hf (hblk hT.blk (by decide)) (hmap p.2 ⟨p, List.mem_of_getElem? h1, rfl⟩)
theorem Tio.frS (h : Tio nm l fl lo w t X F c) (hf : Fr G w w') (hG : ∀ j, G j → ∃ cs fz, w.heap[j]? = some (.cells cs 103 fz)) : Tio nm l fl lo w' t X F c := by
  obtain ⟨base, hb, ho⟩ := h.on
  exact ⟨⟨base, hb, ho.frS hf hG⟩, h.good⟩
/-- A row of samples stands while tiers turn. -/
theorem Tio.rowS (h : Tio nm l fl lo w t X F c) {base n : Nat} {v : Value} {xs : List Value} (ho : w.ownsRow base 103 3 v n xs) (hf : Fr F w w') : w'.ownsRow base 103 3 v n xs := by
  obtain ⟨base2, hb, hT⟩ := h.on
  refine own_fr ho hf (fun j hj hF => ?_)
  obtain ⟨cs, fz, hc⟩ := own_ty ho hj
  rcases hT.kind j hF with ⟨es, ck, hm⟩ | ⟨cs', fz', hm⟩
  · rw [hm] at hc; cases hc
  · rw [hm] at hc
    injection hc with hc
    injection hc with _ hc _
    exact absurd hc (by decide)
end
theorem putE_eight {X : TiersX} {s : List SampV} (h : putE X s = 0) : s.length ≤ 8 := by
  unfold putE at h
  split at h
  · omega
  · split at h
    · omega
    · omega
end Go.Proofs.YtlhhcancfgjfkaaGreat
