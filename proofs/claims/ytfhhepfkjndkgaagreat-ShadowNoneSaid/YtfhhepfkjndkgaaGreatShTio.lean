/- Tiers and a shadow side by side. -/
import Derived.Test.YtfhhepfkjndkgaaGreatSh
import Derived.Test.YtfhhepfkjndkgaaGreatTio
namespace Go.Proofs.YtfhhepfkjndkgaaGreat
set_option linter.all false
open Go.RowKit

section
variable {nm nm2 : ByteArray} {l l2 : List TierV} {fl fl2 : List Int} {lo lo2 : Nat} {W W' : World} {t t2 s s2 base base2 : Nat} {X Y : TiersX} {S S2 : ShX} {F F2 G : Nat → Prop} {c c2 : Nat}
/-- Tiers stand while a shadow turns. -/
theorem Tio.frSh (h : Tio nm l fl lo W t X F c) (hf : Fr G W W') (hS : ShOn W s base S G) (hd : ∀ j, F j → ¬ G j) : Tio nm l fl lo W' t X F c := by
  obtain ⟨b, hb, ho⟩ := h.on
  exact ⟨⟨b, hb, ho.frSh hf hS.kind2 hd⟩, h.good⟩
/-- A shadow stands while tiers turn. -/
theorem ShOn.frT (h : ShOn W s base S G) (hT : Tio nm l fl lo W t X F c) (hf : Fr F W W') (hd : ∀ j, G j → ¬ F j) : ShOn W' s base S G := by
  obtain ⟨b, hb, ho⟩ := hT.on
  exact h.fr hf ho.kind2 hd
/-- A shadow stands while another one turns. -/
theorem ShOn.frS (h : ShOn W s base S G) (h2 : ShOn W s2 base2 S2 F2) (hf : Fr F2 W W') (hd : ∀ j, G j → ¬ F2 j) : ShOn W' s base S G := h.fr hf h2.kind2 hd
end
end Go.Proofs.YtfhhepfkjndkgaaGreat
