/- A packer that is done, and a new one. -/
import Derived.Test.YtkickdmiilmkoaaGreatDoorPkE
namespace Go.Proofs.YtkickdmiilmkoaaGreatDoor
open Go.RowKit

theorem done_at (g : Nat) (F : Nat → Prop) (l : List UInt8) (s : ByteArray) (w : World) (h : Pk w g F 0 l) (hs : bstr l = s) :
    Calls Tryz.prog 43 #[.pointer (some ⟨g, 0, none⟩)] w fun r w' => r = .returned (.tuple #[.string s, .int .i64 0]) ∧ w = w' := by
  subst hs
  exact done_ok g F l w h

theorem Pk.new (w : World) : Pk (w.alloc (.cells #[.int .i64 0, .slice none 0 0] 87)) w.heap.size (pkF w.heap.size none 0 0) 0 [] ∧ ∀ k, pkF w.heap.size none 0 0 k → w.heap.size ≤ k := by
  refine ⟨⟨none, 0, 0, Blk.new _ _ _, World.ownsRow_nil _ _ _ _, rfl⟩, ?_⟩
  rintro k (rfl | hk)
  · exact Nat.le_refl _
  · cases hk

end Go.Proofs.YtkickdmiilmkoaaGreatDoor
