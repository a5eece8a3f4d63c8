/- The plain law of what is answered. -/
import Derived.Test.YtbblmmneeafhgaaGreatGoodX
import Derived.Test.YtbblmmneeafhgaaGreatTioA
import Derived.Test.YtbblmmneeafhgaaGreatTiersSame
namespace Go.Proofs.YtbblmmneeafhgaaGreat
set_option linter.all false
open Go.RowKit

end Go.Proofs.YtbblmmneeafhgaaGreat
namespace Go.Proofs.YtbblmmneeafhgaaGreat
set_option linter.all false
open Go.RowKit

section
variable {nm : ByteArray} {l : List TierV} {fl : List Int} {lo : Nat} {W W' : World} {t : Nat} {X : TiersX} {F : Nat → Prop} {c : Nat}
theorem tio_same {nm2 : ByteArray} {l2 : List TierV} {fl2 : List Int} {lo2 u c2 : Nat} {Y : TiersX} {F2 : Nat → Prop} (p : PolOk nm l) (p2 : PolOk nm2 l2) (h : Tio nm l fl lo W t X F c) (h2 : Tio nm2 l2 fl2 lo2 W u Y F2 c2) (hc : c ≤ 1000000) (hc2 : c2 ≤ 1000000) :
  Calls Tryz.prog 15 #[.pointer (some ⟨t, 0, none⟩), .pointer (some ⟨u, 0, none⟩)] W fun r w' => r = .returned (.bool (sameX X Y)) ∧ Below W.heap.size W w' := by
 obtain ⟨base, hb, ho⟩ := h.on
 obtain ⟨base2, hb2, ho2⟩ := h2.on
 exact tsame_any t base X u base2 Y W ho.at_ ho2.at_ (h.five p) (h2.five p2) (h.short hc) (h2.short hc2) h.now64 h2.now64 (h.wf p) (h2.wf p2)
theorem tio_ask (p : PolOk nm l) (h : Tio nm l fl lo W t X F c) (hc : c ≤ 1000000) (s : ByteArray) (hs : s.size ≤ maxLen) (fr tt : Int) :
  Calls Tryz.prog 25 #[.pointer (some ⟨t, 0, none⟩), .string s, .int .i64 fr, .int .i64 tt] W fun r w' => ((askB s fr tt = true → ∃ A c, r = .returned (.tuple #[.agg #[.int .i64 (askT X fr), .slice A (askL X s fr tt).length c], .int .i64 0]) ∧ w'.ownsRow W.heap.size 100 7 (.slice A (askL X s fr tt).length c) (askL X s fr tt).length (rcells (askL X s fr tt))) ∧ (askB s fr tt = false → r = .returned (.tuple #[.agg #[.int .i64 0, .slice none 0 0], .int .i64 1]))) ∧ Below W.heap.size W w' := by
 obtain ⟨base, hb, ho⟩ := h.on
 exact task_any t base X s hs fr tt W ho.at_ (h.pos p) (h.five p) (h.short (Nat.le_trans hc (by omega))) h.good.now (h.wf p)
end
end Go.Proofs.YtbblmmneeafhgaaGreat
