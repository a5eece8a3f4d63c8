/- Walk of policy.Same. -/
import Derived.Test.YtlhhcancfgjfkaaSlEq
import Derived.Test.YtlhhcancfgjfkaaTiersAsk
namespace Go.Proofs.Ytlhhcancfgjfkaa
set_option linter.all false
open Go.RowKit

set_option maxRecDepth 100000 in
set_option maxHeartbeats 4000000 in
theorem polsame_any (na nb : ByteArray) (la lb : List TierV) (A : Option Addr) (n c : Nat) (B : Option Addr) (m d : Nat) (w : World) (ha : Rd w 4 A n (tcells la)) (hb : Rd w 4 B m (tcells lb)) (hn : n ≤ 1099511627776) (hm : m ≤ 1099511627776) :
    Calls Try.prog 47 #[polV na A n c, polV nb B m d] w fun r w' => r = .returned (.bool (decide (na = nb) && decide (la = lb))) ∧ Below w.heap.size w w' := by
  unfold polV
  have F0 : Hid (Fr (fun _ => False) w ((w.alloc (.cells #[.string na, .slice A n c] 33)).alloc (.cells #[.string nb, .slice B m d] 33))) := (Fr.none_alloc _ _).trans (Fr.none_alloc _ _) (fun _ h => h.elim)
  have B1 : Hid (Blk ((w.alloc (.cells #[.string na, .slice A n c] 33)).alloc (.cells #[.string nb, .slice B m d] 33)) w.heap.size 33 #[.string na, .slice A n c]) := (Blk.new w 33 #[.string na, .slice A n c]).fr (Fr.none_alloc _ _) (fun h => h)
  have B2 : Hid (Blk ((w.alloc (.cells #[.string na, .slice A n c] 33)).alloc (.cells #[.string nb, .slice B m d] 33)) (w.heap.size + 1) 33 #[.string nb, .slice B m d]) := by
    have := Blk.new (w.alloc (.cells #[.string na, .slice A n c] 33)) 33 #[.string nb, .slice B m d]
    show Blk _ _ _ _
    simpa using this
  have Ha := Lib.hid ha
  have Hb := Lib.hid hb
  clear ha hb
  have HQ0 : Hid (∀ W, Fr (fun _ => False) ((w.alloc (.cells #[.string na, .slice A n c] 33)).alloc (.cells #[.string nb, .slice B m d] 33)) W → Calls Try.prog 82 #[.slice A n c, .slice B m d] W fun r w' => r = .returned (.bool (decide (la = lb))) ∧ Below W.heap.size W w') := fun W f => eqtiers_any la lb A n c B m d W ((Ha.out.fr0 F0.out).fr0 f) ((Hb.out.fr0 F0.out).fr0 f) hn hm
  obtain ⟨E, hE⟩ : ∃ E, decide (la = lb) = E := ⟨_, rfl⟩
  rw [hE] at HQ0 ⊢
  by_cases hab : na = nb
  · subst hab
    have hd : Hid (decide (na = na) = true) := decide_eq_true rfl
    go_enter Try.func47, Try.ntmps47
    go_wp2_with fail
    refine (HQ0.out _ (Fr.refl _ _)).mono ?_
    rintro r w5 ⟨rfl, b5⟩
    go_wp2_with fail
    go_ret
    exact ⟨by rw [hd.out]; rfl, (F0.out.trans (Fr.b0 b5) (fun _ h => h.elim)).below (fun _ h => h.elim)⟩
  · have hd : Hid (decide (na = nb) = false) := decide_eq_false hab
    have hab3 : ¬ na.toList = nb.toList := fun e => hab (toList_inj e)
    have hab4 : decide (na = nb) = false := decide_eq_false hab
    go_enter Try.func47, Try.ntmps47
    go_wp2_with fail
    go_ret
    exact ⟨by rw [hd.out]; rfl, F0.out.below (fun _ h => h.elim)⟩
end Go.Proofs.Ytlhhcancfgjfkaa
