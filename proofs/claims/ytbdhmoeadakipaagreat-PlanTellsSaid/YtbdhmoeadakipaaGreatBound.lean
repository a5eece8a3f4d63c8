/- Walk of (plan.Plan).Bound, and sedimentlaw13.alive. -/
import Derived.Test.YtbdhmoeadakipaaGreatAt
namespace Go.Proofs.YtbdhmoeadakipaaGreat
open Go.RowKit

theorem bound_any (nm : ByteArray) (l : List TierV) (A : Option Addr) (n c : Nat) (S : Option Addr) (m d : Nat) (need : Int) (h0 : 0 ≤ need) (h1 : need ≤ 1152921504606846976) (w : World) (hr : Rd w 4 A n (tcells l)) (hn : n ≤ 1099511627776) (hs : ∀ t ∈ l, t.shards ≤ 8) :
    Calls Tryz.prog 19 #[planV nm A n c S m d, .int .i64 need] w fun r w' => r = .returned (.int .i64 (2 * need + fillsV l)) ∧ Below w.heap.size w w' := by
  have hlen := hr.tiers_len
  have hin := fillsV_in hs
  have H := Lib.hid (fun w' (h : Fr (fun _ => False) w w') => fills_any nm l A n c S m d w' (hr.fr0 h) hn hs)
  have O := Lib.hid ((Own.start w).skip (Fr.none_alloc w (.cells #[.string nm, .slice A n c, .slice S m d] 49)))
  have B0 := Lib.hid (Blk.new w 49 #[.string nm, .slice A n c, .slice S m d])
  clear hr hs
  unfold planV at H ⊢
  obtain ⟨v, hv⟩ : ∃ v, fillsV l = v := ⟨_, rfl⟩
  rw [hv] at H hin ⊢
  obtain ⟨v0, v1⟩ := hin
  rw [hlen] at v1
  clear hv hlen
  go_enter Tryz.func19, Tryz.ntmps19
  go_wp2_with fail
  refine (H.out _ (Fr.b0 O.out.bel)).mono ?_
  rintro r w1 ⟨rfl, hb⟩
  have O1 := Lib.hid (O.out.below hb)
  have b1 := B0.out.below hb
  have c0 := b1.cell 0
  have c1 := b1.cell 1
  have c2 := b1.cell 2
  simp only [List.getElem?_toArray, List.getElem?_cons_succ, List.getElem?_cons_zero] at c0 c1 c2
  clear hb b1
  go_wp2_with fail
  refine (H.out _ (Fr.b0 O1.out.bel)).mono ?_
  rintro r w2 ⟨rfl, hb⟩
  have O2 := Lib.hid (O1.out.below hb)
  clear hb c0 c1 c2
  go_wp2_with fail
  go_ret
  exact ⟨rfl, O2.out.bel⟩
end Go.Proofs.YtbdhmoeadakipaaGreat
