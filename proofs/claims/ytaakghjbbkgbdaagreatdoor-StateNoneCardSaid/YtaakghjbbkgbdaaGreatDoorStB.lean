/- Walks of state: Need, Copy, Tick, New. -/
import Derived.Test.YtaakghjbbkgbdaaGreatDoorStA
import Derived.Test.YtaakghjbbkgbdaaGreatDoorParseP
import Derived.Test.YtaakghjbbkgbdaaGreatDoorStRun
import Derived.Test.YtaakghjbbkgbdaaGreatDoorTk
namespace Go.Proofs.YtaakghjbbkgbdaaGreatDoor
set_option linter.all false
open Go.RowKit

section
variable {W : World} {g lo : Nat} {Q : StX} {c t : Nat} {Ft Fs F : Nat → Prop} {v : Value}
theorem chbound_any {o : Option ShX} (h : ChOn W lo o v Fs) : Calls Tryz.prog 52 #[v] W fun r w' => r = .returned (.int .i64 (boundO o)) ∧ W = w' := by
 cases o with
 | none => obtain ⟨rfl, _⟩ := h; exact sbound_nil W
 | some S =>
  obtain ⟨s, base, _, rfl, hs⟩ := h
  exact sbound_any s base S W hs.at_
theorem StGood.bound (hg : StGood Q c) : 0 ≤ boundO Q.ch ∧ boundO Q.ch ≤ 4096 := by
 have h1 := hg.need
 have h2 := hg.room
 refine ⟨?_, by omega⟩
 cases hc : Q.ch with
 | none => exact Int.le_refl _
 | some S => exact (hg.ch S hc).b0
set_option maxRecDepth 100000 in
set_option maxHeartbeats 4000000 in
theorem stneed_any (hg : StGood Q c) (hc : c ≤ 1000000) (h : StOn W g lo Q c F) : Calls Tryz.prog 40 #[.pointer (some ⟨g, 0, none⟩)] W fun r w' => r = .returned (.int .i64 (((needX Q.X : Nat) : Int) + boundO Q.ch)) ∧ Below W.heap.size W w' := by
 obtain ⟨t, Ft, Fs, v, hi, rfl⟩ := h
 have HN := Lib.hid (stnone_any hi)
 have hb := hg.bound
 have hn := need_small hg.pol hg.good hc
 have HNd : Hid (∀ W', Fr (fun _ => False) W W' → Calls Tryz.prog 140 #[.pointer (some ⟨t, 0, none⟩)] W' fun r w' => r = .returned (.int .i64 (needX Q.X : Nat)) ∧ Below W'.heap.size W' w') := fun W' f => tio_need hg.pol (hi.fr0 f).tio hc
 have HBd : Hid (∀ W', Fr (fun _ => False) W W' → Calls Tryz.prog 52 #[v] W' fun r w' => r = .returned (.int .i64 (boundO Q.ch)) ∧ W' = w') := fun W' f => chbound_any (hi.fr0 f).ch
 have HC : Hid (∀ W', Fr (fun _ => False) W W' → W'.cell? ⟨g, 1, none⟩ = some (.pointer (some ⟨t, 0, none⟩)) ∧ W'.cell? ⟨g, 2, none⟩ = some v) := fun W' f => (hi.cells f (fun h => h)).2
 obtain ⟨bd, hbd⟩ : ∃ b, boundO Q.ch = b := ⟨_, rfl⟩
 obtain ⟨nv, hnv⟩ : ∃ n, needX Q.X = n := ⟨_, rfl⟩
 rw [hbd] at HBd hb ⊢
 rw [hnv] at HNd hn ⊢
 have HAd : Hid (∀ W', Calls Tryz.prog 139 #[.int .i64 (nv : Int), .int .i64 bd] W' fun r w' => r = .returned (.int .i64 ((nv : Int) + bd)) ∧ W' = w') := fun W' => stadd_any _ _ W' (by omega) hb.1 (by omega)
 clear hi hbd hnv
 go_enter Tryz.func40, Tryz.ntmps40
 go_wp2_with fail
 refine HN.out.mono ?_
 rintro r w1 ⟨rfl, rfl⟩
 go_wp2_with fail
 refine wp_region_held_drew (S := fun W' => Fr (fun _ => False) W W') (by kernel_rfl) ((Fr.refl _ W).drew) (fun hHeld => ?_)
 refine tl 0 ?v1 rfl ?q1 ?r1
 case q1 => intro W_ hSw; (try obtain ⟨a0, a1⟩ := HC.out W_ hSw); go_simp; try rfl
 refine tl 1 ?v2 rfl ?q2 ?r2
 case q2 => intro W_ hSw; (try obtain ⟨a0, a1⟩ := HC.out W_ hSw); go_simp; try rfl
 refine tl 2 ?v3 rfl ?q3 ?r3
 case q3 => intro W_ hSw; (try obtain ⟨a0, a1⟩ := HC.out W_ hSw); go_simp; try rfl
 refine tl 3 ?v4 rfl ?q4 ?r4
 case q4 => intro W_ hSw; (try obtain ⟨a0, a1⟩ := HC.out W_ hSw); go_simp; try rfl
 refine tl 4 ?v5 rfl ?q5 ?r5
 case q5 => intro W_ hSw; (try obtain ⟨a0, a1⟩ := HC.out W_ hSw); go_simp; try rfl
 refine tl 6 ?v6 rfl ?q6 ?r6
 case q6 => intro W_ hSw; (try obtain ⟨a0, a1⟩ := HC.out W_ hSw); go_simp; try rfl
 refine tl 7 ?v7 rfl ?q7 ?r7
 case q7 => intro W_ hSw; (try obtain ⟨a0, a1⟩ := HC.out W_ hSw); go_simp; try rfl
 refine tl 8 ?v8 rfl ?q8 ?r8
 case q8 => intro W_ hSw; (try obtain ⟨a0, a1⟩ := HC.out W_ hSw); go_simp; try rfl
 refine tl 9 ?v9 rfl ?q9 ?r9
 case q9 => intro W_ hSw; (try obtain ⟨a0, a1⟩ := HC.out W_ hSw); go_simp; try rfl
 try simp only [Act.put, sA, sB, sC]
 refine rl 5 rfl (fun K hK => ?_)
 go_simp
 go_wp2_with (first | (go_at_call 140; refine (HNd.out _ hHeld).mono ?_; rintro r wa ⟨rfl, ba⟩))
 refine hK.out _ _ (hHeld.trans (Fr.b0 ba) (fun _ h => h.elim)) (fun hHeld => ?_)
 clear hK K
 try simp only [Act.put, sA, sB, sC]
 refine rl 10 rfl (fun K hK => ?_)
 go_simp
 go_wp2_with (first | (go_at_call 52; refine (HBd.out _ hHeld).mono ?_; rintro r wb ⟨rfl, rfl⟩))
 refine hK.out _ _ (hHeld) (fun hHeld => ?_)
 clear hK K
 try simp only [Act.put, sA, sB, sC]
 refine rl 11 rfl (fun K hK => ?_)
 go_simp
 go_wp2_with (first | (go_at_call 139; refine (HAd.out _).mono ?_; rintro r wc ⟨rfl, rfl⟩))
 refine hK.out _ _ (hHeld) (fun hHeld => ?_)
 clear hK K
 refine tl 12 ?v10 rfl ?q10 ?r10
 case q10 => intro W_ hSw; (try obtain ⟨a0, a1⟩ := HC.out W_ hSw); go_simp; try rfl
 try simp only [Act.put, sA, sB, sC]
 refine wpAnyH_done (by kernel_rfl) ?_ _
 go_wp2_with fail
 go_ret
 exact ⟨rfl, hHeld.below (fun _ h => h.elim)⟩
end
end Go.Proofs.YtaakghjbbkgbdaaGreatDoor
