/- Walk of shadow: Fits. -/
import Derived.Test.YtfhhepfkjndkgaaGreatShA
import Derived.Test.YtfhhepfkjndkgaaGreatTioR
import Derived.Test.YtfhhepfkjndkgaaGreatTk
namespace Go.Proofs.YtfhhepfkjndkgaaGreat
set_option linter.all false
open Go.RowKit

set_option maxRecDepth 100000 in
set_option maxHeartbeats 8000000 in
theorem sfits_any {nm nm2 : ByteArray} {l lt : List TierV} {fl : List Int} {lo : Nat} {W : World} {t s base : Nat} {X : TiersX} {S : ShX} {Ft F : Nat → Prop} {cc : Nat} (p : PolOk nm l) (p2 : PolOk nm2 lt) (hnm2 : nm2.size ≤ maxLen) (h : Tio nm l fl lo W t X Ft cc) (hc : cc ≤ 1000000) (hfl : ∀ f ∈ fl, 0 ≤ f ∧ f ≤ 2199023255552) (hs : ShOn W s base S F) (h1 : S.name = nm2) (h2 : S.tiers = lt) (h3 : S.srcs = srcs X.now l fl lt) :
  Calls Tryz.prog 30 #[.pointer (some ⟨s, 0, none⟩), .pointer (some ⟨t, 0, none⟩)] W fun r w' => r = .returned (.bool (decide (((needX (buildX X nm2 lt (srcs X.now l fl lt)) : Nat) : Int) ≤ S.bound))) ∧ Below W.heap.size W w' := by
 obtain ⟨A, c, B, d, T, ct, tb, hi, rfl⟩ := hs
 obtain ⟨n, hn0⟩ : ∃ n, lt.length = n := ⟨_, rfl⟩
 have hSn : S.tiers.length = n := by rw [h2, hn0]
 have hSm : S.srcs.length = n := by rw [h3]; unfold srcs; rw [List.length_map, hn0]
 have hfive := p2.five
 have HI := Lib.hid hi
 have htc : n ≤ c := by have := (own_any hi.tiers).1; omega
 have HBu : Hid (Calls Tryz.prog 15 #[.agg #[.string nm2, .slice A n c, .slice B n d], .pointer (some ⟨t, 0, none⟩)] W fun r w' => (∃ t' F', r = .returned (.tuple #[.pointer (some ⟨t', 0, none⟩), .int .i64 0]) ∧ Tio nm2 lt (basesV X.now l fl (srcs X.now l fl lt) lt) W.heap.size w' t' (buildX X nm2 lt (srcs X.now l fl lt)) F' cc ∧ ∀ j, F' j → W.heap.size ≤ j) ∧ Below W.heap.size W w') := by
  have q1 := (own_any HI.out.tiers).2.2.1
  have q2 := (own_any HI.out.srcs).2.2.1
  rw [hSn, h2] at q1
  rw [hSm, h3] at q2
  exact tio_build p p2 hnm2 h hc hfl A n c B d q1 htc q2 W.heap.size (Nat.le_refl _)
 obtain ⟨c0, c1, c2, c3, _, _⟩ := hi.cells (Fr.refl (fun _ => False) W) (fun h => h)
 rw [h1] at c0
 rw [hSn] at c1
 rw [hSm] at c2
 have HC3 : Hid (∀ W', Fr (fun _ => False) W W' → W'.cell? ⟨s, 3, none⟩ = some (.int .i64 S.bound)) := fun W' f => f.cell c3 (fun h => h)
 obtain ⟨bs, hbs⟩ : ∃ v, basesV X.now l fl (srcs X.now l fl lt) lt = v := ⟨_, rfl⟩
 obtain ⟨Y, hY⟩ : ∃ v, buildX X nm2 lt (srcs X.now l fl lt) = v := ⟨_, rfl⟩
 rw [hbs, hY] at HBu
 rw [hY]
 obtain ⟨bd, hbd⟩ : ∃ v, S.bound = v := ⟨_, rfl⟩
 rw [hbd] at HC3 ⊢
 obtain ⟨N, hN⟩ : ∃ v, needX Y = v := ⟨_, rfl⟩
 have HN := Lib.hid hN
 rw [hN]
 obtain ⟨bb, hbb⟩ : ∃ b, decide (((N : Nat) : Int) ≤ bd) = b := ⟨_, rfl⟩
 rw [hbb]
 clear hi hSn hSm hn0 hbs hY h1 h2 h3 h hbd hN c3
 go_enter Tryz.func30, Tryz.ntmps30
 go_wp2_with fail
 refine HBu.out.mono ?_
 rintro r w1 ⟨⟨u, Fu, rfl, T1, _⟩, b1⟩
 have F1 : Hid (Fr (fun _ => False) W w1) := Fr.b0 b1
 have HT1 := Lib.hid T1
 have HNe : Hid (∀ W', Fr (fun _ => False) w1 W' → Calls Tryz.prog 35 #[.pointer (some ⟨u, 0, none⟩)] W' fun r w' => r = .returned (.int .i64 (N : Nat)) ∧ Below W'.heap.size W' w') := fun W' f => by
  have := tio_need p2 (HT1.out.fr0 f) hc
  rw [HN.out] at this
  exact this
 have HC1 : Hid (∀ W', Fr (fun _ => False) w1 W' → W'.cell? ⟨s, 3, none⟩ = some (.int .i64 bd)) := fun W' f => HC3.out W' (F1.out.trans f (fun _ h => h.elim))
 clear T1 b1 HBu c0 c1 c2
 go_wp2_with fail
 refine wp_region_held_drew (S := fun W_ => Fr (fun _ => False) w1 W_) (by kernel_rfl) ((Fr.refl _ w1).drew) (fun hHeld => ?_)
 refine tl 0 ⟨some 18, .move (.tmp 6), 39, _, _, none⟩ ?v1 rfl ?q1 ?r1
 case q1 => intro W hSw; go_simp; try rfl
 refine tl 1 ⟨some 19, .binOp .eql 39 (.tmp 18) (.const (.int .i64 0)) 39, 4, _, _, none⟩ ?v2 rfl ?q2 ?r2
 case q2 => intro W hSw; (try have q3 := HC1.out W hSw); go_simp; try rfl
 refine tl 2 ⟨some 20, .move (.tmp 19), 4, _, _, none⟩ ?v3 rfl ?q3 ?r3
 case q3 => intro W hSw; go_simp; try rfl
 try simp only [Act.put, sA, sB, sC]
 refine tl 3 ⟨some 21, .move (.tmp 5), 34, _, _, some (2, true)⟩ ?v4 rfl ?q4 ?r4
 case q4 => intro W hSw; go_simp; try rfl
 try simp only [Act.put, sA, sB, sC]
 refine tl 5 ⟨some 23, .move (.tmp 0), 38, _, _, some (2, true)⟩ ?v5 rfl ?q5 ?r5
 case q5 => intro W hSw; go_simp; try rfl
 try simp only [Act.put, sA, sB, sC]
 refine tl 6 ⟨some 24, .nilCheck (.tmp 23), 0, _, _, some (2, true)⟩ ?v6 rfl ?q6 ?r6
 case q6 => intro W hSw; go_simp; try rfl
 try simp only [Act.put, sA, sB, sC]
 refine tl 7 ⟨some 25, .fieldAddr 48 (.tmp 24) 1, 0, _, _, some (2, true)⟩ ?v7 rfl ?q7 ?r7
 case q7 => intro W hSw; go_simp; try rfl
 try simp only [Act.put, sA, sB, sC]
 refine tl 8 ⟨some 26, .load 3 (.tmp 25), 3, _, _, some (2, true)⟩ ?v8 rfl ?q8 ?r8
 case q8 => intro W hSw; (try have q3 := HC1.out W hSw); go_simp; try rfl
 try simp only [Act.put, sA, sB, sC]
 refine rl 4 ⟨some 22, .call ⟨.value (.func 35), #[.tmp 21], #[34]⟩, 3, _, _, some (2, true)⟩ rfl (fun K hK => ?_)
 go_simp
 go_wp2_with (first | (go_at_call 35; refine (HNe.out _ hHeld).mono ?_; rintro r wa ⟨rfl, ba⟩))
 refine hK.out _ _ (hHeld.trans (Fr.b0 ba) (fun _ h => h.elim)) (fun hHeld => ?_)
 clear hK K
 try simp only [Act.put, sA, sB, sC]
 refine tl 9 ⟨some 27, .binOp .leq 3 (.tmp 22) (.tmp 26) 3, 4, _, _, some (2, true)⟩ ?v9 rfl ?q9 ?r9
 case q9 => intro W hSw; (try have q3 := HC1.out W hSw); go_simp; try rfl
 refine tl 10 ⟨some 28, .pick (.tmp 20) (.tmp 27) (.const (.bool false)), 4, _, _, none⟩ ?v10 rfl ?q10 ?r10
 case q10 => intro W hSw; go_simp; try rfl
 refine tl 11 ⟨some 4, .assign (.tmp 28), 4, _, _, none⟩ ?v11 rfl ?q11 ?r11
 case q11 => intro W hSw; (try have q3 := HC1.out W hSw); go_simp; try rfl
 try simp only [Act.put, sA, sB, sC]
 refine wpAnyH_done (by kernel_rfl) ?_ _
 have Fl : Hid (Fr (fun _ => False) w1 wa) := hHeld
 clear hHeld ba
 go_wp2_with fail
 go_ret
 exact ⟨by first | rfl | simp [hbb], (F1.out.trans Fl.out (fun _ h => h.elim)).below (fun _ h => h.elim)⟩
end Go.Proofs.YtfhhepfkjndkgaaGreat
namespace Go.Proofs.YtfhhepfkjndkgaaGreat
set_option linter.all false
open Go.RowKit

set_option maxRecDepth 100000 in
set_option maxHeartbeats 4000000 in
theorem sload_in (t base : Nat) (X : ShX) (F : Nat → Prop) (k : Nat) (y : TierV) (rs : List RecV) (A1 : Option Addr) (n1 c1 : Nat) (w : World) (h : ShOn w t base X F) (hy : X.tiers[k]? = some y) (hl : ∀ m ∈ X.tabs, m.length ≤ 100000000) (hn1 : n1 ≤ 100000000) (hr : Rd w 7 A1 n1 (rcells rs)) (hrw : ∀ r ∈ rs, r.wf) :
  Calls Tryz.prog 19 #[.pointer (some ⟨t, 0, none⟩), .int .i64 k, .slice A1 n1 c1] w fun r w' => r = .returned (.int .i64 ((rs.filter (rightR y.every)).length : Nat)) ∧ ShOn w' t base { X with tabs := X.tabs.set k (addsV y.every (X.tabs.getD k []) rs) } F ∧ Fr F w w' := by
 have hk : k < X.tiers.length := (List.getElem?_eq_some_iff.1 hy).1
 have hib : (decide (0 ≤ (k : Int)) && decide ((k : Int) < (X.tiers.length : Int))) = true := by simp; omega
 have H := Lib.hid (sis_any t base X (k : Int) w (by obtain ⟨A, c, B, d, T, ct, tb, hi, _⟩ := h; exact ⟨A, c, B, d, T, ct, tb, hi⟩))
 rw [hib] at H
 obtain ⟨A, c, B, d, T, ct, tb, hi, rfl⟩ := h
 obtain ⟨g, b, x, l, h1, h2, h3, hT⟩ := hi.tabAt hk
 rw [hy] at h2
 obtain rfl : y = x := Option.some.inj h2
 have e : X.tabs.getD k [] = l := by rw [List.getD_eq_getElem?_getD, h3]; rfl
 have hll := hl l (mem_of_get h3)
 rw [e]
 obtain ⟨ad, rfl, hc⟩ := (own_any hi.row).2.2.1.2 (show 0 < X.tiers.length by omega)
 have p0 := hc k _ (ptrs_get h1)
 try simp only at p0
 obtain ⟨_, _, _, _, _, c5⟩ := hi.cells (Fr.refl (fun _ => False) w) (fun h => h)
 have HAd : Hid (Calls Tryz.prog 60 #[.pointer (some ⟨g, 0, none⟩), .slice A1 n1 c1] w fun r w' => r = .returned (.int .i64 ((rs.filter (rightR y.every)).length : Nat)) ∧ ShOn w' t base { X with tabs := X.tabs.set k (addsV y.every l rs) } (tF t tb) ∧ Fr (tF t tb) w w') := by
  refine (add_any g y.every b l rs A1 n1 c1 w hT hr hrw (by omega)).mono ?_
  rintro r w' ⟨rfl, q1, q2⟩
  exact ⟨rfl, ⟨_, _, _, _, _, _, _, hi.set h1 hy q1 q2, rfl⟩, q2.mono (fun i hi => .inl (.inr ⟨_, List.mem_of_getElem? h1, hi⟩))⟩
 obtain ⟨n, hn⟩ : ∃ n, X.tiers.length = n := ⟨_, rfl⟩
 have kn : 0 ≤ (k : Int) ∧ (k : Int) < (n : Int) := by omega
 rw [hn] at c5
 obtain ⟨N, hN⟩ : ∃ N, (rs.filter (rightR y.every)).length = N := ⟨_, rfl⟩
 rw [hN] at HAd ⊢
 clear hi hT h1 h2 h3 e hl hc hib hr hrw hN
 go_enter Tryz.func19, Tryz.ntmps19
 go_wp2_with fail
 refine H.out.mono ?_
 rintro r w' ⟨rfl, rfl⟩
 go_wp2_with fail
 refine HAd.out.mono ?_
 rintro r w6 ⟨rfl, q1, q2⟩
 have Q := Lib.hid (And.intro q1 q2)
 clear q1 q2 HAd
 go_wp2_with fail
 go_ret
 exact ⟨rfl, Q.out.1, Q.out.2⟩
end Go.Proofs.YtfhhepfkjndkgaaGreat
