/- Walks of sedimentlaw9.Web, sedimentlaw13.Fifties. -/
import Derived.Test.YtbblmmneeafhgaaGreatFills
namespace Go.Proofs.YtbblmmneeafhgaaGreat
set_option linter.all false
open Go.RowKit

def webT : List TierV := [⟨{ data := #[114, 97, 119] }, 1, 100, 2⟩, ⟨{ data := #[116, 101, 110, 115] }, 10, 1000, 1⟩]
def webN : ByteArray := { data := #[119, 101, 98] }
def fifT : List TierV := [⟨{ data := #[114, 97, 119] }, 1, 50, 1⟩, ⟨{ data := #[102, 105, 102, 116, 105, 101, 115] }, 50, 5000, 3⟩]
def fifN : ByteArray := { data := #[112] }


theorem web_any (w : World) : Calls Tryz.prog 39 #[] w fun r w' => (∃ A c, r = .returned (polV webN A 2 c) ∧ 2 ≤ c ∧ Rd w' 4 A 2 (tcells webT)) ∧ Below w.heap.size w w' := by
  go_enter Tryz.func39, Tryz.ntmps39
  go_wp2_with fail
  refine bodyPost_ret (v := polV webN (some ⟨w.heap.size + 1, 0, none⟩) 2 2) ?_ rfl ⟨⟨_, _, rfl, Nat.le_refl _, Rd.newS (by simp) (tcells webT) _ 2 4 rfl⟩, (((Own.start w).skip (Fr.none_alloc w _)).skip (Fr.none_alloc _ _)).bel⟩
  unfold polV webN
  simp [results, Tryz.results39, go_sem]

theorem fif_any (w : World) : Calls Tryz.prog 112 #[] w fun r w' => (∃ A c, r = .returned (polV fifN A 2 c) ∧ 2 ≤ c ∧ Rd w' 4 A 2 (tcells fifT)) ∧ Below w.heap.size w w' := by
  go_enter Tryz.func112, Tryz.ntmps112
  go_wp2_with fail
  refine bodyPost_ret (v := polV fifN (some ⟨w.heap.size + 1, 0, none⟩) 2 2) ?_ rfl ⟨⟨_, _, rfl, Nat.le_refl _, Rd.newS (by simp) (tcells fifT) _ 2 4 rfl⟩, (((Own.start w).skip (Fr.none_alloc w _)).skip (Fr.none_alloc _ _)).bel⟩
  unfold polV fifN
  simp [results, Tryz.results112, go_sem]
end Go.Proofs.YtbblmmneeafhgaaGreat
namespace Go.Proofs.YtbblmmneeafhgaaGreat
set_option linter.all false
open Go.RowKit

def stepVal (s : Int × Int × Int) : Value := .agg #[.int .i64 s.1, .int .i64 s.2.1, .int .i64 s.2.2]
def atGo (k : Int) (i : Nat) : List TierV → Int × Int × Int
  | [] => if k = 0 then (2, 0, 0) else (3, 0, 0)
  | t :: r => if k < t.shards then (1, i, k) else atGo (k - max t.shards 0) (i + 1) r
def atV (l : List TierV) (k : Int) : (Int × Int × Int) × Bool := if k < 0 ∨ stepsV l ≤ k then ((0, 0, 0), false) else (atGo k 0 l, true)

theorem put3 {w w1 : World} {g : Nat} (o : Own w w1 (fun _ => False)) (hg : w.heap.size ≤ g) (a b c : Value) :
    Below w.heap.size w (((w1.setCell ⟨g, 0, none⟩ a).setCell ⟨g, 1, none⟩ b).setCell ⟨g, 2, none⟩ c) := by
  have fF : Fr (fun j => j = g) w1 (((w1.setCell ⟨g, 0, none⟩ a).setCell ⟨g, 1, none⟩ b).setCell ⟨g, 2, none⟩ c) :=
    (((Fr.refl (fun j => j = g) w1).setCell (p := ⟨g, 0, none⟩) (.inl rfl) _).setCell (p := ⟨g, 1, none⟩) (.inl rfl) _).setCell (p := ⟨g, 2, none⟩) (.inl rfl) _
  exact ((o.also (G := fun j => j = g) (fun j hj => by omega)).fr fF).bel

set_option maxRecDepth 100000 in
set_option maxHeartbeats 2000000 in
theorem at_any (nm : ByteArray) (l : List TierV) (A : Option Addr) (n c : Nat) (S : Option Addr) (m d : Nat) (k : Int) (hk0 : i64 k) (w : World) (hr : Rd w 4 A n (tcells l)) (hn : n ≤ 1099511627776) (hs : ∀ t ∈ l, t.shards ≤ 8) :
    Calls Tryz.prog 114 #[planV nm A n c S m d, .int .i64 k] w fun r w' => r = .returned (.tuple #[stepVal (atV l k).1, .bool (atV l k).2]) ∧ Below w.heap.size w w' := by
  have H := Lib.hid (fun w' (h : Fr (fun _ => False) w w') => steps_any nm l A n c S m d w' (hr.fr0 h) hn hs)
  have Hr := Lib.hid hr
  have Hlen := Lib.hid hr.tiers_len
  have Hs := Lib.hid hs
  clear hr hs
  have O := Lib.hid (((Own.start w).skip (Fr.none_alloc w (.cells #[.string nm, .slice A n c, .slice S m d] 76))).skip (Fr.none_alloc _ (.cells #[.int .i64 0, .int .i64 0, .int .i64 0] 150)))
  have B0 := Lib.hid ((Blk.new w 76 #[.string nm, .slice A n c, .slice S m d]).alloc (.cells #[.int .i64 0, .int .i64 0, .int .i64 0] 150))
  have B1 := Lib.hid (Blk.new' (w := w.alloc (.cells #[.string nm, .slice A n c, .slice S m d] 76)) (k := w.heap.size + 1) (by simp) 150 #[.int .i64 0, .int .i64 0, .int .i64 0])
  unfold planV at H ⊢
  obtain ⟨v, hv⟩ : ∃ v, stepsV l = v := ⟨_, rfl⟩
  have Hv := Lib.hid hv
  rw [hv] at H
  clear hv
  by_cases hneg : k < 0
  · rw [show atV l k = ((0, 0, 0), false) by simp [atV, hneg]]
    have b1 := B1.out
    go_enter Tryz.func114, Tryz.ntmps114
    go_wp2_with fail
    have hbel := put3 (g := w.heap.size + 1) O.out (by omega) (.int .i64 0) (.int .i64 0) (.int .i64 0)
    refine bodyPost_ret (v := .tuple #[stepVal (0, 0, 0), .bool false]) ?_ rfl ⟨rfl, by first | exact O.out.bel | exact hbel⟩
    simp [results, Tryz.results114, go_sem, stepVal]
  · have hk1 := hk0.2
    by_cases hge : v ≤ k
    · rw [show atV l k = ((0, 0, 0), false) by simp [atV, Hv.out, hge]]
      go_enter Tryz.func114, Tryz.ntmps114
      go_wp2_with fail
      refine (H.out _ (Fr.b0 O.out.bel)).mono ?_
      rintro r w1 ⟨rfl, hb⟩
      have O1 := Lib.hid (O.out.below hb)
      have b1 := B1.out.below hb
      have e0 := b1.cell 0
      have e1 := b1.cell 1
      have e2 := b1.cell 2
      have g0 := b1.frozen 0
      have g1 := b1.frozen 1
      have g2 := b1.frozen 2
      simp only [List.getElem?_toArray, List.getElem?_cons_succ, List.getElem?_cons_zero] at e0 e1 e2
      clear b1 hb
      go_wp2_with fail
      have hbel := put3 (g := w.heap.size + 1) O1.out (by omega) (.int .i64 0) (.int .i64 0) (.int .i64 0)
      refine bodyPost_ret (v := .tuple #[stepVal (0, 0, 0), .bool false]) ?_ rfl ⟨rfl, hbel⟩
      simp [results, Tryz.results114, go_sem, stepVal, *]
    · obtain ⟨s, hs⟩ : ∃ s, atGo k 0 l = s := ⟨_, rfl⟩
      rw [show atV l k = (s, true) by simp [atV, Hv.out, hge, hneg, hs]]
      have HS := Lib.hid hs
      clear hs
      go_enter Tryz.func114, Tryz.ntmps114
      go_wp2_with fail
      refine (H.out _ (Fr.b0 O.out.bel)).mono ?_
      rintro r w1 ⟨rfl, hb⟩
      have O1 := Lib.hid (O.out.below hb)
      have B0' := Lib.hid (B0.out.below hb)
      have B1' := Lib.hid (B1.out.below hb)
      have c1 := B0'.out.cell 1
      simp only [List.getElem?_toArray, List.getElem?_cons_succ, List.getElem?_cons_zero] at c1
      clear hb B0 B1 O
      go_wp2_with fail
      clear c1
      go_loopw [1, 21] (fun q i wr => ∃ (j : Nat) (y : Int), j ≤ n ∧ i = .int .i64 j ∧ q = .int .i64 y ∧ 0 ≤ y ∧ y ≤ 9223372036854775807 ∧ Hid (atGo y j (l.drop j) = s) ∧ Blk wr (w.heap.size + 1) 150 #[.int .i64 0, .int .i64 0, .int .i64 0] ∧ Own w wr (fun _ => False)) (fun _ i _ => n - (intOf i).toNat)
      case atStart => exact ⟨0, k, Nat.zero_le _, rfl, rfl, by omega, hk1, by simpa [Hid] using HS.out, B1'.out, O1.out⟩
      case round =>
        obtain ⟨j, y, hj, rfl, rfl, y0, y1, hat, hb1, ho⟩ := hrel
        by_cases hlt : j < n
        · obtain ⟨ad, x, rfl, hu, d0, d1, d2, d3⟩ := (Hr.out.below ho.bel).tier hlt
          have hx8 := Hs.out x (mem_of_get hu)
          have hdrop : l.drop j = x :: l.drop (j + 1) := by
            obtain ⟨hjl, rfl⟩ := List.getElem?_eq_some_iff.1 hu
            exact List.drop_eq_getElem_cons hjl
          rw [hdrop] at hat
          have Hb1 := Lib.hid hb1
          have Ho := Lib.hid ho
          by_cases hys : y < x.shards
          · have E : s = (1, (j : Int), y) := by rw [← hat.out]; simp [atGo, hys]
            subst E
            have hb2 := hb1.alloc (.cells #[.string x.name, .int .i64 x.every, .int .i64 x.keep, .int .i64 x.shards] 90)
            have f0 := fun o => (hb1.alloc o).frozen 0
            have f1 := fun o => (hb1.alloc o).frozen 1
            have f2 := fun o => (hb1.alloc o).frozen 2
            have e0 := fun o => (hb1.alloc o).cell 0
            have e1 := fun o => (hb1.alloc o).cell 1
            have e2 := fun o => (hb1.alloc o).cell 2
            simp only [List.getElem?_toArray, List.getElem?_cons_succ, List.getElem?_cons_zero] at e0 e1 e2
            clear hu hdrop hb1 ho hb2
            go_wp2_with fail
            have hbel := put3 (g := w.heap.size + 1) (Ho.out.skip (Fr.none_alloc wr (.cells #[.string x.name, .int .i64 x.every, .int .i64 x.keep, .int .i64 x.shards] 90))) (by omega) (.int .i64 1) (.int .i64 j) (.int .i64 y)
            refine bodyPost_ret (v := .tuple #[stepVal (1, j, y), .bool true]) ?_ rfl ⟨rfl, hbel⟩
            simp [results, Tryz.results114, go_sem, stepVal, *]
          · have E : Hid (atGo (y - max x.shards 0) (j + 1) (l.drop (j + 1)) = s) := by rw [Hid, ← hat.out]; simp [atGo, hys]
            clear hu hdrop hb1 ho
            by_cases h0 : 0 ≤ x.shards
            · have em : max x.shards 0 = x.shards := by omega
              rw [em] at E
              clear em
              go_wp2
              all_goals (
                go_roundw
                case rel => exact ⟨j + 1, y - x.shards, by omega, by go_num, by go_num, by omega, by omega, E, Hb1.out.alloc _, Ho.out.skip (Fr.none_alloc _ _)⟩
                case measure => simp [intOf]; omega)
            · have em : y - max x.shards 0 = y := by omega
              rw [em] at E
              clear em
              go_wp2
              all_goals (
                go_roundw
                case rel => exact ⟨j + 1, y, by omega, by go_num, by go_num, by omega, by omega, E, Hb1.out.alloc _, Ho.out.skip (Fr.none_alloc _ _)⟩
                case measure => simp [intOf]; omega)
        · obtain rfl : j = n := by omega
          rw [List.drop_of_length_le (by have := Hlen.out; omega)] at hat
          have e0 := hb1.cell 0
          have e1 := hb1.cell 1
          have e2 := hb1.cell 2
          have g0 := hb1.frozen 0
          have g1 := hb1.frozen 1
          have g2 := hb1.frozen 2
          simp only [List.getElem?_toArray, List.getElem?_cons_succ, List.getElem?_cons_zero] at e0 e1 e2
          have Ho := Lib.hid ho
          clear ho hb1
          by_cases hy : y = 0
          · have E : s = (2, 0, 0) := by rw [← hat.out]; simp [atGo, hy]
            subst E hy
            go_wp2_with fail
            have hbel := put3 (g := w.heap.size + 1) Ho.out (by omega) (.int .i64 2) (.int .i64 0) (.int .i64 0)
            refine bodyPost_ret (v := .tuple #[stepVal (2, 0, 0), .bool true]) ?_ rfl ⟨rfl, hbel⟩
            simp [results, Tryz.results114, go_sem, stepVal, *]
          · have E : s = (3, 0, 0) := by rw [← hat.out]; simp [atGo, hy]
            subst E
            have hyb : (y == 0) = false := by simpa using hy
            go_wp2_with fail
            have hbel := put3 (g := w.heap.size + 1) Ho.out (by omega) (.int .i64 3) (.int .i64 0) (.int .i64 0)
            refine bodyPost_ret (v := .tuple #[stepVal (3, 0, 0), .bool true]) ?_ rfl ⟨rfl, hbel⟩
            simp [results, Tryz.results114, go_sem, stepVal, *]
end Go.Proofs.YtbblmmneeafhgaaGreat
namespace Go.Proofs.YtbblmmneeafhgaaGreat
set_option linter.all false
open Go.RowKit

theorem bound_any (nm : ByteArray) (l : List TierV) (A : Option Addr) (n c : Nat) (S : Option Addr) (m d : Nat) (need : Int) (h0 : 0 ≤ need) (h1 : need ≤ 1152921504606846976) (w : World) (hr : Rd w 4 A n (tcells l)) (hn : n ≤ 1099511627776) (hs : ∀ t ∈ l, t.shards ≤ 8) :
    Calls Tryz.prog 116 #[planV nm A n c S m d, .int .i64 need] w fun r w' => r = .returned (.int .i64 (2 * need + fillsV l)) ∧ Below w.heap.size w w' := by
  have hlen := hr.tiers_len
  have hin := fillsV_in hs
  have H := Lib.hid (fun w' (h : Fr (fun _ => False) w w') => fills_any nm l A n c S m d w' (hr.fr0 h) hn hs)
  have O := Lib.hid ((Own.start w).skip (Fr.none_alloc w (.cells #[.string nm, .slice A n c, .slice S m d] 76)))
  have B0 := Lib.hid (Blk.new w 76 #[.string nm, .slice A n c, .slice S m d])
  clear hr hs
  unfold planV at H ⊢
  obtain ⟨v, hv⟩ : ∃ v, fillsV l = v := ⟨_, rfl⟩
  rw [hv] at H hin ⊢
  obtain ⟨v0, v1⟩ := hin
  rw [hlen] at v1
  clear hv hlen
  go_enter Tryz.func116, Tryz.ntmps116
  go_wp2_with fail
  refine (H.out _ (Fr.b0 O.out.bel)).mono ?_
  rintro r w1 ⟨rfl, hb⟩
  have O1 := Lib.hid (O.out.below hb)
  have b1 := B0.out.below hb
  have c0 := b1.cell 0
  have c1 := b1.cell 1
  have c2 := b1.cell 2
  simp only [List.getElem?_toArray, List.getElem?_cons_succ, List.getElem?_cons_zero] at c0 c1 c2
  clear hb b1
  go_wp2_with fail
  refine (H.out _ (Fr.b0 O1.out.bel)).mono ?_
  rintro r w2 ⟨rfl, hb⟩
  have O2 := Lib.hid (O1.out.below hb)
  clear hb c0 c1 c2
  go_wp2_with fail
  go_ret
  exact ⟨rfl, O2.out.bel⟩
end Go.Proofs.YtbblmmneeafhgaaGreat
namespace Go.Proofs.YtbblmmneeafhgaaGreat
set_option linter.all false
open Go.RowKit

end Go.Proofs.YtbblmmneeafhgaaGreat
namespace Go.Proofs.YtbblmmneeafhgaaGreat
set_option linter.all false
open Go.RowKit

end Go.Proofs.YtbblmmneeafhgaaGreat
