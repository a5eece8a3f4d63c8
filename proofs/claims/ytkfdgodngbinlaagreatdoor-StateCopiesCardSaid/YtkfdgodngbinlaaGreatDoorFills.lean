/- Walks of sedimentbook.Small and (plan.Plan).fills, Steps, Bound. -/
import Derived.Test.YtkfdgodngbinlaaGreatDoorBases
import Derived.Test.YtkfdgodngbinlaaGreatDoorOpenRec
namespace Go.Proofs.YtkfdgodngbinlaaGreatDoor
set_option linter.all false
open Go.RowKit

def SmallR (nm : ByteArray) (n : Nat) (r : Ending) : Prop := ∃ b, r = .returned (.bool b) ∧ (b = true → n ≤ 10 ∧ nm.size ≤ 60)
theorem SmallR.no {nm : ByteArray} {n : Nat} : SmallR nm n (.returned (.bool false)) := ⟨false, rfl, by simp⟩
def fillsV (l : List TierV) : Int := (l.map fun t => max t.shards 0).sum
theorem fills_snoc {l : List TierV} {k : Nat} {x : TierV} (h : l[k]? = some x) : fillsV (l.take (k + 1)) = fillsV (l.take k) + max x.shards 0 := by
  rw [take_snoc h]; simp [fillsV]
set_option maxRecDepth 100000 in
theorem fills_any (nm : ByteArray) (l : List TierV) (A : Option Addr) (n c : Nat) (S : Option Addr) (m d : Nat) (w : World) (hr : Rd w 4 A n (tcells l)) (hn : n ≤ 1099511627776) (hs : ∀ t ∈ l, t.shards ≤ 8) :
    Calls Tryz.prog 60 #[planV nm A n c S m d] w fun r w' => r = .returned (.int .i64 (fillsV l)) ∧ Below w.heap.size w w' := by
  have Hr := Lib.hid hr
  have Hs := Lib.hid hs
  have Hlen := Lib.hid hr.tiers_len
  clear hr hs
  have O := Lib.hid ((Own.start w).skip (Fr.none_alloc w (.cells #[.string nm, .slice A n c, .slice S m d] 61)))
  unfold planV
  go_enter Tryz.func60, Tryz.ntmps60
  go_wp2_with fail
  go_loopw [3, 10] (fun s i wr => ∃ (k : Nat) (v : Int), k ≤ n ∧ i = .int .i64 k ∧ s = .int .i64 v ∧ 0 ≤ v ∧ v ≤ 8 * k ∧ Hid (v = fillsV (l.take k)) ∧ Own w wr (fun _ => False)) (fun _ i _ => n - (intOf i).toNat)
  case atStart => exact ⟨0, 0, Nat.zero_le _, rfl, rfl, by omega, by omega, by simp [Hid, fillsV], O.out⟩
  case round =>
    obtain ⟨k, v, hk, rfl, rfl, v0, v1, hv, ho⟩ := hrel
    by_cases hlt : k < n
    · obtain ⟨ad, x, rfl, hu, d0, d1, d2, d3⟩ := (Hr.out.below ho.bel).tier hlt
      have hx8 := Hs.out x (mem_of_get hu)
      have Hu := Lib.hid hu
      have Ho := Lib.hid ho
      have Hf := Lib.hid (fills_snoc hu)
      clear ho hu
      by_cases h0 : 0 ≤ x.shards
      · go_wp2
        all_goals (
          go_roundw
          case rel => exact ⟨k + 1, v + x.shards, by omega, by go_num, by go_num, by omega, by omega, by rw [Hid, Hf.out, ← hv.out]; omega, Ho.out.skip (Fr.none_alloc _ _)⟩
          case measure => simp [intOf]; omega)
      · go_wp2
        all_goals (
          go_roundw
          case rel => exact ⟨k + 1, v, by omega, by go_num, by go_num, by omega, by omega, by rw [Hid, Hf.out, ← hv.out]; omega, Ho.out.skip (Fr.none_alloc _ _)⟩
          case measure => simp [intOf]; omega)
    · obtain rfl : k = n := by omega
      have Ho := Lib.hid ho
      have hl := hv.out
      rw [take_all (by have := Hlen.out; omega)] at hl
      have Hl := Lib.hid hl
      clear ho hl
      go_wp2
      go_ret
      exact ⟨by rw [← Hl.out]; rfl, Ho.out.bel⟩

def stepsV (l : List TierV) : Int := if l = [] then 0 else fillsV l + 2
theorem fillsV_in {l : List TierV} (hs : ∀ t ∈ l, t.shards ≤ 8) : 0 ≤ fillsV l ∧ fillsV l ≤ 8 * l.length := by
  induction l with
  | nil => simp [fillsV]
  | cons a t ih =>
    have h1 := ih (fun x hx => hs x (List.mem_cons_of_mem _ hx))
    have h2 := hs a (List.mem_cons_self ..)
    have h3 : fillsV (a :: t) = max a.shards 0 + fillsV t := by simp [fillsV]
    rw [h3, List.length_cons]
    omega
theorem steps_any (nm : ByteArray) (l : List TierV) (A : Option Addr) (n c : Nat) (S : Option Addr) (m d : Nat) (w : World) (hr : Rd w 4 A n (tcells l)) (hn : n ≤ 1099511627776) (hs : ∀ t ∈ l, t.shards ≤ 8) :
    Calls Tryz.prog 29 #[planV nm A n c S m d] w fun r w' => r = .returned (.int .i64 (stepsV l)) ∧ Below w.heap.size w w' := by
  have hlen := hr.tiers_len
  have hin := fillsV_in hs
  have H := Lib.hid (fun w' (h : Fr (fun _ => False) w w') => fills_any nm l A n c S m d w' (hr.fr0 h) hn hs)
  have O := Lib.hid ((Own.start w).skip (Fr.none_alloc w (.cells #[.string nm, .slice A n c, .slice S m d] 61)))
  clear hr hs
  unfold planV at H ⊢
  by_cases h0 : n = 0
  · subst h0
    obtain rfl : l = [] := List.eq_nil_of_length_eq_zero hlen
    rw [show stepsV [] = 0 from rfl]
    clear hin hlen H
    go_enter Tryz.func29, Tryz.ntmps29
    go_wp2_with fail
    go_ret
    exact ⟨rfl, O.out.bel⟩
  · have hne : l ≠ [] := by rintro rfl; exact h0 hlen.symm
    rw [show stepsV l = fillsV l + 2 by simp [stepsV, hne]]
    have hnb : ((n : Int) == 0) = false := by simp; omega
    obtain ⟨v, hv⟩ : ∃ v, fillsV l = v := ⟨_, rfl⟩
    rw [hv] at H hin ⊢
    obtain ⟨v0, v1⟩ := hin
    clear hv hne h0
    go_enter Tryz.func29, Tryz.ntmps29
    go_wp2_with fail
    refine (H.out _ (Fr.none_alloc _ _)).mono ?_
    rintro r w1 ⟨rfl, hb⟩
    have O2 := Lib.hid (O.out.below hb)
    clear hb
    go_wp2_with fail
    go_ret
    exact ⟨rfl, O2.out.bel⟩
end Go.Proofs.YtkfdgodngbinlaaGreatDoor
namespace Go.Proofs.YtkfdgodngbinlaaGreatDoor
set_option linter.all false
open Go.RowKit

end Go.Proofs.YtkfdgodngbinlaaGreatDoor
namespace Go.Proofs.YtkfdgodngbinlaaGreatDoor
set_option linter.all false
open Go.RowKit

def stepVal (s : Int × Int × Int) : Value := .agg #[.int .i64 s.1, .int .i64 s.2.1, .int .i64 s.2.2]
def atGo (k : Int) (i : Nat) : List TierV → Int × Int × Int
  | [] => if k = 0 then (2, 0, 0) else (3, 0, 0)
  | t :: r => if k < t.shards then (1, i, k) else atGo (k - max t.shards 0) (i + 1) r
def atV (l : List TierV) (k : Int) : (Int × Int × Int) × Bool := if k < 0 ∨ stepsV l ≤ k then ((0, 0, 0), false) else (atGo k 0 l, true)

theorem put3 {w w1 : World} {g : Nat} (o : Own w w1 (fun _ => False)) (hg : w.heap.size ≤ g) (a b c : Value) :
    Below w.heap.size w (((w1.setCell ⟨g, 0, none⟩ a).setCell ⟨g, 1, none⟩ b).setCell ⟨g, 2, none⟩ c) := by
  have fF : Fr (fun j => j = g) w1 (((w1.setCell ⟨g, 0, none⟩ a).setCell ⟨g, 1, none⟩ b).setCell ⟨g, 2, none⟩ c) :=
    (((Fr.refl (fun j => j = g) w1).setCell (p := ⟨g, 0, none⟩) (.inl rfl) _).setCell (p := ⟨g, 1, none⟩) (.inl rfl) _).setCell (p := ⟨g, 2, none⟩) (.inl rfl) _
  exact ((o.also (G := fun j => j = g) (fun j hj => by omega)).fr fF).bel

set_option maxRecDepth 100000 in
set_option maxHeartbeats 2000000 in
theorem at_any (nm : ByteArray) (l : List TierV) (A : Option Addr) (n c : Nat) (S : Option Addr) (m d : Nat) (k : Int) (hk0 : i64 k) (w : World) (hr : Rd w 4 A n (tcells l)) (hn : n ≤ 1099511627776) (hs : ∀ t ∈ l, t.shards ≤ 8) :
    Calls Tryz.prog 143 #[planV nm A n c S m d, .int .i64 k] w fun r w' => r = .returned (.tuple #[stepVal (atV l k).1, .bool (atV l k).2]) ∧ Below w.heap.size w w' := by
  have H := Lib.hid (fun w' (h : Fr (fun _ => False) w w') => steps_any nm l A n c S m d w' (hr.fr0 h) hn hs)
  have Hr := Lib.hid hr
  have Hlen := Lib.hid hr.tiers_len
  have Hs := Lib.hid hs
  clear hr hs
  have O := Lib.hid (((Own.start w).skip (Fr.none_alloc w (.cells #[.string nm, .slice A n c, .slice S m d] 61))).skip (Fr.none_alloc _ (.cells #[.int .i64 0, .int .i64 0, .int .i64 0] 54)))
  have B0 := Lib.hid ((Blk.new w 61 #[.string nm, .slice A n c, .slice S m d]).alloc (.cells #[.int .i64 0, .int .i64 0, .int .i64 0] 54))
  have B1 := Lib.hid (Blk.new' (w := w.alloc (.cells #[.string nm, .slice A n c, .slice S m d] 61)) (k := w.heap.size + 1) (by simp) 54 #[.int .i64 0, .int .i64 0, .int .i64 0])
  unfold planV at H ⊢
  obtain ⟨v, hv⟩ : ∃ v, stepsV l = v := ⟨_, rfl⟩
  have Hv := Lib.hid hv
  rw [hv] at H
  clear hv
  by_cases hneg : k < 0
  · rw [show atV l k = ((0, 0, 0), false) by simp [atV, hneg]]
    have b1 := B1.out
    go_enter Tryz.func143, Tryz.ntmps143
    go_wp2_with fail
    have hbel := put3 (g := w.heap.size + 1) O.out (by omega) (.int .i64 0) (.int .i64 0) (.int .i64 0)
    refine bodyPost_ret (v := .tuple #[stepVal (0, 0, 0), .bool false]) ?_ rfl ⟨rfl, by first | exact O.out.bel | exact hbel⟩
    simp [results, Tryz.results143, go_sem, stepVal]
  · have hk1 := hk0.2
    by_cases hge : v ≤ k
    · rw [show atV l k = ((0, 0, 0), false) by simp [atV, Hv.out, hge]]
      go_enter Tryz.func143, Tryz.ntmps143
      go_wp2_with fail
      refine (H.out _ (Fr.b0 O.out.bel)).mono ?_
      rintro r w1 ⟨rfl, hb⟩
      have O1 := Lib.hid (O.out.below hb)
      have b1 := B1.out.below hb
      have e0 := b1.cell 0
      have e1 := b1.cell 1
      have e2 := b1.cell 2
      have g0 := b1.frozen 0
      have g1 := b1.frozen 1
      have g2 := b1.frozen 2
      simp only [List.getElem?_toArray, List.getElem?_cons_succ, List.getElem?_cons_zero] at e0 e1 e2
      clear b1 hb
      go_wp2_with fail
      have hbel := put3 (g := w.heap.size + 1) O1.out (by omega) (.int .i64 0) (.int .i64 0) (.int .i64 0)
      refine bodyPost_ret (v := .tuple #[stepVal (0, 0, 0), .bool false]) ?_ rfl ⟨rfl, hbel⟩
      simp [results, Tryz.results143, go_sem, stepVal, *]
    · obtain ⟨s, hs⟩ : ∃ s, atGo k 0 l = s := ⟨_, rfl⟩
      rw [show atV l k = (s, true) by simp [atV, Hv.out, hge, hneg, hs]]
      have HS := Lib.hid hs
      clear hs
      go_enter Tryz.func143, Tryz.ntmps143
      go_wp2_with fail
      refine (H.out _ (Fr.b0 O.out.bel)).mono ?_
      rintro r w1 ⟨rfl, hb⟩
      have O1 := Lib.hid (O.out.below hb)
      have B0' := Lib.hid (B0.out.below hb)
      have B1' := Lib.hid (B1.out.below hb)
      have c1 := B0'.out.cell 1
      simp only [List.getElem?_toArray, List.getElem?_cons_succ, List.getElem?_cons_zero] at c1
      clear hb B0 B1 O
      go_wp2_with fail
      clear c1
      go_loopw [1, 21] (fun q i wr => ∃ (j : Nat) (y : Int), j ≤ n ∧ i = .int .i64 j ∧ q = .int .i64 y ∧ 0 ≤ y ∧ y ≤ 9223372036854775807 ∧ Hid (atGo y j (l.drop j) = s) ∧ Blk wr (w.heap.size + 1) 54 #[.int .i64 0, .int .i64 0, .int .i64 0] ∧ Own w wr (fun _ => False)) (fun _ i _ => n - (intOf i).toNat)
      case atStart => exact ⟨0, k, Nat.zero_le _, rfl, rfl, by omega, hk1, by simpa [Hid] using HS.out, B1'.out, O1.out⟩
      case round =>
        obtain ⟨j, y, hj, rfl, rfl, y0, y1, hat, hb1, ho⟩ := hrel
        by_cases hlt : j < n
        · obtain ⟨ad, x, rfl, hu, d0, d1, d2, d3⟩ := (Hr.out.below ho.bel).tier hlt
          have hx8 := Hs.out x (mem_of_get hu)
          have hdrop : l.drop j = x :: l.drop (j + 1) := by
            obtain ⟨hjl, rfl⟩ := List.getElem?_eq_some_iff.1 hu
            exact List.drop_eq_getElem_cons hjl
          rw [hdrop] at hat
          have Hb1 := Lib.hid hb1
          have Ho := Lib.hid ho
          by_cases hys : y < x.shards
          · have E : s = (1, (j : Int), y) := by rw [← hat.out]; simp [atGo, hys]
            subst E
            have hb2 := hb1.alloc (.cells #[.string x.name, .int .i64 x.every, .int .i64 x.keep, .int .i64 x.shards] 109)
            have f0 := fun o => (hb1.alloc o).frozen 0
            have f1 := fun o => (hb1.alloc o).frozen 1
            have f2 := fun o => (hb1.alloc o).frozen 2
            have e0 := fun o => (hb1.alloc o).cell 0
            have e1 := fun o => (hb1.alloc o).cell 1
            have e2 := fun o => (hb1.alloc o).cell 2
            simp only [List.getElem?_toArray, List.getElem?_cons_succ, List.getElem?_cons_zero] at e0 e1 e2
            clear hu hdrop hb1 ho hb2
            go_wp2_with fail
            have hbel := put3 (g := w.heap.size + 1) (Ho.out.skip (Fr.none_alloc wr (.cells #[.string x.name, .int .i64 x.every, .int .i64 x.keep, .int .i64 x.shards] 109))) (by omega) (.int .i64 1) (.int .i64 j) (.int .i64 y)
            refine bodyPost_ret (v := .tuple #[stepVal (1, j, y), .bool true]) ?_ rfl ⟨rfl, hbel⟩
            simp [results, Tryz.results143, go_sem, stepVal, *]
          · have E : Hid (atGo (y - max x.shards 0) (j + 1) (l.drop (j + 1)) = s) := by rw [Hid, ← hat.out]; simp [atGo, hys]
            clear hu hdrop hb1 ho
            by_cases h0 : 0 ≤ x.shards
            · have em : max x.shards 0 = x.shards := by omega
              rw [em] at E
              clear em
              go_wp2
              all_goals (
                go_roundw
                case rel => exact ⟨j + 1, y - x.shards, by omega, by go_num, by go_num, by omega, by omega, E, Hb1.out.alloc _, Ho.out.skip (Fr.none_alloc _ _)⟩
                case measure => simp [intOf]; omega)
            · have em : y - max x.shards 0 = y := by omega
              rw [em] at E
              clear em
              go_wp2
              all_goals (
                go_roundw
                case rel => exact ⟨j + 1, y, by omega, by go_num, by go_num, by omega, by omega, E, Hb1.out.alloc _, Ho.out.skip (Fr.none_alloc _ _)⟩
                case measure => simp [intOf]; omega)
        · obtain rfl : j = n := by omega
          rw [List.drop_of_length_le (by have := Hlen.out; omega)] at hat
          have e0 := hb1.cell 0
          have e1 := hb1.cell 1
          have e2 := hb1.cell 2
          have g0 := hb1.frozen 0
          have g1 := hb1.frozen 1
          have g2 := hb1.frozen 2
          simp only [List.getElem?_toArray, List.getElem?_cons_succ, List.getElem?_cons_zero] at e0 e1 e2
          have Ho := Lib.hid ho
          clear ho hb1
          by_cases hy : y = 0
          · have E : s = (2, 0, 0) := by rw [← hat.out]; simp [atGo, hy]
            subst E hy
            go_wp2_with fail
            have hbel := put3 (g := w.heap.size + 1) Ho.out (by omega) (.int .i64 2) (.int .i64 0) (.int .i64 0)
            refine bodyPost_ret (v := .tuple #[stepVal (2, 0, 0), .bool true]) ?_ rfl ⟨rfl, hbel⟩
            simp [results, Tryz.results143, go_sem, stepVal, *]
          · have E : s = (3, 0, 0) := by rw [← hat.out]; simp [atGo, hy]
            subst E
            have hyb : (y == 0) = false := by simpa using hy
            go_wp2_with fail
            have hbel := put3 (g := w.heap.size + 1) Ho.out (by omega) (.int .i64 3) (.int .i64 0) (.int .i64 0)
            refine bodyPost_ret (v := .tuple #[stepVal (3, 0, 0), .bool true]) ?_ rfl ⟨rfl, hbel⟩
            simp [results, Tryz.results143, go_sem, stepVal, *]
end Go.Proofs.YtkfdgodngbinlaaGreatDoor
namespace Go.Proofs.YtkfdgodngbinlaaGreatDoor
set_option linter.all false
open Go.RowKit

theorem bound_any (nm : ByteArray) (l : List TierV) (A : Option Addr) (n c : Nat) (S : Option Addr) (m d : Nat) (need : Int) (h0 : 0 ≤ need) (h1 : need ≤ 1152921504606846976) (w : World) (hr : Rd w 4 A n (tcells l)) (hn : n ≤ 1099511627776) (hs : ∀ t ∈ l, t.shards ≤ 8) :
    Calls Tryz.prog 97 #[planV nm A n c S m d, .int .i64 need] w fun r w' => r = .returned (.int .i64 (2 * need + fillsV l)) ∧ Below w.heap.size w w' := by
  have hlen := hr.tiers_len
  have hin := fillsV_in hs
  have H := Lib.hid (fun w' (h : Fr (fun _ => False) w w') => fills_any nm l A n c S m d w' (hr.fr0 h) hn hs)
  have O := Lib.hid ((Own.start w).skip (Fr.none_alloc w (.cells #[.string nm, .slice A n c, .slice S m d] 61)))
  have B0 := Lib.hid (Blk.new w 61 #[.string nm, .slice A n c, .slice S m d])
  clear hr hs
  unfold planV at H ⊢
  obtain ⟨v, hv⟩ : ∃ v, fillsV l = v := ⟨_, rfl⟩
  rw [hv] at H hin ⊢
  obtain ⟨v0, v1⟩ := hin
  rw [hlen] at v1
  clear hv hlen
  go_enter Tryz.func97, Tryz.ntmps97
  go_wp2_with fail
  refine (H.out _ (Fr.b0 O.out.bel)).mono ?_
  rintro r w1 ⟨rfl, hb⟩
  have O1 := Lib.hid (O.out.below hb)
  have b1 := B0.out.below hb
  have c0 := b1.cell 0
  have c1 := b1.cell 1
  have c2 := b1.cell 2
  simp only [List.getElem?_toArray, List.getElem?_cons_succ, List.getElem?_cons_zero] at c0 c1 c2
  clear hb b1
  go_wp2_with fail
  refine (H.out _ (Fr.b0 O1.out.bel)).mono ?_
  rintro r w2 ⟨rfl, hb⟩
  have O2 := Lib.hid (O1.out.below hb)
  clear hb c0 c1 c2
  go_wp2_with fail
  go_ret
  exact ⟨rfl, O2.out.bel⟩
end Go.Proofs.YtkfdgodngbinlaaGreatDoor
namespace Go.Proofs.YtkfdgodngbinlaaGreatDoor
set_option linter.all false
open Go.RowKit

theorem shardV_in (s : ByteArray) (n : Int) : 0 ≤ shardV s n ∧ shardV s n ≤ 4294967295 := by
  have := hashV_in s.data.toList
  unfold shardV
  split
  · omega
  · have h1 := Int.emod_nonneg (hashV s.data.toList) (show n ≠ 0 by omega)
    have h2 : hashV s.data.toList % n ≤ hashV s.data.toList := by
      have h3 := Int.mul_ediv_add_emod (hashV s.data.toList) n
      have h4 := Int.mul_nonneg (show 0 ≤ n by omega) (Int.ediv_nonneg this.1 (show 0 ≤ n by omega))
      omega
    omega

set_option maxRecDepth 100000 in
set_option maxHeartbeats 2000000 in
theorem filled_any (nm : ByteArray) (l : List TierV) (A : Option Addr) (n c : Nat) (S : Option Addr) (m d : Nat) (k : Int) (j : Nat) (t : TierV) (s : ByteArray) (w : World) (hr : Rd w 4 A n (tcells l)) (hnc : n ≤ c) (hn : n ≤ 1099511627776) (hs : ∀ t ∈ l, t.shards ≤ 8) (hj : l[j]? = some t) (hsz : s.size ≤ maxLen) :
    Calls Tryz.prog 92 #[planV nm A n c S m d, .int .i64 k, .int .i64 j, .string s] w fun r w' => r = .returned (.bool (decide (shardV s t.shards + fillsV (l.take j) < k))) ∧ Below w.heap.size w w' := by
  have hlen := hr.tiers_len
  have hjn : j < n := by have := (List.getElem?_eq_some_iff.1 hj).1; omega
  have hjc : (j : Int) ≤ (c : Int) := by omega
  have hjc' : j ≤ c := by omega
  have hjn' : (j : Int) < (n : Int) := by omega
  have HSh := Lib.hid (fun w' => shard_any s hsz t.shards w')
  have hsh := shardV_in s t.shards
  obtain ⟨sv, hsv⟩ : ∃ sv, shardV s t.shards = sv := ⟨_, rfl⟩
  rw [hsv] at HSh hsh ⊢
  obtain ⟨sv0, sv1⟩ := hsh
  obtain ⟨ad, t', hA, hj', d0, d1, d2, d3⟩ := hr.tier hjn
  subst hA
  obtain rfl : t = t' := Option.some.inj (hj.symm.trans hj')
  have Hr := Lib.hid hr
  have Hs := Lib.hid hs
  have Hlen := Lib.hid hlen
  have d3' := fun o => (Fr.none_alloc w o).cell d3 (fun h => h)
  have O := Lib.hid ((Own.start w).skip (Fr.none_alloc w (.cells #[.string nm, .slice (some ad) n c, .slice S m d] 61)))
  have HT := Lib.hid (hr.takeT (k := j) (by omega))
  clear hr hs hlen hj hj' d0 d1 d2 d3 hsv hsz
  unfold planV
  go_enter Tryz.func92, Tryz.ntmps92
  go_wp2_with fail
  refine (HSh.out _).mono ?_
  rintro r w1 ⟨rfl, rfl⟩
  clear d3'
  go_wp2_with fail
  go_loopw [9, 37] (fun q i wr => ∃ (k2 : Nat) (v : Int), k2 ≤ j ∧ i = .int .i64 k2 ∧ q = .int .i64 v ∧ 0 ≤ v ∧ v ≤ 4294967295 + 8 * k2 ∧ Hid (v = sv + fillsV (l.take k2)) ∧ Own w wr (fun _ => False)) (fun _ i _ => j - (intOf i).toNat)
  case atStart => exact ⟨0, sv, Nat.zero_le _, rfl, rfl, by omega, by omega, by simp [Hid, fillsV], O.out⟩
  case round =>
    obtain ⟨k2, v, hk, rfl, rfl, v0, v1, hv, ho⟩ := hrel
    by_cases hlt : k2 < j
    · obtain ⟨ad', x, e, hu, d0, d1, d2, d3⟩ := (HT.out.below ho.bel).tier hlt
      injection e with e
      subst e
      rw [List.getElem?_take, if_pos hlt] at hu
      have hx8 := Hs.out x (mem_of_get hu)
      have Ho := Lib.hid ho
      have Hf := Lib.hid (fills_snoc hu)
      clear ho hu
      by_cases h0 : 0 ≤ x.shards
      · go_wp2
        all_goals (
          go_roundw
          case rel => exact ⟨k2 + 1, v + x.shards, by omega, by go_num, by go_num, by omega, by omega, by rw [Hid, Hf.out, hv.out]; omega, Ho.out.skip (Fr.none_alloc _ _)⟩
          case measure => simp [intOf]; omega)
      · go_wp2
        all_goals (
          go_roundw
          case rel => exact ⟨k2 + 1, v, by omega, by go_num, by go_num, by omega, by omega, by rw [Hid, Hf.out, hv.out]; omega, Ho.out.skip (Fr.none_alloc _ _)⟩
          case measure => simp [intOf]; omega)
    · obtain rfl : k2 = j := by omega
      have Ho := Lib.hid ho
      clear ho
      have E := Lib.hid (show decide (sv + fillsV (l.take k2) < k) = decide (v < k) by rw [← hv.out])
      go_wp2
      go_ret
      exact ⟨by rw [E.out]; rfl, Ho.out.bel⟩
end Go.Proofs.YtkfdgodngbinlaaGreatDoor
namespace Go.Proofs.YtkfdgodngbinlaaGreatDoor
set_option linter.all false
open Go.RowKit

theorem atGo_spec (l : List TierV) (hl : ∀ t ∈ l, 0 ≤ t.shards) (i : Nat) (k : Int) (k0 : 0 ≤ k) (k1 : k < fillsV l) : ∃ j t, l[j]? = some t ∧ atGo k i l = (1, ((i + j : Nat) : Int), k - fillsV (l.take j)) ∧ 0 ≤ k - fillsV (l.take j) ∧ k - fillsV (l.take j) < t.shards := by
  induction l generalizing i k with
  | nil => simp [fillsV] at k1; omega
  | cons a r ih =>
    have ha := hl a (List.mem_cons_self ..)
    have hf : fillsV (a :: r) = a.shards + fillsV r := by simp only [fillsV, List.map_cons, List.sum_cons]; omega
    by_cases h : k < a.shards
    · exact ⟨0, a, rfl, by simp [atGo, h, fillsV], by simpa [fillsV] using k0, by simpa [fillsV] using h⟩
    · obtain ⟨j, t, hj, e, e0, e1⟩ := ih (fun t ht => hl t (List.mem_cons_of_mem _ ht)) (i + 1) (k - a.shards) (by omega) (by omega)
      have ht : fillsV ((a :: r).take (j + 1)) = a.shards + fillsV (r.take j) := by simp only [List.take_succ_cons, fillsV, List.map_cons, List.sum_cons]; omega
      refine ⟨j + 1, t, by simpa using hj, ?_, by rw [ht]; omega, by rw [ht]; omega⟩
      simp only [atGo, h, if_false]
      rw [show max a.shards 0 = a.shards by omega, e, ht]
      simp only [Prod.mk.injEq, true_and]
      exact ⟨by omega, by omega⟩
theorem fills_mono {l : List TierV} (i j : Nat) (h : i ≤ j) : fillsV (l.take i) ≤ fillsV (l.take j) := by
  induction j with
  | zero => obtain rfl : i = 0 := by omega
            exact Int.le_refl _
  | succ j ih =>
    rcases Nat.lt_or_ge i (j + 1) with h1 | h1
    · have := ih (by omega)
      by_cases hl : j < l.length
      · have h2 := fills_snoc (List.getElem?_eq_getElem hl)
        omega
      · rw [List.take_of_length_le (by omega : l.length ≤ j)] at this
        rw [List.take_of_length_le (by omega : l.length ≤ j + 1)]
        exact this
    · obtain rfl : i = j + 1 := by omega
      exact Int.le_refl _
end Go.Proofs.YtkfdgodngbinlaaGreatDoor
namespace Go.Proofs.YtkfdgodngbinlaaGreatDoor
set_option linter.all false
open Go.RowKit

theorem check_len {nm : ByteArray} {l : List TierV} (h : checkB nm l = true) : 1 ≤ l.length ∧ l.length ≤ 5 := by
  unfold checkB withinB at h
  simp only [Bool.and_eq_true, decide_eq_true_eq] at h
  omega
theorem check_fits {nm : ByteArray} {l : List TierV} (h : checkB nm l = true) {i : Nat} {t : TierV} (ht : l[i]? = some t) : fitsT t (l.take i) = true := by
  unfold checkB at h
  simp only [Bool.and_eq_true, List.all_eq_true, List.mem_range] at h
  have := h.2 i (List.getElem?_eq_some_iff.1 ht).1
  unfold fitsAt at this
  rw [ht] at this
  exact this
theorem fits_ok2 {t : TierV} {l : List TierV} (h : fitsT t l = true) : (1 ≤ t.keep ∧ t.keep ≤ 1000000) ∧ 1 ≤ t.shards ∧ t.shards ≤ 8 := by
  unfold fitsT TierV.ok withinB at h
  simp only [Bool.and_eq_true, decide_eq_true_eq] at h
  omega
theorem take_last {l : List TierV} {i : Nat} {a : TierV} (h : l[i]? = some a) : (l.take (i + 1)).getLast? = some a := by
  rw [take_snoc h, List.getLast?_append]; rfl
theorem check_every {nm : ByteArray} {l : List TierV} (h : checkB nm l = true) : ∀ (i : Nat) (t : TierV), l[i]? = some t → (i = 0 → t.every = 1) ∧ 1 ≤ t.every ∧ t.every ≤ 1000000 := by
  intro i
  induction i with
  | zero =>
    intro t ht
    have := check_fits h ht
    unfold fitsT at this
    simp only [List.take_zero, List.getLast?_nil, Bool.and_eq_true, beq_iff_eq] at this
    omega
  | succ i ih =>
    intro t ht
    have hi : i < l.length := by have := (List.getElem?_eq_some_iff.1 ht).1; omega
    have ha : l[i]? = some l[i] := List.getElem?_eq_getElem hi
    have := check_fits h ht
    unfold fitsT at this
    rw [take_last ha] at this
    simp only [Bool.and_eq_true, decide_eq_true_eq] at this
    have := ih _ ha
    omega
theorem check_mem {nm : ByteArray} {l : List TierV} (h : checkB nm l = true) {t : TierV} (ht : t ∈ l) : 1 ≤ t.every ∧ t.every ≤ 1000000 ∧ 1 ≤ t.keep ∧ t.keep ≤ 1000000 ∧ 1 ≤ t.shards ∧ t.shards ≤ 8 := by
  obtain ⟨i, hi, rfl⟩ := List.mem_iff_getElem.1 ht
  have ha : l[i]? = some l[i] := List.getElem?_eq_getElem hi
  have h1 := check_every h i _ ha
  have h2 := fits_ok2 (check_fits h ha)
  omega

theorem srcGo_law (now : Int) (l : List TierV) (fl : List Int) (e : Int) (m : Nat) (hm : m ≤ l.length) :
    (srcGo now l fl e m = -1 ∧ ∀ i < m, ∀ t, l[i]? = some t → dividesB t.every e = false) ∨
    (∃ (k : Nat) (t : TierV), k < m ∧ srcGo now l fl e m = k ∧ l[k]? = some t ∧ dividesB t.every e = true ∧ ∀ i < m, ∀ t', l[i]? = some t' → dividesB t'.every e = true → fromV now l fl k ≤ fromV now l fl i) := by
  induction m with
  | zero => exact .inl ⟨rfl, fun i hi => by omega⟩
  | succ m ih =>
    have ha : l[m]? = some l[m] := List.getElem?_eq_getElem (by omega)
    simp only [srcGo, ha]
    rcases ih (by omega) with ⟨h1, h2⟩ | ⟨k, t, h0, h1, h2, h3, h4⟩
    · rw [h1]
      by_cases hd : dividesB l[m].every e = true
      · refine .inr ⟨m, l[m], by omega, by simp [hd], ha, hd, fun i hi t' ht' hd' => ?_⟩
        rcases Nat.lt_or_ge i m with hlt | hge
        · rw [h2 i hlt t' ht'] at hd'; cases hd'
        · obtain rfl : i = m := by omega
          exact Int.le_refl _
      · refine .inl ⟨by simp [hd], fun i hi t ht => ?_⟩
        rcases Nat.lt_or_ge i m with hlt | hge
        · exact h2 i hlt t ht
        · obtain rfl : i = m := by omega
          rw [ha] at ht
          injection ht with ht
          subst ht
          simpa using hd
    · rw [h1]
      have hk : decide ((k : Int) < 0) = false := decide_eq_false (by omega)
      rw [hk, Int.toNat_natCast, Bool.false_or]
      by_cases hd : dividesB l[m].every e = true
      · by_cases hle : fromV now l fl m ≤ fromV now l fl k
        · refine .inr ⟨m, l[m], by omega, by simp [hd, hle], ha, hd, fun i hi t' ht' hd' => ?_⟩
          rcases Nat.lt_or_ge i m with hlt | hge
          · exact Int.le_trans hle (h4 i hlt t' ht' hd')
          · obtain rfl : i = m := by omega
            exact Int.le_refl _
        · refine .inr ⟨k, t, by omega, by simp [hle], h2, h3, fun i hi t' ht' hd' => ?_⟩
          rcases Nat.lt_or_ge i m with hlt | hge
          · exact h4 i hlt t' ht' hd'
          · obtain rfl : i = m := by omega
            omega
      · refine .inr ⟨k, t, by omega, by simp [hd], h2, h3, fun i hi t' ht' hd' => ?_⟩
        rcases Nat.lt_or_ge i m with hlt | hge
        · exact h4 i hlt t' ht' hd'
        · obtain rfl : i = m := by omega
          rw [ha] at ht'
          injection ht' with ht'
          subst ht'
          exact absurd hd' hd
theorem divides_one (e : Int) : dividesB 1 e = true := by unfold dividesB; simp [Int.tmod_one]
theorem src_law {now : Int} {nm : ByteArray} {l : List TierV} {fl : List Int} (e : Int) (h : checkB nm l = true) :
    ∃ (k : Nat) (t : TierV), k < l.length ∧ srcGo now l fl e l.length = k ∧ l[k]? = some t ∧ e.tmod t.every = 0 ∧ ∀ (i : Nat) (t' : TierV), l[i]? = some t' → e.tmod t'.every = 0 → fromV now l fl k ≤ fromV now l fl i := by
  rcases srcGo_law now l fl e l.length (Nat.le_refl _) with ⟨_, h2⟩ | ⟨k, t, h0, h1, h2, h3, h4⟩
  · have hl := check_len h
    have ha : l[0]? = some l[0] := List.getElem?_eq_getElem (by omega)
    have := h2 0 (by omega) _ ha
    rw [(check_every h 0 _ ha).1 rfl, divides_one] at this
    cases this
  · refine ⟨k, t, h0, h1, h2, ?_, fun i t' ht' hd => h4 i (List.getElem?_eq_some_iff.1 ht').1 t' ht' ?_⟩
    · unfold dividesB at h3
      simp only [Bool.and_eq_true, decide_eq_true_eq] at h3
      exact h3.2
    · have := check_every h i t' ht'
      unfold dividesB
      simp only [Bool.and_eq_true, decide_eq_true_eq]
      exact ⟨this.2.1, hd⟩
theorem ceil_law {t e : Int} (h0 : 0 ≤ t) (h1 : t ≤ 4398046511104) (he : 1 ≤ e) (he2 : e ≤ 1000000) : (ceilV t e).tmod e = 0 ∧ t ≤ ceilV t e ∧ ceilV t e - t < e ∧ 0 ≤ ceilV t e ∧ ceilV t e ≤ 4398047511104 := by
  have hb := (tmod_bd t e he)
  have h3 := hb.2.2.1 h0
  have hdvd : e ∣ t - t.tmod e := ⟨t.tdiv e, by have := Int.mul_tdiv_add_tmod t e; omega⟩
  unfold ceilV
  rw [if_neg (by omega)]
  split
  · refine ⟨?_, by omega⟩
    exact Int.tmod_eq_zero_of_dvd (Int.dvd_add hdvd (Int.dvd_refl e))
  · rename_i hn
    refine ⟨Int.tmod_eq_zero_of_dvd hdvd, ?_⟩
    have : t.tmod e = 0 := by
      have : ¬ (0 < t.tmod e) := fun hh => hn ⟨hh, by omega⟩
      omega
    omega
theorem floor_le {t e : Int} (he : 1 ≤ e) (h0 : -1000000 ≤ t) (he2 : e ≤ 1000000) : floorV t e ≤ t := by
  have hb := (tmod_bd t e he)
  unfold floorV
  rw [if_neg (by omega)]
  split
  · omega
  · rename_i hn
    have : ¬ (t.tmod e < 0) := fun hh => hn ⟨hh, by omega⟩
    omega
theorem from_bd {now : Int} {nm : ByteArray} {l : List TierV} {fl : List Int} (h : checkB nm l = true) (h0 : 0 ≤ now) (h1 : now ≤ 1099511627776) (hf : ∀ f ∈ fl, 0 ≤ f ∧ f ≤ 2199023255552) (k : Nat) : 0 ≤ fromV now l fl k ∧ fromV now l fl k ≤ 2199023255552 := by
  unfold fromV
  split
  · rename_i a b ha hb
    have h2 := check_mem h (mem_of_get ha)
    have h3 := check_mem h (mem_of_get hb)
    have h4 : 0 ≤ backV now a.keep b.every ∧ backV now a.keep b.every ≤ 2199023255552 := by
      unfold backV
      rw [if_neg (by omega)]
      have := floor_le (t := now - a.keep) (e := b.every) (by omega) (by omega) (by omega)
      omega
    split
    · rename_i f hfk
      have := hf f (mem_of_get hfk)
      show 0 ≤ max (backV now a.keep b.every) f ∧ max (backV now a.keep b.every) f ≤ _
      omega
    · exact h4
  · omega
end Go.Proofs.YtkfdgodngbinlaaGreatDoor
namespace Go.Proofs.YtkfdgodngbinlaaGreatDoor
set_option linter.all false
open Go.ChangeShapes Go.WideShapes Go.ChangeAt Go.RowKit

end Go.Proofs.YtkfdgodngbinlaaGreatDoor
namespace Go.Proofs.YtkfdgodngbinlaaGreatDoor
set_option linter.all false
open Go.ChangeShapes Go.WideShapes Go.ChangeAt Go.RowKit

end Go.Proofs.YtkfdgodngbinlaaGreatDoor
namespace Go.Proofs.YtkfdgodngbinlaaGreatDoor
set_option linter.all false
open Go.RowKit

end Go.Proofs.YtkfdgodngbinlaaGreatDoor
