/- The statement PackNames: the walk. -/
import Derived.Test.YtomofnmlhjpifaaDoorPkBack
import Derived.Test.YtomofnmlhjpifaaDoorShort
namespace Go.Proofs.YtomofnmlhjpifaaDoor
open Go.RowKit

theorem name_keep (g : Nat) (b : List UInt8) (p : Addr) (v : Value) (w : World) (h : Up w g 0 b) (hb : b.length ≤ 1099511627776) (hp : p.block ≠ g) (hc : w.cell? p = some v) :
    Calls Tryd.prog 27 #[.pointer (some ⟨g, 0, none⟩)] w fun r w' => r = .returned (.string (bstr (uName 0 b).2.2)) ∧ Up w' g (uName 0 b).1 (uName 0 b).2.1 ∧ Fr (fun k => k = g) w w' ∧ w'.cell? p = some v :=
  (name_any g 0 b w h hb).mono fun _ _ ⟨h1, h2, h3⟩ => ⟨h1, h2, h3, h3.cell hc hp⟩

set_option maxRecDepth 100000 in
set_option maxHeartbeats 1000000 in
theorem names_walk (ss : List ByteArray) (A : Option Addr) (n c : Nat) (w : World) (ht : Tab w) (hr : Rd w 1 A n (ss.map Value.string)) (hsz : ∀ s ∈ ss, s.size ≤ maxLen) :
    Calls Tryd.prog 7 #[.slice A n c] w fun r w' => r = .returned (.bool true) ∧ Below w.heap.size w w' := by
  have Ht := Lib.hid ht
  have Hr := Lib.hid hr
  have Hsz := Lib.hid hsz
  have Hlen := Lib.hid hr.len_map
  clear ht hr hsz
  go_enter Tryd.func7, Tryd.ntmps7
  go_wp2_with fail
  refine (short_any 20 600 ss A n c w Hr.out (by omega) (by omega) (by omega) Hsz.out).mono ?_
  rintro r w1 ⟨b, rfl, hb, b1⟩
  have o1 := Lib.hid ((Own.start w).below b1)
  clear b1
  cases b
  · clear hb
    go_wp2_with fail
    refine (alive_any w1 (Ht.out.below o1.out.bel)).mono ?_
    rintro r w5 ⟨rfl, b5⟩
    have o5 := Lib.hid (o1.out.below b5)
    clear b5 o1
    go_wp2
    go_ret
    exact ⟨rfl, o5.out.bel⟩
  · obtain ⟨hn, hs6⟩ := hb rfl
    have Hs6 := Lib.hid hs6
    clear hb hs6
    go_wp2_with fail
    have p0 := (Pk.new w1).1
    have o2 := (o1.out.skip (Fr.none_alloc w1 (.cells #[.int .i64 0, .slice none 0 0] 28))).also (G := pkF w1.heap.size none 0 0) (fun k hk => by have := (Pk.new w1).2 k hk; have := o1.out.bel.size; omega)
    refine (names_any _ _ 0 [] ss _ n c _ p0 ((Hr.out.below o1.out.bel).alloc _) (fun k hk hF => by have h1 := (Hr.out.adlt (by decide)) k hk; have h2 := o2.new k hF; omega) (by simp; omega) (fun s hs => by have := Hs6.out s hs; omega)).mono ?_
    by_cases hall : ∀ s ∈ ss, s.size ≤ 15
    · rw [pNames_ok hall, List.nil_append]
      rintro r w3 ⟨rfl, F3, p3, m3⟩
      have o3 := Lib.hid (o2.mv m3)
      have Hall := Lib.hid hall
      clear p0 o1 o2 m3 hall
      go_wp2_with fail
      have hbl : (bstr (ss.flatMap nameB)).size = 16 * n := by rw [bstr_size, flat_nameB_len Hall.out, Hlen.out]
      obtain ⟨x, hx⟩ : ∃ x, bstr (ss.flatMap nameB) = x := ⟨_, rfl⟩
      rw [hx] at hbl
      have hbl2 : (x.size : Int) = 16 * (n : Int) := by omega
      have hbl3 : ((x.size : Int) != 16 * (n : Int)) = false := by rw [hbl2]; simp
      have hn0 : (0 : Int) ≤ 16 * (n : Int) := by omega
      have hn1 : 16 * (n : Int) ≤ 320 := by omega
      refine (done_at _ _ _ x _ p3 hx).mono ?_
      rintro r w4 ⟨rfl, rfl⟩
      have Hx := Lib.hid hx
      clear hx hbl hbl2
      go_wp2
      go_loop [6] (fun i => ∃ k : Nat, k ≤ n ∧ i = .int .i64 k) (fun i => n - (intOf i).toNat)
      case atStart => exact ⟨0, Nat.zero_le _, rfl⟩
      case round =>
        obtain ⟨k, hk, rfl⟩ := hrel
        by_cases hlt : k < n
        · have hr' := Hr.out.below o3.out.bel
          obtain ⟨ad, y, rfl, hu, hc⟩ := hr'.at_map hlt
          have hy15 : (y.size : Int) ≤ 15 := by have := Hall.out y (mem_of_get hu); omega
          clear hr' hu
          go_wp2
          go_round
          case rel => exact ⟨k + 1, by omega, by go_num⟩
          case measure => simp [intOf]; omega
        · go_wp2_with fail
          rw [← Hx.out]
          have Hflat := Lib.hid (show (ss.flatMap nameB).length ≤ 1099511627776 by rw [flat_nameB_len Hall.out, Hlen.out]; omega)
          refine (from_any (ss.flatMap nameB) _ Hflat.out).mono ?_
          rintro r w6 ⟨g, rfl, u6, b6, hg⟩
          have o6 := Lib.hid ((o3.out.below b6).also (F := F3) (G := fun k => k = g) (fun k hk => by have := o3.out.bel.size; omega))
          rw [Hx.out]
          clear p3 o3 b6 hg
          go_wp2
          go_loopw [8] (fun i wr => ∃ k : Nat, k ≤ n ∧ i = .int .i64 k ∧ Up wr g 0 ((ss.drop k).flatMap nameB) ∧ Own w wr (fun k => k = g)) (fun i _ => n - (intOf i).toNat)
          case atStart => exact ⟨0, Nat.zero_le _, rfl, by simpa using u6, o6.out⟩
          case round =>
            obtain ⟨k, hk, rfl, hu, ho⟩ := hrel
            have Ho := Lib.hid ho
            by_cases hlt : k < n
            · have hr' := Hr.out.below ho.bel
              obtain ⟨ad, y, rfl, hy, hc⟩ := hr'.at_map hlt
              have hne : (ad.add k).block ≠ g := by
                rw [block_of_add]
                have h1 := Hr.out.adlt (by decide) ad.block ⟨by omega, ad, rfl, rfl⟩
                have h2 := ho.new g rfl
                omega
              have hname : ∀ W, Up W g 0 ((ss.drop k).flatMap nameB) → W.cell? (ad.add k) = some (.string y) → Calls Tryd.prog 27 #[.pointer (some ⟨g, 0, none⟩)] W fun r w' => r = .returned (.string y) ∧ Up w' g 0 ((ss.drop (k + 1)).flatMap nameB) ∧ Fr (fun k => k = g) W w' ∧ w'.cell? (ad.add k) = some (.string y) := by
                intro W hW hcW
                have hl : ((ss.drop k).flatMap nameB).length ≤ 1099511627776 := by
                  have h1 := flat_nameB_len (ss := ss.drop k) (fun s hs => Hall.out s (List.mem_of_mem_drop hs))
                  have h2 := Hlen.out
                  rw [h1, List.length_drop]; omega
                have h1 := name_keep g _ (ad.add k) _ W hW hl hne hcW
                rw [drop_cons hy, List.flatMap_cons, nameB_back (Hall.out y (mem_of_get hy)), ← bstr_of y] at h1
                exact h1
              have Hname := Lib.hid hname
              clear hr' hy hname ho
              have hyy : (y.toList == y.toList) = true := by simp
              have hkn : (k : Int) < (n : Int) := by omega
              go_wp2
              go_region_held3 (fun w' => w'.cell? (ad.add k) = some (.string y)) (first | exact hc | assumption) (first | (go_at_call 27; refine (Hname.out wr.drew hu hc).mono ?_; rintro r w7 ⟨rfl, hu7, hf7, hc7⟩))
              have Hf7 := Lib.hid hf7
              have Hc7 := Lib.hid hc7
              clear hf7 hc7 hc
              go_wp2
              go_roundw
              case rel => exact ⟨k + 1, by omega, by go_num, hu7, (Ho.out.fr ((Fr.refl _ _).drew)).fr Hf7.out⟩
              case measure => simp [intOf]; omega
            · have hlk : ss.drop k = [] := List.drop_eq_nil_of_le (by have := Hlen.out; omega)
              rw [hlk] at hu
              clear hlk ho
              go_wp2_with fail
              refine (alive_any wr (Ht.out.below Ho.out.bel)).mono ?_
              rintro r w8 ⟨rfl, b8⟩
              have u8 := hu.fr0 (Fr.of_below b8)
              have o8 := Lib.hid (Ho.out.below b8)
              clear hu Ho b8
              go_wp2_with fail
              refine (bad_any g 0 _ _ u8).mono ?_
              rintro r w13 ⟨rfl, rfl⟩
              go_wp2
              go_ret
              exact ⟨rfl, o8.out.bel⟩
    · have hex : ∃ s ∈ ss, 15 < s.size := by
        false_or_by_contra
        rename_i h
        exact hall (fun s hs => by
          false_or_by_contra
          rename_i h2
          exact h ⟨s, hs, by omega⟩)
      have h2 := pNames_long (e := []) hex
      generalize pNames 0 [] ss = q at *
      obtain ⟨q1, q2⟩ := q
      simp only at h2
      subst h2
      rintro r w3 ⟨rfl, F3, p3, m3⟩
      have o3 := Lib.hid (o2.mv m3)
      have Hall := Lib.hid hall
      clear p0 o1 o2 m3 hall hex
      go_wp2_with fail
      refine (done_err _ _ _ _ _ p3 (by decide)).mono ?_
      rintro r w4 ⟨rfl, k4, h4⟩
      have o4 := Lib.hid (o3.out.skip (Fr.none_drewN w3 k4))
      rw [← h4] at o4
      clear p3 o3 h4
      go_wp2
      go_loop [6] (fun i => ∃ k : Nat, k ≤ n ∧ i = .int .i64 k ∧ Hid (∀ s ∈ ss.take k, s.size ≤ 15)) (fun i => n - (intOf i).toNat)
      case atStart => exact ⟨0, Nat.zero_le _, rfl, fun s hs => by simp at hs⟩
      case round =>
        obtain ⟨k, hk, rfl, hupto⟩ := hrel
        by_cases hlt : k < n
        · have hr' := Hr.out.below o4.out.bel
          obtain ⟨ad, y, rfl, hu, hc⟩ := hr'.at_map hlt
          have Hu := Lib.hid hu
          have hy6 : (y.size : Int) ≤ 600 := Hs6.out y (mem_of_get hu)
          clear hr' hu
          by_cases h15 : (15 : Int) < (y.size : Int)
          · go_wp2_with fail
            refine (alive_any w4 (Ht.out.below o4.out.bel)).mono ?_
            rintro r w5 ⟨rfl, b5⟩
            have o5 := Lib.hid (o4.out.below b5)
            clear b5 o4 hc
            go_wp2
            go_ret
            exact ⟨rfl, o5.out.bel⟩
          · have h15' : (y.size : Int) ≤ 15 := by omega
            go_wp2
            go_round
            case rel =>
              refine ⟨k + 1, by omega, by go_num, ?_⟩
              show ∀ s ∈ _, _
              intro s hs
              rw [take_snoc Hu.out] at hs
              rcases List.mem_append.1 hs with h | h
              · exact hupto.out s h
              · rw [List.mem_singleton.1 h]; omega
            case measure => simp [intOf]; omega
        · exfalso
          apply Hall.out
          have := hupto.out
          rwa [List.take_of_length_le (by have := Hlen.out; omega)] at this
end Go.Proofs.YtomofnmlhjpifaaDoor
