/- Walks: the document's Digits and Number (sedimentref1). -/
import Derived.Test.YtomofnmlhjpifaaDoorNum
namespace Go.Proofs.YtomofnmlhjpifaaDoor
open Go.RowKit

theorem one_byte {P : Program} (src dst e : TypeId) (hs : P.underlying src = some (.slice e)) (he : P.underlying e = some (.int .u8)) (hd : P.underlying dst = some .string) (w : World) (t : TypeId) (x : Int) (h0 : 0 ≤ x) (h1 : x < 256) :
    (convert src dst (.slice (some ⟨w.heap.size, 0, none⟩) 1 1)).run P (w.alloc (.cells #[.int .u8 x] t)) = .ok (.string (bstr [UInt8.ofNat x.toNat])) (w.alloc (.cells #[.int .u8 x] t)) := by
  obtain ⟨n, rfl⟩ := Int.eq_ofNat_of_zero_le h0
  have h : Rd (w.alloc (.cells #[.int .u8 (n : Int)] t)) 1 (some ⟨w.heap.size, 0, none⟩) 1 (bys [UInt8.ofNat n]) := by rw [bys_one (by omega)]; exact Rd.new _ _ _ _ rfl
  exact run_bytes_string src dst e hs he hd 1 h
theorem bstr_cons (c : UInt8) (s : List UInt8) : (⟨#[c]⟩ : ByteArray) ++ bstr s = bstr (c :: s) := by
  apply ByteArray.ext
  simp [bstr]
theorem bstr_app (a b : List UInt8) : bstr a ++ bstr b = bstr (a ++ b) := by
  apply ByteArray.ext
  simp [bstr]

set_option maxRecDepth 100000 in
theorem rdigits_pos (u : Nat) (hu : u ≤ 9223372036854775807) (w : World) :
    Calls Tryd.prog 21 #[.int .i64 u] w fun r w' => r = .returned (.string (bstr (Lib.decDigits u))) ∧ Below w.heap.size w w' := by
  have hlen := itoa_len u (by omega) (by omega)
  rw [itoa_pos] at hlen
  have hneg : decide ((u : Int) < 0) = false := decide_eq_false (by omega)
  go_enter Tryd.func21, Tryd.ntmps21
  go_wp2
  go_loopw [0, 3] (fun v s wr => ∃ (n : Nat) (l : List UInt8), v = .int .i64 n ∧ s = .string (bstr l) ∧ n ≤ 9223372036854775807 ∧ Hid (Lib.decDigits u = Lib.decDigits n ++ l) ∧ Below w.heap.size w wr) (fun v _ _ => (intOf v).toNat)
  case atStart => exact ⟨u, [], rfl, rfl, hu, by show _ = _; simp, Below.refl _ _⟩
  case round =>
    obtain ⟨n, l, rfl, rfl, hn, hd, hb⟩ := hrel
    have hll : (bstr l).size ≤ 20 := by rw [bstr_size]; have := hd.out; rw [this] at hlen; simp at hlen; omega
    have hcv := one_byte (P := Tryd.prog) 26 9 5 Tryd.underlying26 Tryd.underlying5 Tryd.underlying9 wr 5 (48 + (n : Int) % 10) (by omega) (by omega)
    obtain ⟨c, hc⟩ : ∃ c, bstr [UInt8.ofNat (48 + (n : Int) % 10).toNat] = c := ⟨_, rfl⟩
    have hone : c.size = 1 := by rw [← hc, bstr_size]; rfl
    rw [hc] at hcv
    have Hc := Lib.hid (show c = bstr [UInt8.ofNat (48 + n % 10)] by rw [← hc, show (48 + (n : Int) % 10).toNat = 48 + n % 10 by omega])
    have Hb := Lib.hid hb
    clear hb hc
    by_cases hz : n < 10
    · have hz1 : ((n : Int) / 10 == 0) = true := beq_iff_eq.2 (by omega)
      go_wp2
      go_ret
      rw [Hc.out, bstr_app, hd.out, dec_small hz, Nat.mod_eq_of_lt hz]
      exact ⟨rfl, Hb.out.alloc Hb.out.size _⟩
    · have hz1 : ((n : Int) / 10 == 0) = false := beq_eq_false_iff_ne.2 (by omega)
      go_wp2
      go_roundw
      case rel =>
        refine ⟨n / 10, UInt8.ofNat (48 + n % 10) :: l, by go_num, ?_, by omega, ?_, Hb.out.alloc Hb.out.size _⟩
        · rw [Hc.out, bstr_app]; rfl
        · show _ = _
          rw [hd.out, dec_big hz, List.append_assoc]; rfl
      case measure => simp [intOf]; omega

set_option maxRecDepth 100000 in
theorem rdigits_neg (u : Nat) (hu1 : 1 ≤ u) (hu : u ≤ 9223372036854775808) (w : World) :
    Calls Tryd.prog 21 #[.int .i64 (-(u : Int))] w fun r w' => r = .returned (.string (bstr (45 :: Lib.decDigits u))) ∧ Below w.heap.size w w' := by
  have hlen := itoa_len (-(u : Int)) (by omega) (by omega)
  rw [itoa_neg u hu1] at hlen
  have hneg : decide (-(u : Int) < 0) = true := decide_eq_true (by omega)
  have hneg2 : -(u : Int) < 0 := by omega
  go_enter Tryd.func21, Tryd.ntmps21
  go_wp2
  go_loopw [0, 3] (fun v s wr => ∃ (n : Nat) (l : List UInt8), v = .int .i64 (-(n : Int)) ∧ s = .string (bstr l) ∧ n ≤ 9223372036854775808 ∧ Hid (Lib.decDigits u = Lib.decDigits n ++ l) ∧ Below w.heap.size w wr) (fun v _ _ => (intOf v).natAbs)
  case atStart => exact ⟨u, [], rfl, rfl, hu, by show _ = _; simp, Below.refl _ _⟩
  case round =>
    obtain ⟨n, l, rfl, rfl, hn, hd, hb⟩ := hrel
    have hll : (bstr l).size ≤ 20 := by rw [bstr_size]; have := hd.out; simp [this] at hlen; omega
    have ht1 : (-(n : Int)).tmod 10 = -((n : Int) % 10) := by rw [Int.neg_tmod]; rfl
    have ht2 : (-(n : Int)).tdiv 10 = -((n : Int) / 10) := by rw [Int.neg_tdiv]; rfl
    have Hb := Lib.hid hb
    clear hb
    have hcase : (0 < n % 10 ∨ n % 10 = 0) ∧ (n < 10 ∨ ¬ n < 10) := by omega
    rcases hcase with ⟨hd0 | hd0, hz | hz⟩
    · have hpos : 0 < (n : Int) % 10 := by omega
      have hcv := one_byte (P := Tryd.prog) 26 9 5 Tryd.underlying26 Tryd.underlying5 Tryd.underlying9 wr 5 (48 + (n : Int) % 10) (by omega) (by omega)
      obtain ⟨c, hc⟩ : ∃ c, bstr [UInt8.ofNat (48 + (n : Int) % 10).toNat] = c := ⟨_, rfl⟩
      have hone : c.size = 1 := by rw [← hc, bstr_size]; rfl
      rw [hc] at hcv
      have Hc := Lib.hid (show c = bstr [UInt8.ofNat (48 + n % 10)] by rw [← hc, show (48 + (n : Int) % 10).toNat = 48 + n % 10 by omega])
      clear hc
      have hz1 : (-((n : Int) / 10) == 0) = true := beq_iff_eq.2 (by omega)
      have hup : (0 : Int) < (u : Int) := by omega
      go_wp2
      go_ret
      refine ⟨?_, Hb.out.alloc Hb.out.size _⟩
      rw [Hc.out, bstr_app, bstr_cons, hd.out, dec_small hz, Nat.mod_eq_of_lt hz]
      rfl
    · have hpos : 0 < (n : Int) % 10 := by omega
      have hcv := one_byte (P := Tryd.prog) 26 9 5 Tryd.underlying26 Tryd.underlying5 Tryd.underlying9 wr 5 (48 + (n : Int) % 10) (by omega) (by omega)
      obtain ⟨c, hc⟩ : ∃ c, bstr [UInt8.ofNat (48 + (n : Int) % 10).toNat] = c := ⟨_, rfl⟩
      have hone : c.size = 1 := by rw [← hc, bstr_size]; rfl
      rw [hc] at hcv
      have Hc := Lib.hid (show c = bstr [UInt8.ofNat (48 + n % 10)] by rw [← hc, show (48 + (n : Int) % 10).toNat = 48 + n % 10 by omega])
      clear hc
      have hz1 : (-((n : Int) / 10) == 0) = false := beq_eq_false_iff_ne.2 (by omega)
      go_wp2
      go_roundw
      case rel =>
        refine ⟨n / 10, UInt8.ofNat (48 + n % 10) :: l, by go_num, ?_, by omega, ?_, Hb.out.alloc Hb.out.size _⟩
        · rw [Hc.out, bstr_app]; rfl
        · show _ = _
          rw [hd.out, dec_big hz, List.append_assoc]; rfl
      case measure => simp [intOf]; omega
    · have hn0 : n = 0 := by omega
      have hcv := one_byte (P := Tryd.prog) 26 9 5 Tryd.underlying26 Tryd.underlying5 Tryd.underlying9 wr 5 (48 + -((n : Int) % 10)) (by omega) (by omega)
      obtain ⟨c, hc⟩ : ∃ c, bstr [UInt8.ofNat (48 + -((n : Int) % 10)).toNat] = c := ⟨_, rfl⟩
      have hone : c.size = 1 := by rw [← hc, bstr_size]; rfl
      rw [hc] at hcv
      have Hc := Lib.hid (show c = bstr [UInt8.ofNat (48 + n % 10)] by rw [← hc, show (48 + -((n : Int) % 10)).toNat = 48 + n % 10 by omega])
      clear hc
      have hneg0 : (n : Int) % 10 ≤ 0 := by omega
      have hz1 : (-((n : Int) / 10) == 0) = true := beq_iff_eq.2 (by omega)
      clear hn0 hd0
      go_wp2
      go_ret
      refine ⟨?_, Hb.out.alloc Hb.out.size _⟩
      rw [Hc.out, bstr_app, bstr_cons, hd.out, dec_small hz, Nat.mod_eq_of_lt hz]
      rfl
    · have hcv := one_byte (P := Tryd.prog) 26 9 5 Tryd.underlying26 Tryd.underlying5 Tryd.underlying9 wr 5 (48 + -((n : Int) % 10)) (by omega) (by omega)
      obtain ⟨c, hc⟩ : ∃ c, bstr [UInt8.ofNat (48 + -((n : Int) % 10)).toNat] = c := ⟨_, rfl⟩
      have hone : c.size = 1 := by rw [← hc, bstr_size]; rfl
      rw [hc] at hcv
      have Hc := Lib.hid (show c = bstr [UInt8.ofNat (48 + n % 10)] by rw [← hc, show (48 + -((n : Int) % 10)).toNat = 48 + n % 10 by omega])
      clear hc
      have hneg0 : (n : Int) % 10 ≤ 0 := by omega
      have hz1 : (-((n : Int) / 10) == 0) = false := beq_eq_false_iff_ne.2 (by omega)
      clear hd0
      go_wp2
      go_roundw
      case rel =>
        refine ⟨n / 10, UInt8.ofNat (48 + n % 10) :: l, by go_num, ?_, by omega, ?_, Hb.out.alloc Hb.out.size _⟩
        · rw [Hc.out, bstr_app]; rfl
        · show _ = _
          rw [hd.out, dec_big hz, List.append_assoc]; rfl
      case measure => simp [intOf]; omega

theorem rdigits_any (v : Int) (h0 : -9223372036854775808 ≤ v) (h1 : v ≤ 9223372036854775807) (w : World) :
    Calls Tryd.prog 21 #[.int .i64 v] w fun r w' => r = .returned (.string (bstr (Lib.itoa v))) ∧ Below w.heap.size w w' := by
  rcases Int.lt_or_le v 0 with hv | hv
  · obtain ⟨u, rfl⟩ : ∃ u : Nat, v = -(u : Int) := ⟨v.natAbs, by omega⟩
    rw [itoa_neg u (by omega)]
    exact rdigits_neg u (by omega) (by omega) w
  · obtain ⟨u, rfl⟩ := Int.eq_ofNat_of_zero_le hv
    rw [itoa_pos]
    exact rdigits_pos u (by omega) w

/-- How the text begins: the rest x behind a minus, or all of it. -/
def NumStart (S x : ByteArray) (neg : Bool) : Prop :=
  (neg = true ∧ (0 : Int) < (S.size : Int) ∧ (∀ h : 0 < S.size, S[0]'h = 45) ∧ S.extract 1 S.size = x) ∨ (neg = false ∧ S = x ∧ (S.size : Int) ≤ 0) ∨
    (neg = false ∧ S = x ∧ (0 : Int) < (S.size : Int) ∧ ∃ c : UInt8, (∀ h : 0 < S.size, S[0]'h = c) ∧ ((c.toNat : Int) == 45) = false)
theorem numStart (s : List UInt8) : NumStart (bstr s) (bstr (Lib.trimPrefix s [45])) (Lib.hasPrefix s [45]) := by
  rcases s with _ | ⟨c, t⟩
  · exact .inr (.inl ⟨rfl, rfl, by rw [bstr_size]; simp⟩)
  · by_cases hc : c = 45
    · subst hc
      refine .inl ⟨(prefix_neg t).1, by rw [bstr_size, List.length_cons]; omega, fun _ => rfl, ?_⟩
      rw [(prefix_neg t).2, bstr_extract, List.take_of_length_le (by rw [bstr_size]; exact Nat.le_refl _)]; rfl
    · have hp := prefix_pos (c :: t) (fun h => hc (UInt8.toNat_inj.1 h))
      exact .inr (.inr ⟨hp.1, by rw [hp.2], by rw [bstr_size, List.length_cons]; omega, c, fun _ => rfl, beq_eq_false_iff_ne.2 (fun h => hc (UInt8.toNat_inj.1 (Int.ofNat_inj.1 h)))⟩)

set_option maxRecDepth 100000 in
set_option maxHeartbeats 800000 in
theorem rnumber_bad (S x : ByteArray) (d : List UInt8) (neg : Bool) (w : World) (hst : NumStart S x neg) (hx : x = bstr d) (h : numBad d neg = true) (hS : S.size ≤ 1099511627776) :
    Calls Tryd.prog 19 #[.string S] w fun r w' => r = .returned (.tuple #[.int .i64 0, .int .i64 1]) ∧ w = w' := by
  have h := of_decide_eq_true h
  have hsz : x.size = d.length := by rw [hx, bstr_size]
  have hcase : ((x.size : Int) < 1) ∨ (1 ≤ (x.size : Int) ∧ (18 : Int) < (x.size : Int)) ∨ (1 ≤ (x.size : Int) ∧ (x.size : Int) ≤ 18 ∧ (∃ c : UInt8, (∀ h : 0 < x.size, x[0]'h = c) ∧ ((c.toNat : Int) == 48) = true) ∧ ((1 : Int) < (x.size : Int) ∨ ((x.size : Int) ≤ 1 ∧ neg = true))) := by
    rcases d with _ | ⟨c, t⟩
    · left; simp only [List.length_nil] at hsz; omega
    · have hz : x.size = t.length + 1 := hsz
      rcases h with h | h | ⟨h1, h2⟩
      · simp at h
      · right; left; simp only [List.length_cons] at h; omega
      · by_cases h18 : 18 < x.size
        · right; left; omega
        · right; right
          refine ⟨by omega, by omega, ⟨c, ?_, ?_⟩, ?_⟩
          · subst hx; intro _; rfl
          · simp only [List.headD_cons] at h1; exact beq_iff_eq.2 (by omega)
          · by_cases hl : 1 < x.size
            · left; omega
            · right
              rcases h2 with h2 | h2
              · simp only [List.length_cons] at h2; omega
              · exact ⟨by omega, h2⟩
  clear h hsz hx
  have Hsz := Lib.hid hS
  rcases hcase with h | ⟨h1, h2⟩ | ⟨h1, h2, ⟨c, h3, h4⟩, h5 | ⟨h5, h6⟩⟩
  all_goals rcases hst with ⟨rfl, q1, q2, q3⟩ | ⟨rfl, rfl, q1⟩ | ⟨rfl, rfl, q1, c', q2, q3⟩
  all_goals first
    | (exfalso; omega)
    | (cases h6; done)
    | (go_enter Tryd.func19, Tryd.ntmps19
       go_wp2
       go_ret2
       exact ⟨rfl, rfl⟩)

set_option maxRecDepth 100000 in
set_option maxHeartbeats 1000000 in
theorem rnumber_ok (S x : ByteArray) (l : List UInt8) (neg : Bool) (w : World) (hst : NumStart S x neg) (hx : x = bstr l) (h : numBad l neg = false) :
    Calls Tryd.prog 19 #[.string S] w fun r w' => r = .returned (.tuple #[.int .i64 (numD l neg).1, .int .i64 (numD l neg).2]) ∧ w = w' := by
  have hbad := of_decide_eq_false h
  have hsz : x.size = l.length := by rw [hx, bstr_size]
  have Hbd := Lib.hid h
  have hget : ∀ (k : Nat) (y : UInt8), l[k]? = some y → ∀ h : k < x.size, x[k]'h = y := by
    subst hx
    intro k y hk h
    have : (bstr l)[k]'h = l[k]'(by rw [bstr_size] at h; exact h) := rfl
    rw [this]
    exact (List.getElem?_eq_some_iff.1 hk).2
  have Hget := Lib.hid hget
  have h1 : (1 : Int) ≤ (x.size : Int) := by omega
  have h18 : (x.size : Int) ≤ 18 := by omega
  have hcase : ∃ c : UInt8, (∀ h : 0 < x.size, x[0]'h = c) ∧ (((c.toNat : Int) == 48) = false ∨ (((c.toNat : Int) == 48) = true ∧ decide ((1 : Int) < (x.size : Int)) = false ∧ neg = false)) := by
    rcases l with _ | ⟨c, t⟩
    · simp only [List.length_nil] at hsz; omega
    · refine ⟨c, fun h => hget 0 c rfl h, ?_⟩
      by_cases h48 : c.toNat = 48
      · right
        simp only [List.headD_cons, h48, true_and, not_or] at hbad
        refine ⟨beq_iff_eq.2 (by omega), decide_eq_false (by omega), by simpa using hbad.2.2.2⟩
      · left; exact beq_eq_false_iff_ne.2 (by omega)
  obtain ⟨c, hc0, hcase⟩ := hcase
  have hd18 : decide ((18 : Int) < (x.size : Int)) = false := decide_eq_false (by omega)
  have hd1 : decide ((x.size : Int) < 1) = false := decide_eq_false (by omega)
  have HL := Lib.hid hsz
  have hpow : ∀ k, k ≤ 17 → (10 : Int) ^ k ≤ 100000000000000000 := by
    intro k hk
    have h6 : (10 : Nat) ^ k ≤ 10 ^ 17 := Nat.pow_le_pow_right (by decide) hk
    have h7 := Int.ofNat_le.2 h6
    rw [Int.natCast_pow, Int.natCast_pow] at h7
    have h8 : (10 : Int) ^ 17 = 100000000000000000 := by decide
    rw [← h8]
    exact h7
  have Hpow := Lib.hid hpow
  clear hpow hbad hsz hx h hget
  have hst2 : ((neg = true ∧ (0 : Int) < (S.size : Int) ∧ (∀ h : 0 < S.size, S[0]'h = 45) ∧ S.extract 1 S.size = x) ∧ ((c.toNat : Int) == 48) = false) ∨
      ((neg = false ∧ S = x ∧ ((c.toNat : Int) == 45) = false) ∧ ((c.toNat : Int) == 48) = false) ∨
      ((neg = false ∧ S = x ∧ ((c.toNat : Int) == 45) = false) ∧ ((c.toNat : Int) == 48) = true ∧ decide ((1 : Int) < (x.size : Int)) = false) := by
    rcases hst with ⟨rfl, q⟩ | ⟨_, rfl, q1⟩ | ⟨rfl, rfl, q1, q⟩
    · rcases hcase with h | ⟨_, _, h⟩
      · exact .inl ⟨⟨rfl, q⟩, h⟩
      · cases h
    · omega
    · obtain ⟨c', q2, q3⟩ := q
      have e : c' = c := (q2 (by omega)).symm.trans (hc0 (by omega))
      subst e
      rcases hcase with h | ⟨h1, h2, _⟩
      · exact .inr (.inl ⟨⟨rfl, rfl, q3⟩, h⟩)
      · exact .inr (.inr ⟨⟨rfl, rfl, q3⟩, h1, h2⟩)
  clear hst hcase
  have hst3 : (neg = true ∧ ((0 : Int) < (S.size : Int) ∧ (∀ h : 0 < S.size, S[0]'h = 45) ∧ S.extract 1 S.size = x) ∧ ((c.toNat : Int) == 48) = false) ∨ (neg = false ∧ x = S ∧ ((c.toNat : Int) == 45) = false ∧ ((c.toNat : Int) == 48) = false) ∨ (neg = false ∧ x = S ∧ ((c.toNat : Int) == 45) = false ∧ ((c.toNat : Int) == 48) = true ∧ decide ((1 : Int) < (x.size : Int)) = false) := by
    rcases hst2 with ⟨⟨h1, h2⟩, h3⟩ | ⟨⟨h1, h2, h3⟩, h4⟩ | ⟨⟨h1, h2, h3⟩, h4, h5⟩
    · exact .inl ⟨h1, h2, h3⟩
    · exact .inr (.inl ⟨h1, h2.symm, h3, h4⟩)
    · exact .inr (.inr ⟨h1, h2.symm, h3, h4, h5⟩)
  clear hst2
  rcases hst3 with ⟨rfl, ⟨q1, q2, q3⟩, q4⟩ | ⟨rfl, rfl, q3, q4⟩ | ⟨rfl, rfl, q3, q4, q5⟩
  all_goals
    go_enter Tryd.func19, Tryd.ntmps19
    go_wp2
    go_loop [5, 6] (fun v i => ∃ (k : Nat) (n : Int), (k : Int) ≤ 18 ∧ Hid (k ≤ l.length) ∧ i = .int .i64 k ∧ v = .int .i64 n ∧ Hid (n = digVal (l.take k)) ∧ Hid (∀ c ∈ l.take k, isDig c = true) ∧ 0 ≤ n ∧ Hid (n < 10 ^ k)) (fun _ i => 18 - (intOf i).toNat)
    case atStart => exact ⟨0, 0, by omega, Nat.zero_le _, rfl, rfl, rfl, fun _ h => by simp at h, by omega, by show (0 : Int) < 10 ^ 0; decide⟩
    case round =>
      obtain ⟨k, n, hk18, hkl0, rfl, rfl, hn, hall, hn0, hlt⟩ := hrel
      by_cases hkl : k < l.length
      · obtain ⟨y, hy⟩ : ∃ y, l[k]? = some y := ⟨_, List.getElem?_eq_getElem hkl⟩
        have hix := Hget.out k y hy
        have Hy := Lib.hid hy
        have hyb := y.toNat_lt
        have hk17 : k ≤ 17 := by have := HL.out; omega
        have hn17 : n < 100000000000000000 := by
          have := Hpow.out k hk17
          have := hlt.out
          omega
        have hki := Int.ofNat_lt.2 hkl
        rw [← HL.out] at hki
        clear hy hkl
        by_cases hd : 48 ≤ y.toNat ∧ y.toNat ≤ 57
        · obtain ⟨hd1, hd2⟩ := hd
          have hd1' : (48 : Int) ≤ (y.toNat : Int) := by omega
          have hd2' : (y.toNat : Int) ≤ 57 := by omega
          go_wp2
          go_round

          case rel =>
            refine ⟨k + 1, n * 10 + ((y.toNat : Int) - 48), by omega, ?_, by go_num, rfl, ?_, ?_, by omega, ?_⟩
            · show k + 1 ≤ l.length
              have := (List.getElem?_eq_some_iff.1 Hy.out).1
              omega
            · show _ = _
              rw [take_snoc Hy.out, digVal_snoc, hn.out, Int.mul_comm]
            · show ∀ c ∈ _, _
              rw [take_snoc Hy.out]
              intro c hc
              rcases List.mem_append.1 hc with h | h
              · exact hall.out c h
              · rw [List.mem_singleton.1 h]; exact decide_eq_true ⟨hd1, hd2⟩
            · show _ < _
              have := hlt.out
              rw [Int.pow_succ]
              omega
          case measure => simp [intOf]; omega
        · have hno : l.all isDig = false := by
            rw [List.all_eq_false]
            exact ⟨y, mem_of_get Hy.out, by simp only [isDig, hd]; decide⟩
          have Hno := Lib.hid hno
          clear hno
          have hd' : (y.toNat : Int) < 48 ∨ (48 ≤ (y.toNat : Int) ∧ 57 < (y.toNat : Int)) := by omega
          clear hd
          rcases hd' with hd | ⟨hd1, hd2⟩
          all_goals
            go_wp2
            go_ret2
            rw [numD_no Hbd.out Hno.out]
            exact ⟨rfl, rfl⟩
      · have hke : k = l.length := by have := hkl0.out; omega
        have hfull : l.take k = l := List.take_of_length_le (by omega)
        have hyes : l.all isDig = true := by
          have := hall.out
          rw [hfull] at this
          exact List.all_eq_true.2 this
        have Hyes := Lib.hid hyes
        have hb : -1000000000000000000 ≤ n ∧ n ≤ 1000000000000000000 := by
          have h1 := hlt.out
          have hle := HL.out
          have h2 := Hpow.out (k - 1) (by omega)
          have h3 : (10 : Int) ^ k = 10 ^ (k - 1) * 10 := by rw [← Int.pow_succ, Nat.succ_eq_add_one, Nat.sub_add_cancel (by omega)]
          omega
        obtain ⟨hb1, hb2⟩ := hb
        have hfin := hn.out
        rw [hfull] at hfin
        have Hfin := Lib.hid hfin
        have hki : (x.size : Int) ≤ (k : Int) := by rw [HL.out]; omega
        clear hfin hyes hfull hke hkl
        go_wp2
        go_ret2
        rw [numD_yes Hbd.out Hyes.out, ← Hfin.out]
        exact ⟨rfl, rfl⟩

theorem rnumber_any (s : List UInt8) (w : World) (hs : s.length ≤ 1099511627776) :
    Calls Tryd.prog 19 #[.string (bstr s)] w fun r w' => r = .returned (.tuple #[.int .i64 (numV s).1, .int .i64 (numV s).2]) ∧ w = w' := by
  by_cases h : numBad (Lib.trimPrefix s [45]) (Lib.hasPrefix s [45]) = true
  · have e : numV s = (0, 1) := by unfold numV numD; rw [if_pos h]
    rw [e]
    exact rnumber_bad _ _ _ _ w (numStart s) rfl h (by rw [bstr_size]; exact hs)
  · exact rnumber_ok _ _ _ _ w (numStart s) rfl (by simpa using h)
end Go.Proofs.YtomofnmlhjpifaaDoor
