/- Plain laws on numerals: what Itoa writes, Number reads. -/
import Derived.Test.YtomofnmlhjpifaaDoorPkG
namespace Go.Proofs.YtomofnmlhjpifaaDoor
open Go.RowKit
open Go.Lib (decDigits itoa)

theorem dec_small {u : Nat} (h : u < 10) : decDigits u = [UInt8.ofNat (48 + u)] := by rw [decDigits, dif_pos h]
theorem dec_big {u : Nat} (h : ¬ u < 10) : decDigits u = decDigits (u / 10) ++ [UInt8.ofNat (48 + u % 10)] := by rw [decDigits, dif_neg h]
theorem dig_ofNat {k : Nat} (h : k < 10) : (UInt8.ofNat (48 + k)).toNat = 48 + k := by
  simp; omega
theorem dec_dig (u : Nat) : (decDigits u).all isDig = true := by
  induction u using Nat.strongRecOn with
  | _ u ih =>
    by_cases h : u < 10
    · rw [dec_small h]
      simp only [List.all_cons, List.all_nil, Bool.and_true, isDig, dig_ofNat h]
      exact decide_eq_true (by omega)
    · rw [dec_big h, List.all_append, ih (u / 10) (by omega)]
      simp only [List.all_cons, List.all_nil, Bool.and_true, isDig, Bool.true_and]
      rw [dig_ofNat (Nat.mod_lt _ (by decide))]
      exact decide_eq_true (by have := Nat.mod_lt u (show 0 < 10 by decide); omega)
theorem dec_val (u : Nat) : digVal (decDigits u) = u := by
  induction u using Nat.strongRecOn with
  | _ u ih =>
    by_cases h : u < 10
    · rw [dec_small h]
      simp only [digVal, List.foldl_cons, List.foldl_nil, dig_ofNat h]
      omega
    · rw [dec_big h, digVal_snoc, ih (u / 10) (by omega), dig_ofNat (Nat.mod_lt _ (by decide))]
      omega
theorem dec_ne (u : Nat) : decDigits u ≠ [] := by
  by_cases h : u < 10
  · rw [dec_small h]; simp
  · rw [dec_big h]; simp
theorem dec_len_le (k u : Nat) (hk : 1 ≤ k) (h : u < 10 ^ k) : (decDigits u).length ≤ k := by
  induction k generalizing u with
  | zero => omega
  | succ k ih =>
    by_cases hu : u < 10
    · rw [dec_small hu]; simp
    · rw [dec_big hu, List.length_append, List.length_singleton]
      have hk1 : 1 ≤ k := by
        rcases Nat.eq_zero_or_pos k with h0 | h0
        · subst h0; simp at h; omega
        · exact h0
      have := ih (u / 10) hk1 (by rw [Nat.pow_succ] at h; omega)
      omega
theorem dec_len_ge (k u : Nat) (h : 10 ^ k ≤ u) : k + 1 ≤ (decDigits u).length := by
  induction k generalizing u with
  | zero =>
    have := List.length_pos_iff.2 (dec_ne u)
    omega
  | succ k ih =>
    have hp : 1 ≤ 10 ^ k := Nat.one_le_pow _ _ (by decide)
    rw [Nat.pow_succ] at h
    have hu : ¬ u < 10 := by omega
    rw [dec_big hu, List.length_append, List.length_singleton]
    have := ih (u / 10) (by omega)
    omega
theorem dec_head (u : Nat) : ((decDigits u).headD 0).toNat = 48 → u = 0 := by
  induction u using Nat.strongRecOn with
  | _ u ih =>
    by_cases h : u < 10
    · rw [dec_small h, List.headD_cons, dig_ofNat h]; omega
    · rw [dec_big h]
      intro h2
      obtain ⟨c, t, hc⟩ := List.exists_cons_of_ne_nil (dec_ne (u / 10))
      have := ih (u / 10) (by omega)
      rw [hc] at this h2
      simp only [List.cons_append, List.headD_cons] at this h2
      have := this h2
      omega
theorem dec_head_dig (u : Nat) : 48 ≤ ((decDigits u).headD 0).toNat := by
  obtain ⟨c, t, hc⟩ := List.exists_cons_of_ne_nil (dec_ne u)
  have := dec_dig u
  rw [hc] at this ⊢
  simp only [List.all_cons, Bool.and_eq_true, List.headD_cons] at this ⊢
  exact (of_decide_eq_true this.1).1
theorem numBad_dec (u : Nat) (neg : Bool) (h : neg = true → u ≠ 0) : numBad (decDigits u) neg = decide (18 < (decDigits u).length) := by
  unfold numBad
  rw [decide_eq_decide]
  have h1 := List.length_pos_iff.2 (dec_ne u)
  constructor
  · rintro (h2 | h2 | ⟨h2, h3⟩)
    · omega
    · exact h2
    · have h0 := dec_head u h2
      subst h0
      rcases h3 with h3 | h3
      · rw [dec_small (by decide)] at h3; simp at h3
      · exact absurd rfl (h h3)
  · intro h2; exact .inr (.inl h2)

theorem prefix_neg (l : List UInt8) : Lib.hasPrefix (45 :: l) [45] = true ∧ Lib.trimPrefix (45 :: l) [45] = l := by
  refine ⟨by simp [Lib.hasPrefix], by simp [Lib.trimPrefix, Lib.hasPrefix]⟩
theorem prefix_pos (l : List UInt8) (h : (l.headD 0).toNat ≠ 45) : Lib.hasPrefix l [45] = false ∧ Lib.trimPrefix l [45] = l := by
  have : Lib.hasPrefix l [45] = false := by
    cases l with
    | nil => rfl
    | cons c t =>
      simp only [List.headD_cons] at h
      have hc : c ≠ 45 := by rintro rfl; exact h rfl
      simp [Lib.hasPrefix, List.isPrefixOf, Ne.symm hc]
  exact ⟨this, by simp [Lib.trimPrefix, this]⟩
theorem itoa_pos (u : Nat) : itoa (u : Int) = decDigits u := by unfold itoa; rw [if_neg (by omega)]; simp
theorem itoa_neg (u : Nat) (h : 1 ≤ u) : itoa (-(u : Int)) = 45 :: decDigits u := by unfold itoa; rw [if_pos (by omega)]; simp

/-- What Itoa writes, Number reads, up to 18 digits. -/
theorem numV_itoa (v : Int) : numV (itoa v) = if -1000000000000000000 < v ∧ v < 1000000000000000000 then (v, 0) else (0, 1) := by
  have e18 : (10 : Nat) ^ 18 = 1000000000000000000 := by decide
  rcases Int.lt_or_le v 0 with hv | hv
  · obtain ⟨u, rfl⟩ : ∃ u : Nat, v = -(u : Int) := ⟨v.natAbs, by omega⟩
    have hu : 1 ≤ u := by omega
    rw [itoa_neg u hu]
    unfold numV numD
    rw [(prefix_neg _).1, (prefix_neg _).2, numBad_dec u true (by omega), dec_dig, dec_val]
    by_cases hb : u < 1000000000000000000
    · have := dec_len_le 18 u (by decide) (by omega)
      rw [if_neg (by simp; omega), if_pos rfl, if_pos rfl, if_pos (by omega)]
    · have := dec_len_ge 18 u (by omega)
      rw [if_pos (decide_eq_true (by omega)), if_neg (by omega)]
  · obtain ⟨u, rfl⟩ := Int.eq_ofNat_of_zero_le hv
    rw [itoa_pos]
    unfold numV numD
    have hp := prefix_pos (decDigits u) (by have := dec_head_dig u; omega)
    rw [hp.1, hp.2, numBad_dec u false (by simp), dec_dig, dec_val]
    by_cases hb : u < 1000000000000000000
    · have := dec_len_le 18 u (by decide) (by omega)
      rw [if_neg (by simp; omega), if_pos rfl, if_neg (by decide), if_pos (by omega)]
    · have := dec_len_ge 18 u (by omega)
      rw [if_pos (decide_eq_true (by omega)), if_neg (by omega)]
theorem itoa_ne (v : Int) : itoa v ≠ [] := by
  unfold itoa; split
  · simp
  · exact dec_ne _
theorem numV_zero (v : Int) : numV (48 :: itoa v) = (0, 1) := by
  unfold numV numD
  have hp := prefix_pos (48 :: itoa v) (show (48 : UInt8).toNat ≠ 45 by decide)
  have h1 := List.length_pos_iff.2 (itoa_ne v)
  rw [hp.1, hp.2, if_pos]
  exact decide_eq_true (.inr (.inr ⟨by simp, .inl (by simp only [List.length_cons]; omega)⟩))
theorem numV_plus (v : Int) : numV (43 :: itoa v) = (0, 1) := by
  unfold numV numD
  have hp := prefix_pos (43 :: itoa v) (show (43 : UInt8).toNat ≠ 45 by decide)
  rw [hp.1, hp.2]
  split
  · rfl
  · simp [isDig]
theorem itoa_len_big (v : Int) (h : ¬ (-1000000000000000000 < v ∧ v < 1000000000000000000)) : 19 ≤ (itoa v).length := by
  have e18 : (10 : Nat) ^ 18 = 1000000000000000000 := by decide
  rcases Int.lt_or_le v 0 with hv | hv
  · obtain ⟨u, rfl⟩ : ∃ u : Nat, v = -(u : Int) := ⟨v.natAbs, by omega⟩
    rw [itoa_neg u (by omega)]
    have := dec_len_ge 18 u (by omega)
    simp only [List.length_cons]; omega
  · obtain ⟨u, rfl⟩ := Int.eq_ofNat_of_zero_le hv
    rw [itoa_pos]
    exact dec_len_ge 18 u (by omega)
theorem itoa_len (v : Int) (h0 : -9223372036854775808 ≤ v) (h1 : v ≤ 9223372036854775807) : (itoa v).length ≤ 20 := by
  have e19 : (10 : Nat) ^ 19 = 10000000000000000000 := by decide
  rcases Int.lt_or_le v 0 with hv | hv
  · obtain ⟨u, rfl⟩ : ∃ u : Nat, v = -(u : Int) := ⟨v.natAbs, by omega⟩
    rw [itoa_neg u (by omega)]
    have := dec_len_le 19 u (by decide) (by omega)
    simp only [List.length_cons]; omega
  · obtain ⟨u, rfl⟩ := Int.eq_ofNat_of_zero_le hv
    rw [itoa_pos]
    have := dec_len_le 19 u (by decide) (by omega)
    omega
end Go.Proofs.YtomofnmlhjpifaaDoor
