/- Walks of sedimentref1.Name, Valid, sedimentref10.ValidSample, PutSamples, GetSamples; and plain: they are rec's. -/
import Derived.Test.YtlhhcancfgjfkaaGreatRef1
import Derived.Test.YtlhhcancfgjfkaaGreatRefName
namespace Go.Proofs.YtlhhcancfgjfkaaGreat
set_option linter.all false
open Go.RowKit

/-- Plain: sixteen bytes that are a name are that name's. -/
theorem allZ_rep' {l : List UInt8} (h : allZ l = true) : l = List.replicate l.length 0 := by
  unfold allZ at h
  rw [List.all_eq_true] at h
  exact List.eq_replicate_iff.2 ⟨rfl, fun b hb => by simpa using h b hb⟩
theorem nameB_of {t : List UInt8} (hl : t.length = 16) (hok : nameOk t = true) : nameB (bstr ((t.drop 1).take (t.headD 0).toNat)) = t := by
  cases t with
  | nil => simp at hl
  | cons c tl =>
    unfold nameOk at hok
    rw [Bool.and_eq_true] at hok
    have h1 : c.toNat ≤ 15 := of_decide_eq_true hok.1
    have h2 : allZ ((c :: tl).drop (1 + c.toNat)) = true := hok.2
    rw [Nat.add_comm, List.drop_succ_cons] at h2
    simp only [List.length_cons] at hl
    simp only [List.headD_cons, List.drop_succ_cons, List.drop_zero]
    have hz : (bstr (tl.take c.toNat)).size = c.toNat := by rw [bstr_size, List.length_take]; omega
    unfold nameB
    rw [hz, bstr_list]
    have hd := allZ_rep' h2
    rw [List.length_drop, show tl.length - c.toNat = 15 - c.toNat by omega] at hd
    rw [← hd, UInt8.ofNat_toNat, List.cons_append, List.take_append_drop]
theorem u64_sgn {n : Nat} (h : n < 18446744073709551616) : u64 (sgn n) = n := by
  unfold u64 sgn
  split <;> omega
theorem le8_back {t : List UInt8} (h : t.length = 8) : le8 [sgn (ofLe t)] = t := by
  rw [le8_one, u64_sgn (ofLe_lt64 (by omega))]
  have := le_ofLe t
  rwa [h] at this
/-- What sgetOk asks of 32 bytes, the document asks. -/
theorem uName_ok {X : List UInt8} (h : 16 ≤ X.length) : uName 0 X = if nameOk (X.take 16) = true then (0, X.drop 16, ((X.take 16).drop 1).take ((X.take 16).headD 0).toNat) else (6, X.drop 16, []) := by
  unfold uName
  rw [uTake_in h]
  rw [if_neg (by intro e; have := congrArg List.length e; rw [List.length_take, Nat.min_eq_left h] at this; exact absurd this (by decide))]
theorem validB_nil : validB (bstr []) = false := validB_short (by rw [bstr_size]; decide)
theorem sget_ok {X : List UInt8} (h : X.length = 32) : sgetOk X = sampOk (sampRd X) := by
  unfold sgetOk
  cases hs : sampOk (sampRd X)
  · rfl
  · rw [Bool.true_and]
    apply decide_eq_true
    unfold sampRd at hs ⊢
    rw [uName_ok (by omega)] at hs ⊢
    by_cases hn : nameOk (X.take 16) = true
    · rw [if_pos hn]
      simp only
      rw [uTake_in (by rw [List.length_drop]; omega)]
      simp only
      rw [uTake_in (by rw [List.length_drop, List.length_drop]; omega)]
      unfold sampB
      simp only
      rw [nameB_of (by rw [List.length_take]; omega) hn, le8_cons, ← le8_one, le8_back (by rw [List.length_take, List.length_drop]; omega), le8_back (by rw [List.length_take, List.length_drop, List.length_drop]; omega)]
      rw [List.drop_drop, show 16 + 8 = 24 from rfl]
      have e1 : X = X.take 16 ++ ((X.drop 16).take 8 ++ (X.drop 24).take 8) := by
        have h1 := (List.take_append_drop 16 X).symm
        have h2 := (List.take_append_drop 8 (X.drop 16)).symm
        rw [List.drop_drop] at h2
        have h3 : (X.drop 24).take 8 = X.drop 24 := List.take_of_length_le (by rw [List.length_drop]; omega)
        rw [h3]
        rw [← h2]
        exact h1
      exact e1.symm
    · rw [if_neg hn] at hs
      simp only at hs
      unfold sampOk at hs
      rw [show validB (SampV.name ⟨bstr [], _, _⟩) = false from validB_nil] at hs
      simp at hs
theorem sname_err {X : List UInt8} (h : X.length = 32) (hok : sampOk (sampRd X) = true) : (uTake (uTake (uName 0 X).1 (uName 0 X).2.1 8).1 (uTake (uName 0 X).1 (uName 0 X).2.1 8).2.1 8).1 = 0 := by
  unfold sampRd at hok
  rw [uName_ok (by omega)] at hok ⊢
  by_cases hn : nameOk (X.take 16) = true
  · rw [if_pos hn]
    simp only
    rw [uTake_in (by rw [List.length_drop]; omega)]
    simp only
    rw [uTake_in (by rw [List.length_drop, List.length_drop]; omega)]
  · rw [if_neg hn] at hok
    simp only at hok
    unfold sampOk at hok
    rw [show validB (SampV.name ⟨bstr [], _, _⟩) = false from validB_nil] at hok
    simp at hok
theorem chunk_len {size : Nat} {l : List UInt8} {n k : Nat} (hl : l.length = size * n) (hk : k < n) : (chunk size l k).length = size := by
  unfold chunk
  rw [List.length_take, List.length_drop, hl]
  have : size * (k + 1) ≤ size * n := Nat.mul_le_mul_left _ hk
  rw [Nat.mul_succ] at this
  omega
end Go.Proofs.YtlhhcancfgjfkaaGreat
