/- Walk of rec.Get. -/
import Derived.Test.YtkickdmiilmkoaaGreatDoorRecD
namespace Go.Proofs.YtkickdmiilmkoaaGreatDoor
open Go.RowKit

def chunk (size : Nat) (l : List UInt8) (k : Nat) : List UInt8 := (l.drop (size * k)).take size
/-- The records that bytes tell, the first n. -/
def recsRd (l : List UInt8) (n : Nat) : List RecV := (List.range n).map fun k => (recRd (chunk 64 l k)).1
def recsOk (l : List UInt8) (n : Nat) : Bool := (List.range n).all fun k => getOk (chunk 64 l k)
theorem recsRd_snoc (l : List UInt8) (k : Nat) : recsRd l (k + 1) = recsRd l k ++ [(recRd (chunk 64 l k)).1] := by simp [recsRd, List.range_succ]
theorem recsOk_snoc (l : List UInt8) (k : Nat) : recsOk l (k + 1) = (recsOk l k && getOk (chunk 64 l k)) := by simp [recsOk, List.range_succ]
theorem recsOk_false {l : List UInt8} {k n : Nat} (hk : k < n) (h : getOk (chunk 64 l k) = false) : recsOk l n = false := by
  unfold recsOk
  rw [List.all_eq_false]
  exact ⟨k, List.mem_range.2 hk, by simp [h]⟩
theorem info_rec : (Tryz.prog.info? 63).map (fun i => (i.zero, i.size, i.bytes)) = some (some (.agg #[.string ByteArray.empty, .int .i64 0, .int .i64 0, .int .i64 0, .int .u64 0, .int .i64 0, .int .i64 0]), 7, 64) := by kernel_rfl
theorem adF_rowv {A : Option Addr} {n c : Nat} : ∀ k, adF A n k → rowF (.slice A n c) k := by
  rintro k ⟨_, ad, rfl, rfl⟩
  rfl

set_option maxRecDepth 100000 in
set_option maxHeartbeats 4000000 in
theorem recget_any (l : List UInt8) (n : Nat) (hl : l.length = 64 * n) (hn : l.length ≤ 1099511627776) (w : World) :
    Calls Tryz.prog 24 #[.string (bstr l)] w fun r w' => (recsOk l n = true → ∃ A c, r = .returned (.tuple #[.slice A n c, .int .i64 0]) ∧ n ≤ c ∧ Rd w' 7 A n (rcells (recsRd l n)) ∧ ∀ k, adF A n k → w.heap.size ≤ k) ∧ (recsOk l n = false → r = .returned (.tuple #[.slice none 0 0, .int .i64 6])) ∧ Below w.heap.size w w' := by
  have hz := bstr_size l
  have HG : Hid (∀ k w', k < n → Calls Tryz.prog 88 #[.string ((bstr l).extract (64 * k) (64 * k + 64))] w' fun r w'' => r = .returned (bif getOk (chunk 64 l k) then .tuple #[(recRd (chunk 64 l k)).1.val, .int .i64 0] else .tuple #[rec0.val, .int .i64 6]) ∧ Below w'.heap.size w' w'') := fun k w' hk => by
    have hc : (bstr l).extract (64 * k) (64 * k + 64) = bstr (chunk 64 l k) := by
      rw [bstr_extract, List.drop_take, show 64 * k + 64 - 64 * k = 64 by omega]; rfl
    rw [hc]
    exact get_any (chunk 64 l k) (by unfold chunk; rw [List.length_take]; omega) w'
  obtain ⟨S, hS⟩ : ∃ S, bstr l = S := ⟨_, rfl⟩
  rw [hS] at hz HG ⊢
  have hsz : (S.size : Int) = 64 * (n : Int) := by omega
  have hmod : (S.size : Int) % 64 = 0 := by omega
  have hmod2 : (S.size : Int).tmod 64 = 0 := by rw [Int.tmod_eq_emod_of_nonneg (by omega)]; exact hmod
  have hn2 : n ≤ 17179869184 := by omega
  have hsz2 : S.size = 64 * n := by omega
  have Hsz := Lib.hid hsz2
  have hSb : S.size ≤ 1099511627776 := by omega
  obtain ⟨i0, hi, hz0, hz1, hz2⟩ := info_parts info_rec
  clear hS hz hl hn hsz hsz2
  go_enter Tryz.func24, Tryz.ntmps24
  go_wp2_with fail
  clear hmod hmod2
  go_loopw [4, 5] (fun o i wr => ∃ (k j : Nat) (R : Option Addr) (cs : Nat), k ≤ n ∧ i = .int .i64 j ∧ Hid (j = 64 * k) ∧ o = .slice R k cs ∧ wr.ownsRow 0 63 7 (.slice R k cs) k (rcells (recsRd l k)) ∧ Hid (recsOk l k = true) ∧ Own w wr (rowF (.slice R k cs))) (fun _ i _ => S.size - (intOf i).toNat)
  case atStart => exact ⟨0, 0, none, 0, Nat.zero_le _, rfl, rfl, rfl, World.ownsRow_nil _ _ _ _, rfl, (Own.start w).also (fun k hk => by cases hk)⟩
  case round =>
    obtain ⟨k, j, R, cs, hk, rfl, hj, rfl, hrow, hall, ho⟩ := hrel
    have Hrow := Lib.hid hrow
    have Ho := Lib.hid ho
    clear hrow ho
    by_cases hlt : k < n
    · have hjn : j < S.size := by have := hj.out; have := Hsz.out; omega
      have hjn2 : j + 64 ≤ S.size := by have := hj.out; have := Hsz.out; omega
      have hji : (j : Int) + 64 ≤ (S.size : Int) := by omega
      have HGk := Lib.hid (HG.out k wr hlt)
      rw [← hj.out] at HGk
      have hto : ((j : Int) + 64).toNat = j + 64 := by omega
      go_wp2_with fail
      refine (HGk.out).mono ?_
      rintro r w5 ⟨rfl, b5⟩
      have O5 := Lib.hid (Ho.out.below b5)
      have R5 := Lib.hid (own_fr0 Hrow.out (Fr.b0 b5))
      clear b5 Hrow Ho HGk
      cases hok : getOk (chunk 64 l k)
      · have HF := Lib.hid (recsOk_false hlt hok)
        clear hok
        unfold rec0 RecV.val agg0
        go_wp2_with fail
        go_ret2
        exact ⟨(fun h => by rw [HF.out] at h; cases h), fun _ => rfl, (O5.out.skip (Fr.none_alloc _ _)).bel⟩
      · have HT : Hid (recsOk l (k + 1) = true) := by show _ = _; rw [recsOk_snoc, hall.out, hok]; rfl
        have Hs := Lib.hid (recsRd_snoc l k)
        obtain ⟨rr, hrr⟩ : ∃ rr, (recRd (chunk 64 l k)).1 = rr := ⟨_, rfl⟩
        rw [hrr] at Hs ⊢
        have HRs : Hid (rcells (recsRd l (k + 1)) = rcells (recsRd l k) ++ rr.cells) := by
          show _ = _
          rw [Hs.out]; unfold rcells; rw [List.flatMap_append]; simp
        obtain ⟨nm, st, ⟨c, h, lo, m, x⟩⟩ := rr
        clear hok hrr Hs
        unfold RecV.val
        go_wp2_with (at_builtin; refine wpList_app rfl _ _ 49 rfl 63 i0 _ 7 64 Tryz.underlying49 hi hz0 hz1 hz2 rfl (by decide) (.slice R k cs) k _ rfl (own_fr0 (own_fr0 R5.out (Fr.none_alloc _ _)) (Fr.none_alloc _ _)) (some ⟨w5.heap.size + 1, 0, none⟩) 1 1 [.string nm, .int .i64 st, .int .i64 c, .int .i64 h, .int .u64 lo, .int .i64 m, .int .i64 x] rfl (Rd.newS (by simp) _ _ 1 7 rfl) (by simp [Value.oneCell']) ?q1 ?q2 ?_)
        case q1 => unfold maxLen; omega
        case q2 => omega
        intro R6 c6 w6 ho6 hm6
        have Ho6 := Lib.hid ho6
        have Hm6 := Lib.hid hm6
        clear ho6 hm6
        go_wp2
        go_roundw
        case rel =>
          refine ⟨k + 1, j + 64, R6, c6, by omega, by go_num, by have := hj.out; show _ = _; omega, by go_num, ?_, HT.out, ((O5.out.skip (Fr.none_alloc _ _)).skip (Fr.none_alloc _ _)).mv Hm6.out⟩
          rw [HRs.out]
          exact Ho6.out
        case measure => simp [intOf]; omega
    · obtain rfl : k = n := by omega
      have hje : ¬ (j : Int) < (S.size : Int) := by have := hj.out; have := Hsz.out; omega
      go_wp2_with fail
      go_ret2
      obtain ⟨S2, cs2, e, hcs, _, hrs⟩ := own_slice Hrow.out
      injection e with ea _ ec
      subst ea ec
      exact ⟨fun _ => ⟨R, cs, rfl, hcs, hrs, fun j hj => Ho.out.new j (adF_rowv j hj)⟩, fun h => (by rw [hall.out] at h; cases h), Ho.out.bel⟩
theorem info_samp : (Tryz.prog.info? 82).map (fun i => (i.zero, i.size, i.bytes)) = some (some (.agg #[.string ByteArray.empty, .int .i64 0, .int .i64 0]), 3, 32) := by kernel_rfl
theorem rcells_one (l : List RecV) : ∀ u ∈ rcells l, u.oneCell' = true := by
  intro u hu
  obtain ⟨r, _, hu⟩ := List.mem_flatMap.1 hu
  simp only [RecV.cells, List.mem_cons, List.not_mem_nil, or_false] at hu
  rcases hu with rfl | rfl | rfl | rfl | rfl | rfl | rfl <;> rfl
theorem scells_one (l : List SampV) : ∀ u ∈ scells l, u.oneCell' = true := by
  intro u hu
  obtain ⟨r, _, hu⟩ := List.mem_flatMap.1 hu
  simp only [SampV.cells, List.mem_cons, List.not_mem_nil, or_false] at hu
  rcases hu with rfl | rfl | rfl <;> rfl
theorem rcells_append (a b : List RecV) : rcells (a ++ b) = rcells a ++ rcells b := by simp [rcells]
theorem scells_append (a b : List SampV) : scells (a ++ b) = scells a ++ scells b := by simp [scells]
end Go.Proofs.YtkickdmiilmkoaaGreatDoor
