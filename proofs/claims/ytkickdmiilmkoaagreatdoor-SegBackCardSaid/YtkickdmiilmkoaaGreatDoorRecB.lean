/- Walks of rec.Put. -/
import Derived.Test.YtkickdmiilmkoaaGreatDoorRec
namespace Go.Proofs.YtkickdmiilmkoaaGreatDoor
open Go.RowKit

def rcells (l : List RecV) : List Value := l.flatMap RecV.cells
theorem rec_len (r : RecV) : r.cells.length = 7 := rfl
theorem Rd.rec_ {w : World} {n k : Nat} {A : Option Addr} {l : List RecV} (h : Rd w 7 A n (rcells l)) (hk : k < n) :
    ∃ ad r, A = some ad ∧ l[k]? = some r ∧ w.cell? (ad.add (k * 7)) = some (.string r.name) ∧ w.cell? ⟨(ad.add (k * 7)).block, (ad.add (k * 7)).off + 1, none⟩ = some (.int .i64 r.start) ∧ w.cell? ⟨(ad.add (k * 7)).block, (ad.add (k * 7)).off + 2, none⟩ = some (.int .i64 r.agg.count) ∧ w.cell? ⟨(ad.add (k * 7)).block, (ad.add (k * 7)).off + 3, none⟩ = some (.int .i64 r.agg.hi) ∧ w.cell? ⟨(ad.add (k * 7)).block, (ad.add (k * 7)).off + 4, none⟩ = some (.int .u64 r.agg.lo) ∧ w.cell? ⟨(ad.add (k * 7)).block, (ad.add (k * 7)).off + 5, none⟩ = some (.int .i64 r.agg.min) ∧ w.cell? ⟨(ad.add (k * 7)).block, (ad.add (k * 7)).off + 6, none⟩ = some (.int .i64 r.agg.max) := by
  obtain ⟨ad, r, e, hr, hc⟩ := Rd.elem rec_len h hk (by decide)
  refine ⟨ad, r, e, hr, ?_, ?_, ?_, ?_, ?_, ?_, ?_⟩
  · have := hc 0 _ rfl; rwa [addr_zero] at this
  · have := hc 1 _ rfl; rwa [add_pos _ _ (by decide)] at this
  · have := hc 2 _ rfl; rwa [add_pos _ _ (by decide)] at this
  · have := hc 3 _ rfl; rwa [add_pos _ _ (by decide)] at this
  · have := hc 4 _ rfl; rwa [add_pos _ _ (by decide)] at this
  · have := hc 5 _ rfl; rwa [add_pos _ _ (by decide)] at this
  · have := hc 6 _ rfl; rwa [add_pos _ _ (by decide)] at this
theorem Rd.recs_len {w : World} {n : Nat} {A : Option Addr} {l : List RecV} (h : Rd w 7 A n (rcells l)) : l.length = n := Rd.elems_len rec_len (by decide) h
theorem validB_of {r : RecV} (h : recOk r = true) : r.name.size ≤ 15 := by
  unfold recOk at h
  simp only [Bool.and_eq_true] at h
  exact validB_le h.1.1
theorem recsB_len {l : List RecV} (h : l.all recOk = true) : (l.flatMap recB).length = 64 * l.length := by
  induction l with
  | nil => rfl
  | cons r l ih =>
    rw [List.all_cons, Bool.and_eq_true] at h
    rw [List.flatMap_cons, List.length_append, ih h.2, recB_len r (validB_of h.1), List.length_cons]
    omega
theorem all_snoc {α : Type} {p : α → Bool} {l : List α} {k : Nat} {x : α} (h : l[k]? = some x) : (l.take (k + 1)).all p = ((l.take k).all p && p x) := by
  rw [take_snoc h, List.all_append]; simp
theorem all_false {α : Type} {p : α → Bool} {l : List α} {k : Nat} {x : α} (h : l[k]? = some x) (hp : p x = false) : l.all p = false := by
  rw [List.all_eq_false]
  exact ⟨x, mem_of_get h, by simp [hp]⟩
theorem flat_snoc {α β : Type} {f : α → List β} {l : List α} {k : Nat} {x : α} (h : l[k]? = some x) : (l.take (k + 1)).flatMap f = (l.take k).flatMap f ++ f x := by
  rw [take_snoc h, List.flatMap_append]; simp

set_option maxRecDepth 100000 in
set_option maxHeartbeats 4000000 in
theorem recput_any (l : List RecV) (hl : ∀ r ∈ l, r.wf) (A : Option Addr) (n c : Nat) (w : World) (hr : Rd w 7 A n (rcells l)) (hn : n ≤ 1099511627776) :
    Calls Tryz.prog 22 #[.slice A n c] w fun e w' => e = .returned (bif l.all recOk then .tuple #[.string (bstr (l.flatMap recB)), .int .i64 0] else .tuple #[.string { data := #[] }, .int .i64 1]) ∧ Below w.heap.size w w' := by
  have HP : Hid (∀ r ∈ l, ∀ w', Calls Tryz.prog 85 #[r.val] w' fun e w'' => e = .returned (bif recOk r then .tuple #[.string (bstr (recB r)), .int .i64 0] else .tuple #[.string { data := #[] }, .int .i64 1]) ∧ Below w'.heap.size w' w'') := fun r h w' => put_any r (hl r h) w'
  have Hr := Lib.hid hr
  have Hl := Lib.hid hr.recs_len
  clear hr hl
  go_enter Tryz.func22, Tryz.ntmps22
  go_wp2_with fail
  go_loopw [4, 11] (fun o i wr => ∃ k : Nat, k ≤ n ∧ i = .int .i64 k ∧ o = .string (bstr ((l.take k).flatMap recB)) ∧ Hid ((l.take k).all recOk = true) ∧ Own w wr (fun _ => False)) (fun _ i _ => n - (intOf i).toNat)
  case atStart => exact ⟨0, Nat.zero_le _, rfl, rfl, rfl, Own.start w⟩
  case round =>
    obtain ⟨k, hk, rfl, rfl, hall, ho⟩ := hrel
    have Ho := Lib.hid ho
    by_cases hlt : k < n
    · obtain ⟨ad, r, rfl, hu, d0, d1, d2, d3, d4, d5, d6⟩ := (Hr.out.fr0 (Fr.b0 ho.bel)).rec_ hlt
      have HPr := Lib.hid (HP.out r (mem_of_get hu))
      have Hu := Lib.hid hu
      have hlen : (bstr ((l.take k).flatMap recB)).size ≤ 70368744177664 := by
        rw [bstr_size, recsB_len hall.out, List.length_take]; omega
      obtain ⟨S, hS⟩ : ∃ S, bstr ((l.take k).flatMap recB) = S := ⟨_, rfl⟩
      rw [hS] at hlen ⊢
      have HS := Lib.hid hS
      clear hu ho hS
      cases hok : recOk r
      · have HF := Lib.hid (all_false Hu.out hok)
        rw [hok] at HPr
        unfold RecV.val at HPr
        clear hok
        go_wp2_with fail
        refine (HPr.out _).mono ?_
        rintro e w1 ⟨rfl, b1⟩
        have O1 := Lib.hid ((Ho.out.skip (Fr.none_alloc _ _)).below b1)
        clear b1 d0 d1 d2 d3 d4 d5 d6
        go_wp2_with fail
        go_ret2
        exact ⟨by rw [HF.out]; rfl, O1.out.bel⟩
      · have HT : Hid ((l.take (k + 1)).all recOk = true) := by
          show _ = _
          rw [all_snoc Hu.out, hall.out, hok]; rfl
        have hrl : (bstr (recB r)).size ≤ 64 := by rw [bstr_size, recB_len r (validB_of hok)]; exact Nat.le_refl _
        obtain ⟨T, hT⟩ : ∃ T, bstr (recB r) = T := ⟨_, rfl⟩
        rw [hok, hT] at HPr
        rw [hT] at hrl
        have HC : Hid (S ++ T = bstr ((l.take (k + 1)).flatMap recB)) := by
          show _ = _
          rw [← HS.out, ← hT, bstr_append, flat_snoc Hu.out]
        unfold RecV.val at HPr
        clear hok hT
        go_wp2_with fail
        refine (HPr.out _).mono ?_
        rintro e w1 ⟨rfl, b1⟩
        have O1 := Lib.hid ((Ho.out.skip (Fr.none_alloc _ _)).below b1)
        clear b1 d0 d1 d2 d3 d4 d5 d6
        go_wp2_with fail
        go_roundw
        case rel => exact ⟨k + 1, by omega, by go_num, by rw [HC.out], HT.out, O1.out⟩
        case measure => simp [intOf]; omega
    · obtain rfl : k = n := by omega
      have HT := Lib.hid (show l.take k = l from take_all (by rw [Hl.out]; exact Nat.le_refl _))
      have HF : Hid (l.all recOk = true) := by have := hall.out; rwa [HT.out] at this
      rw [HT.out]
      clear ho
      go_wp2_with fail
      go_ret2
      exact ⟨by rw [HF.out]; rfl, Ho.out.bel⟩
end Go.Proofs.YtkickdmiilmkoaaGreatDoor
