/- The statement OplogTells: the walk. -/
import Derived.Test.YtkickdmiilmkoaaGreatDoorOplogB
import Derived.Test.YtkickdmiilmkoaaGreatDoorLawRSamples
import Derived.Test.YtkickdmiilmkoaaGreatDoorFew
namespace Go.Proofs.YtkickdmiilmkoaaGreatDoor
open Go.RowKit

set_option maxRecDepth 100000 in
set_option maxHeartbeats 4000000 in
theorem lay_any (k n : Int) (l : List SampV) (hl : ∀ r ∈ l, r.wf) (hok : opOk k n l = true) (A : Option Addr) (m c : Nat) (w : World) (hr : Rd w 3 A m (scells l)) (hm : m ≤ 1000000) :
    Calls Tryz.prog 12 #[.agg #[.int .i64 k, .int .i64 n, .slice A m c]] w fun r w' => r = .returned (.string (bstr (opB k n l))) ∧ Below w.heap.size w w' := by
  obtain ⟨hk, h8, hall⟩ := opOk_parts hok
  have hlen := hr.samps_len
  have HP : Hid (∀ w', Fr (fun _ => False) w w' → Calls Tryz.prog 32 #[.slice A m c] w' fun e w'' => e = .returned (.tuple #[.string (bstr (l.flatMap sampB)), .int .i64 0]) ∧ Below w'.heap.size w' w'') := fun w' f => by
    have := rsampsput_any l hl A m c w' (hr.fr0 f) (by omega)
    rwa [hall] at this
  have hTz : (bstr (l.flatMap sampB)).size ≤ 300 := by rw [bstr_size, sampsB_len hall]; omega
  have hB : opB k n l = ([UInt8.ofNat k.toNat, UInt8.ofNat m] ++ le8 [n]) ++ l.flatMap sampB := by unfold opB; rw [hlen]
  obtain ⟨Z, hT⟩ : ∃ Z, bstr (l.flatMap sampB) = Z := ⟨_, rfl⟩
  rw [hT] at HP hTz
  have hST : Hid (bstr ([UInt8.ofNat k.toNat, UInt8.ofNat m] ++ le8 [n]) ++ Z = bstr (opB k n l)) := by show _ = _; rw [← hT, bstr_append, hB]
  have hk0 : 0 ≤ k := by rcases hk with rfl | rfl <;> decide
  have hk1 : k < 256 := by rcases hk with rfl | rfl <;> decide
  have hkw : IntKind.u64.wrap k = k := by rw [IntKind.wrap_u64]; omega
  have hmw : IntKind.u64.wrap (m : Int) = (m : Int) := by rw [IntKind.wrap_u64]; omega
  have B0 := Lib.hid (Blk.new w 24 #[.int .i64 k, .int .i64 n, .slice A m c])
  have O := Lib.hid ((Own.start w).skip (Fr.none_alloc w (.cells #[.int .i64 k, .int .i64 n, .slice A m c] 24)))
  obtain ⟨W1, hW1⟩ : ∃ W1, W1 = w.alloc (.cells #[.int .i64 k, .int .i64 n, .slice A m c] 24) := ⟨_, rfl⟩
  rw [← hW1] at B0 O
  have hGe : W1.heap.size = w.heap.size + 1 := by rw [hW1]; simp
  have P1 : Hid (Pq (W1.alloc (.cells #[.slice none 0 0, .int .i64 0] 94)) (w.heap.size + 1) (fun k => k = w.heap.size + 1 ∨ rowF (.slice none 0 0) k) []) := by
    have := Pq.new W1
    rw [hGe] at this
    exact this
  have hlt : Hid (W1.heap.size = w.heap.size + 1) := hGe
  have Q1 := Lib.hid ((O.out.skip (Fr.none_alloc W1 (.cells #[.slice none 0 0, .int .i64 0] 94))).also (G := fun k => k = w.heap.size + 1 ∨ rowF (.slice none 0 0) k) (fun k hk => by rcases hk with rfl | hk; exact Nat.le_succ _; cases hk))
  have c0 := fun o => ((Blk.new w 24 #[.int .i64 k, .int .i64 n, .slice A m c]).alloc o).cell 0
  simp only [List.getElem?_toArray, List.getElem?_cons_zero] at c0
  clear hr hl hok hk hall hlen hB hT hGe
  go_enter Tryz.func12, Tryz.ntmps12
  go_wp2_with fail
  rw [← hW1]
  try rw [hkw]
  refine (rword_1 _ _ _ k _ P1.out hk0 (by omega) (by simp)).mono ?_
  rintro r w2 ⟨rfl, F2, p2, m2⟩
  have Q2 := Lib.hid (Q1.out.mv m2)
  have P2 := Lib.hid p2
  have B2 := B0.out.fr (F := fun _ => False) ((Fr.none_alloc W1 (.cells #[.slice none 0 0, .int .i64 0] 94)).trans (G := fun k => k = w.heap.size + 1 ∨ rowF (.slice none 0 0) k) m2.fr (fun k hk => by rcases hk with rfl | hk; exact .inr (by rw [hlt.out]; exact Nat.le_refl _); cases hk)) (fun h => h)
  have HB2 := Lib.hid B2
  have m2' := Lib.hid m2.sub
  have d2 := B2.cell 2
  simp only [List.getElem?_toArray, List.getElem?_cons_succ, List.getElem?_cons_zero] at d2
  clear p2 m2 B2 c0
  go_wp2_with fail
  try rw [hmw]
  refine (rword_1 _ F2 _ (m : Int) w2 P2.out (by omega) (by omega) (by simp)).mono ?_
  rintro r w3 ⟨rfl, F3, p3, m3⟩
  have Q3 := Lib.hid (Q2.out.mv m3)
  have P3 := Lib.hid p3
  have hq : Hid (∀ i, F2 i → i ≠ w.heap.size) := fun i hi e => by
    rcases m2'.out i hi with h | h
    · rcases h with h | h
      · have := hlt.out; omega
      · cases h
    · have := hlt.out; simp at h; omega
  have B3 := HB2.out.fr m3.fr (fun h => hq.out _ h rfl)
  have HB3 := Lib.hid B3
  have hq3 : Hid (∀ i, F3 i → i ≠ w.heap.size) := fun i hi e => by
    rcases m3.sub i hi with h | h
    · exact hq.out i h e
    · have := HB2.out.lt; omega
  have d1 := B3.cell 1
  simp only [List.getElem?_toArray, List.getElem?_cons_succ, List.getElem?_cons_zero] at d1
  clear p3 m3 B3 d2
  go_wp2_with fail
  refine (rint_any _ F3 _ n w3 P3.out (by simp)).mono ?_
  rintro r w4 ⟨rfl, F4, p4, m4⟩
  have Q4 := Lib.hid (Q3.out.mv m4)
  have P4 := Lib.hid p4
  have B4 := HB3.out.fr m4.fr (fun h => hq3.out _ h rfl)
  have d2 := B4.cell 2
  simp only [List.getElem?_toArray, List.getElem?_cons_succ, List.getElem?_cons_zero] at d2
  clear p4 m4 B4 d1
  go_wp2_with fail
  refine (HP.out w4 (Fr.b0 Q4.out.bel)).mono ?_
  rintro r w5 ⟨rfl, b5⟩
  have Q5 := Lib.hid (Q4.out.below b5)
  have P5 := P4.out.fr0 (Fr.b0 b5)
  obtain ⟨B, q, d, hb, hrow, hF⟩ := P5
  have c0 := hb.cell 0
  simp only [List.getElem?_toArray, List.getElem?_cons_zero] at c0
  have hcv := run_bytes_string (P := Tryz.prog) 85 9 5 Tryz.underlying85 Tryz.underlying5 Tryz.underlying9 d (Rd.of_own hrow)
  have hst2 : Hid (bstr ([] ++ [UInt8.ofNat k.toNat] ++ [UInt8.ofNat (m : Int).toNat] ++ le8 [n]) ++ Z = bstr (opB k n l)) := hST.out
  have hsz : (bstr ([] ++ [UInt8.ofNat k.toNat] ++ [UInt8.ofNat (m : Int).toNat] ++ le8 [n])).size ≤ 10 := by rw [bstr_size]; simp [le8_len]
  obtain ⟨Y, hY⟩ : ∃ Y, bstr ([] ++ [UInt8.ofNat k.toNat] ++ [UInt8.ofNat (m : Int).toNat] ++ le8 [n]) = Y := ⟨_, rfl⟩
  change _ = Result.ok (Value.string (bstr _)) _ at hcv
  rw [hY] at hcv hst2 hsz
  clear b5 hb hrow hF d2 hY
  go_wp2_with fail
  go_ret
  exact ⟨by rw [← hst2.out]; rfl, Q5.out.bel⟩
end Go.Proofs.YtkickdmiilmkoaaGreatDoor
