/- Walk of a segment block's head. -/
import Derived.Test.YtkickdmiilmkoaaGreatDoorSegB
import Derived.Test.YtkickdmiilmkoaaGreatDoorPkDone
namespace Go.Proofs.YtkickdmiilmkoaaGreatDoor
open Go.RowKit

/-- A block's head, and how many records it has. -/
structure HeadV where
  id : Int
  tier : Int
  shard : Int
  place : Int
  of : Int
  recs : Int
def HeadV.cells (h : HeadV) : List Value := [.int .u64 h.id, .int .i64 h.tier, .int .i64 h.shard, .int .i64 h.place, .int .i64 h.of, .int .i64 h.recs]
def HeadV.val (h : HeadV) : Value := .agg #[.int .u64 h.id, .int .i64 h.tier, .int .i64 h.shard, .int .i64 h.place, .int .i64 h.of, .int .i64 h.recs]
/-- What may be laid in so few bytes. -/
def HeadV.fit (h : HeadV) : Prop := (0 ≤ h.id ∧ h.id < 18446744073709551616) ∧ (0 ≤ h.tier ∧ h.tier < 256) ∧ (0 ≤ h.shard ∧ h.shard < 256) ∧ (0 ≤ h.place ∧ h.place < 65536) ∧ (0 ≤ h.of ∧ h.of < 65536) ∧ (0 ≤ h.recs ∧ h.recs < 65536)
def headN (h : HeadV) : List UInt8 := (le h.id.toNat 8 ++ le h.tier.toNat 1 ++ le h.shard.toNat 1) ++ le h.place.toNat 2 ++ le h.of.toNat 2 ++ le h.recs.toNat 2
def headB (h : HeadV) : List UInt8 := [83, 69, 71, 77] ++ (headN h ++ List.replicate 28 0)
theorem headN_len (h : HeadV) : (headN h).length = 16 := by simp [headN, le_length]
theorem headB_len (h : HeadV) : (headB h).length = 48 := by simp [headB, headN_len]
theorem hfits1 {x : Int} (h : 0 ≤ x ∧ x < 256) : fitsB 1 x = true := by unfold fitsB; simp; omega
theorem hfits2 {x : Int} (h : 0 ≤ x ∧ x < 65536) : fitsB 2 x = true := by unfold fitsB; simp; omega
theorem pSmall_1 {l : List UInt8} {x y : Int} (hx : 0 ≤ x ∧ x < 256) (hy : 0 ≤ y ∧ y < 256) : pSmall 1 0 l [x, y] = (0, l ++ le x.toNat 1 ++ le y.toNat 1) := by
  have h0 : fitsB 1 0 = true := rfl
  simp [pSmall, smallGo, h0, hfits1 hx, hfits1 hy]
theorem pSmall_2 {l : List UInt8} {x y z : Int} (hx : 0 ≤ x ∧ x < 65536) (hy : 0 ≤ y ∧ y < 65536) (hz : 0 ≤ z ∧ z < 65536) : pSmall 2 0 l [x, y, z] = (0, l ++ le x.toNat 2 ++ le y.toNat 2 ++ le z.toNat 2) := by
  have h0 : fitsB 2 0 = true := rfl
  simp [pSmall, smallGo, h0, hfits2 hx, hfits2 hy, hfits2 hz]

set_option maxRecDepth 100000 in
set_option maxHeartbeats 4000000 in
theorem head_any (h : HeadV) (hf : h.fit) (w : World) :
    Calls Tryz.prog 140 #[h.val] w fun r w' => r = .returned (.string (bstr (headB h))) ∧ Below w.heap.size w w' := by
  have hN : Hid (headN h = (([] ++ le h.id.toNat 8) ++ le h.tier.toNat 1 ++ le h.shard.toNat 1) ++ le h.place.toNat 2 ++ le h.of.toNat 2 ++ le h.recs.toNat 2) := by show _ = _; simp [headN]
  have hB : bstr (headB h) = ⟨#[83, 69, 71, 77]⟩ ++ bstr (headN h ++ List.replicate 28 0) := by
    unfold headB
    rw [← bstr_append]; rfl
  have hNl := headN_len h
  obtain ⟨Z, hZ⟩ : ∃ Z, headN h = Z := ⟨_, rfl⟩
  rw [hZ] at hN hB hNl
  have HB := Lib.hid hB
  have HNl := Lib.hid hNl
  obtain ⟨Y, hY⟩ : ∃ Y, bstr (headB h) = Y := ⟨_, rfl⟩
  rw [hY] at HB ⊢
  obtain ⟨⟨f0, f0'⟩, f1, f2, f3, f4, f5⟩ := hf
  have G0 := Lib.hid (And.intro f0 f0')
  have G1 := Lib.hid f1
  have G2 := Lib.hid f2
  have G3 := Lib.hid f3
  have G4 := Lib.hid f4
  have G5 := Lib.hid f5
  obtain ⟨id, ti, sh, pl, of_, rc⟩ := h
  simp only at hN G0 G1 G2 G3 G4 G5
  unfold HeadV.val
  have B0 := Lib.hid (Blk.new w 136 #[.int .u64 id, .int .i64 ti, .int .i64 sh, .int .i64 pl, .int .i64 of_, .int .i64 rc])
  have O := Lib.hid ((Own.start w).skip (Fr.none_alloc w (.cells #[.int .u64 id, .int .i64 ti, .int .i64 sh, .int .i64 pl, .int .i64 of_, .int .i64 rc] 136)))
  obtain ⟨W1, hW1⟩ : ∃ W1, W1 = w.alloc (.cells #[.int .u64 id, .int .i64 ti, .int .i64 sh, .int .i64 pl, .int .i64 of_, .int .i64 rc] 136) := ⟨_, rfl⟩
  have c0 := fun o => (B0.out.alloc o).cell 0
  simp only [List.getElem?_toArray, List.getElem?_cons_zero] at c0
  rw [← hW1] at B0 O
  have hGe : W1.heap.size = w.heap.size + 1 := by rw [hW1]; simp
  have p0 := (Pk.new W1).1
  have q0 := ((Own.start W1).skip (Fr.none_alloc W1 (.cells #[.int .i64 0, .slice none 0 0] 87))).also (Pk.new W1).2
  rw [hGe] at p0 q0
  have P0 := Lib.hid p0
  have Q0 := Lib.hid q0
  have HGe := Lib.hid hGe
  clear hZ hB hNl hY f0 f0' f1 f2 f3 f4 f5 p0 q0 hGe
  go_enter Tryz.func140, Tryz.ntmps140
  go_wp2_with fail
  rw [← hW1]
  have hsz : Hid ((W1.alloc (.cells #[.int .i64 0, .slice none 0 0] 87)).heap.size = w.heap.size + 1 + 1) := by show _ = _; have := HGe.out; simp; omega
  refine (words_any _ _ 0 [] [id] _ 1 1 _ (P0.out.fr (Fr.none_alloc _ _) (fun _ _ h => h)) (Rd.new' (by first | exact hsz.out.symm | (simp; have := HGe.out; omega)) _ _ _ rfl) (adF_new' (by first | exact Nat.le_of_eq hsz.out | (simp; have := HGe.out; omega)) P0.out.lt) (by simp; exact G0.out.1) (by simp)).mono ?_
  rw [pW_zero]
  rintro r w2 ⟨rfl, F2, p2, m2⟩
  have Q2 := Lib.hid ((Q0.out.skip (Fr.none_alloc _ _)).mv m2)
  have P2 := Lib.hid p2
  have B2 := Lib.hid (B0.out.below Q2.out.bel)
  have c1 := B2.out.cell 1
  have c2 := B2.out.cell 2
  simp only [List.getElem?_toArray, List.getElem?_cons_succ, List.getElem?_cons_zero] at c1 c2
  clear p2 m2 c0 P0 Q0
  go_wp2_with fail
  refine (small_any _ _ 0 1 _ [ti, sh] _ 2 2 _ (P2.out.fr (Fr.none_alloc _ _) (fun _ _ h => h)) (Rd.new _ _ _ _ rfl) (adF_new P2.out.lt) (by simp [le_length])).mono ?_
  rw [pSmall_1 G1.out G2.out]
  rintro r w3 ⟨rfl, F3, p3, m3⟩
  have Q3 := Lib.hid ((Q2.out.skip (Fr.none_alloc _ _)).mv m3)
  have P3 := Lib.hid p3
  have B3 := Lib.hid (B0.out.below Q3.out.bel)
  have c3 := B3.out.cell 3
  have c4 := B3.out.cell 4
  have c5 := B3.out.cell 5
  simp only [List.getElem?_toArray, List.getElem?_cons_succ, List.getElem?_cons_zero] at c3 c4 c5
  clear p3 m3 c1 c2 P2 Q2 B2
  go_wp2_with fail
  refine (small_any _ _ 0 2 _ [pl, of_, rc] _ 3 3 _ (P3.out.fr (Fr.none_alloc _ _) (fun _ _ h => h)) (Rd.new _ _ _ _ rfl) (adF_new P3.out.lt) (by simp [le_length])).mono ?_
  rw [pSmall_2 G3.out G4.out G5.out]
  rintro r w4 ⟨rfl, F4, p4, m4⟩
  have Q4 := Lib.hid ((Q3.out.skip (Fr.none_alloc _ _)).mv m4)
  have P4 : Hid (Pk w4 (w.heap.size + 1) F4 0 Z) := by
    show Pk _ _ _ _ _
    rw [hN.out]; simpa using p4
  clear p4 m4 c3 c4 c5 P3 Q3 B3
  go_wp2_with fail
  refine (fill_any _ F4 0 Z 44 w4 P4.out (by rw [HNl.out]; decide)).mono ?_
  rw [show pFill 0 Z 44 = (0, Z ++ List.replicate 28 0) by unfold pFill; rw [if_pos rfl, if_neg (by omega), if_neg (by rw [HNl.out]; decide), HNl.out]; rfl]
  rintro r w5 ⟨rfl, F5, p5, m5⟩
  have Q5 := Lib.hid (Q4.out.mv m5)
  have P5 := Lib.hid p5
  obtain ⟨X, hX⟩ : ∃ X, bstr (Z ++ List.replicate 28 0) = X := ⟨_, rfl⟩
  have hXz : X.size ≤ 100 := by rw [← hX, bstr_size, List.length_append, HNl.out, List.length_replicate]; decide
  have HBX : Hid (Y = ⟨#[83, 69, 71, 77]⟩ ++ X) := by show _ = _; rw [← hX]; exact HB.out
  have HD := Lib.hid (done_at _ F5 _ X w5 P5.out hX)
  clear p5 m5 P4 Q4 hX
  go_wp2_with fail
  refine (HD.out).mono ?_
  rintro r w6 ⟨rfl, rfl⟩
  have O6 := Lib.hid (O.out.below Q5.out.bel)
  clear HD
  go_wp2_with fail
  go_ret
  exact ⟨by rw [HBX.out]; rfl, O6.out.bel⟩
end Go.Proofs.YtkickdmiilmkoaaGreatDoor
