/- Plain law: what a segment's blocks tell. -/
import Derived.Test.YtkickdmiilmkoaaGreatDoorSegG
import Derived.Test.YtkickdmiilmkoaaGreatDoorRecLaw
namespace Go.Proofs.YtkickdmiilmkoaaGreatDoor
open Go.RowKit

/-- What a block's head must be to be read back. -/
def HeadV.good (h : HeadV) : Prop := (0 < h.id ∧ h.id < 18446744073709551616) ∧ (0 ≤ h.tier ∧ h.tier < 10) ∧ (0 ≤ h.shard ∧ h.shard < 8) ∧ (0 ≤ h.place ∧ h.place < h.of) ∧ h.of ≤ 4096 ∧ (1 ≤ h.recs ∧ h.recs ≤ 3)
theorem tkle (x k : Nat) (t : List UInt8) : (le x k ++ t).take k = le x k := List.take_left' (le_length x k)
theorem drle (x k j : Nat) (t : List UInt8) : (le x k ++ t).drop (k + j) = t.drop j := by
  rw [List.drop_append, le_length, List.drop_of_length_le (by rw [le_length]; omega), List.nil_append, Nat.add_sub_cancel_left]
theorem ofLe_nat {x : Int} {k : Nat} (h0 : 0 ≤ x) (h : x < ((256 ^ k : Nat) : Int)) : ((ofLe (le x.toNat k) : Nat) : Int) = x := by
  rw [ofLe_le, Nat.mod_eq_of_lt (by omega)]; omega
theorem hdRd_head {h : HeadV} (g : h.good) (t : List UInt8) : hdRd (headB h ++ t) = h := by
  obtain ⟨⟨a0, a1⟩, ⟨b0, b1⟩, ⟨c0, c1⟩, ⟨d0, d1⟩, e1, ⟨f0, f1⟩⟩ := g
  obtain ⟨id, ti, sh, pl, of_, rc⟩ := h
  simp only at a0 a1 b0 b1 c0 c1 d0 d1 e1 f0 f1
  have hB : headB ⟨id, ti, sh, pl, of_, rc⟩ ++ t = [83, 69, 71, 77] ++ (le id.toNat 8 ++ (le ti.toNat 1 ++ (le sh.toNat 1 ++ (le pl.toNat 2 ++ (le of_.toNat 2 ++ (le rc.toNat 2 ++ (List.replicate 28 0 ++ t))))))) := by
    unfold headB headN
    simp only [List.append_assoc]
  rw [hB]
  generalize List.replicate 28 (0 : UInt8) ++ t = z
  have e4 : ∀ j (y : List UInt8), ([83, 69, 71, 77] ++ y).drop (4 + j) = y.drop j := fun j y => by
    rw [List.drop_append, List.drop_of_length_le (by simp), List.nil_append]
    congr 1
    simp
  unfold hdRd
  rw [show (4 : Nat) = 4 + 0 from rfl, e4, List.drop_zero, tkle, show (12 : Nat) = 4 + (8 + 0) from rfl, e4, drle, List.drop_zero, tkle, show (13 : Nat) = 4 + (8 + (1 + 0)) from rfl, e4, drle, drle, List.drop_zero, tkle,
    show (14 : Nat) = 4 + (8 + (1 + (1 + 0))) from rfl, e4, drle, drle, drle, List.drop_zero, tkle, show (16 : Nat) = 4 + (8 + (1 + (1 + (2 + 0)))) from rfl, e4, drle, drle, drle, drle, List.drop_zero, tkle,
    show (18 : Nat) = 4 + (8 + (1 + (1 + (2 + (2 + 0))))) from rfl, e4, drle, drle, drle, drle, drle, List.drop_zero, tkle]
  rw [ofLe_nat (k := 8) (by omega) (by omega), ofLe_nat (k := 1) b0 (by omega), ofLe_nat (k := 1) c0 (by omega), ofLe_nat (k := 2) d0 (by omega), ofLe_nat (k := 2) (by omega) (by omega), ofLe_nat (k := 2) (by omega) (by omega)]
theorem goodB_of {h : HeadV} (g : h.good) : goodB h = true := by
  obtain ⟨⟨a0, a1⟩, ⟨b0, b1⟩, ⟨c0, c1⟩, ⟨d0, d1⟩, e1, ⟨f0, f1⟩⟩ := g
  unfold goodB rightB
  simp only [Bool.and_eq_true, decide_eq_true_eq]
  exact ⟨⟨a0, b0, b1, c0, c1⟩, d1, e1, f0, f1⟩
section
variable {h : HeadV} {l : List RecV}
theorem block_split (h : HeadV) (l : List RecV) : blockB h l = headB h ++ (l.flatMap recB ++ List.replicate (208 - 64 * l.length) 0) := by unfold blockB; rw [List.append_assoc]
theorem hdRd_block (g : h.good) : hdRd (blockB h l) = h := by rw [block_split]; exact hdRd_head g _
theorem hdE_block (g : h.good) (hok : l.all recOk = true) (h3 : l.length ≤ 3) : hdE (blockB h l) = 0 := by
  unfold hdE
  rw [if_pos (blockB_len h l hok h3), hdRd_block g, goodB_of g, decide_eq_true (by rw [block_split, List.take_left' (headB_len h)])]
  rfl
theorem recN_block (g : h.good) (hr : h.recs = l.length) : recN (blockB h l) = l.length := by unfold recN; rw [hdRd_block g, hr]; rfl
theorem bodyL_block (g : h.good) (hr : h.recs = l.length) (hok : l.all recOk = true) : bodyL (blockB h l) = l.flatMap recB := by
  unfold bodyL
  rw [recN_block g hr, block_split, List.take_append, headB_len, List.take_of_length_le (by rw [headB_len]; omega), Nat.add_sub_cancel_left, List.drop_left' (headB_len h), List.take_left' (by rw [recsB_len hok]; omega)]
theorem recsOf_block (g : h.good) (hr : h.recs = l.length) (hw : ∀ r ∈ l, r.wf) (hok : l.all recOk = true) : recsOf (blockB h l) = l := by
  unfold recsOf
  rw [bodyL_block g hr hok, recN_block g hr, recsRd_back hw hok]
theorem recsOk_block (g : h.good) (hr : h.recs = l.length) (hw : ∀ r ∈ l, r.wf) (hok : l.all recOk = true) : recsOk (bodyL (blockB h l)) (recN (blockB h l)) = true := by
  rw [bodyL_block g hr hok, recN_block g hr, recsOk_back hw hok]
end
theorem hdEq_refl (h : HeadV) (r : Int) : hdEq h ⟨h.id, h.tier, h.shard, h.place, h.of, r⟩ = true := by simp [hdEq]
theorem hdEq_iff (x y : HeadV) : hdEq x y = true ↔ x.id = y.id ∧ x.tier = y.tier ∧ x.shard = y.shard ∧ x.place = y.place ∧ x.of = y.of := by unfold hdEq; simp

/-- The k-th block's head. -/
def headK (id ti sh : Int) (l : List RecV) (k : Nat) : HeadV := ⟨id, ti, sh, (k : Nat), (blocksV l.length : Nat), ((partL l k).length : Nat)⟩
section
variable {id ti sh : Int} {l : List RecV} {k : Nat}
theorem rightB_parts (h : rightB id ti sh = true) : 0 < id ∧ (0 ≤ ti ∧ ti < 10) ∧ (0 ≤ sh ∧ sh < 8) := by
  unfold rightB at h; simp only [Bool.and_eq_true, decide_eq_true_eq] at h; omega
theorem headK_good (hid : id < 18446744073709551616) (hr : rightB id ti sh = true) (hn : l.length ≤ 12288) (hk : k < blocksV l.length) : (headK id ti sh l k).good := by
  have h1 := rightB_parts hr
  have h2 := part_len hk
  have h3 : blocksV l.length ≤ 4096 := by unfold blocksV; omega
  have h4 : 3 * k < l.length := by unfold blocksV at hk; omega
  have h5 := part_le l k
  unfold HeadV.good headK
  simp only
  omega
theorem blocksL_at (hk : k < blocksV l.length) : (blocksL id ti sh l)[k]? = some (blockB (headK id ti sh l k) (partL l k)) := by
  unfold blocksL
  rw [List.getElem?_map, List.getElem?_range hk]
  rfl
theorem blocksL_mem {b : List UInt8} (h : b ∈ blocksL id ti sh l) : ∃ k, k < blocksV l.length ∧ b = blockB (headK id ti sh l k) (partL l k) := by
  unfold blocksL at h
  rw [List.mem_map] at h
  obtain ⟨k, hk, rfl⟩ := h
  exact ⟨k, List.mem_range.1 hk, rfl⟩
end
theorem flat_parts (l : List RecV) : ∀ j, (List.range j).flatMap (partL l) = l.take (3 * j) := by
  intro j
  induction j with
  | zero => simp
  | succ j ih =>
    rw [List.range_succ, List.flatMap_append, ih]
    simp only [List.flatMap_cons, List.flatMap_nil, List.append_nil]
    unfold partL
    rw [← List.take_add]
    rfl
section
variable {id ti sh : Int} {l : List RecV}
theorem outL_blocks (hid : id < 18446744073709551616) (hr : rightB id ti sh = true) (hn : l.length ≤ 12288) (hw : ∀ r ∈ l, r.wf) (hok : l.all recOk = true) : outL (blocksL id ti sh l) = l := by
  have h1 : outL (blocksL id ti sh l) = (List.range (blocksV l.length)).flatMap (partL l) := by
    unfold outL blocksL
    rw [List.flatMap_map]
    have : ∀ (ks : List Nat), (∀ k ∈ ks, k < blocksV l.length) → ks.flatMap (fun k => recsOf (blockB ⟨id, ti, sh, (k : Nat), (blocksV l.length : Nat), ((partL l k).length : Nat)⟩ (partL l k))) = ks.flatMap (partL l) := by
      intro ks hks
      induction ks with
      | nil => rfl
      | cons a ks ih =>
        rw [List.flatMap_cons, List.flatMap_cons, ih (fun k hk => hks k (List.mem_cons_of_mem _ hk))]
        congr 1
        exact recsOf_block (headK_good (l := l) (k := a) hid hr hn (hks a (List.mem_cons_self ..))) rfl (fun r hr => hw r (part_mem hr)) (part_all hok)
    exact this _ (fun k hk => List.mem_range.1 hk)
  rw [h1, flat_parts, List.take_of_length_le (by unfold blocksV; omega)]
theorem readsL_blocks (hid : id < 18446744073709551616) (hr : rightB id ti sh = true) (hn : l.length ≤ 12288) (hok : l.all recOk = true) {b : List UInt8} (hb : b ∈ blocksL id ti sh l) : hdE b = 0 := by
  obtain ⟨k, hk, rfl⟩ := blocksL_mem hb
  exact hdE_block (headK_good hid hr hn hk) (part_all hok) (part_le l k)
theorem gets_blocks (hid : id < 18446744073709551616) (hr : rightB id ti sh = true) (hn : l.length ≤ 12288) (hw : ∀ r ∈ l, r.wf) (hs : segOk l = true) : getsL id ti sh (blocksL id ti sh l) = true := by
  have hok := segOk_recs hs
  unfold getsL
  rw [outL_blocks hid hr hn hw hok, hr, hs]
  simp only [Bool.true_and, Bool.and_eq_true, decide_eq_true_eq]
  refine ⟨?_, ?_, trivial⟩
  · unfold readsL
    rw [List.all_eq_true]
    exact fun b hb => decide_eq_true (readsL_blocks hid hr hn hok hb)
  · rw [List.all_eq_true]
    intro k hk
    have hk2 := List.mem_range.1 hk
    rw [blocksL_len] at hk2
    have g := headK_good (l := l) (k := k) hid hr hn hk2
    rw [okAt_some (blocksL_at hk2)]
    unfold okBlk
    rw [hdRd_block g, recsOk_block g rfl (fun r hr => hw r (part_mem hr)) (part_all hok), blocksL_len, Bool.and_true]
    exact hdEq_refl (headK id ti sh l k) 0
end
/-- Where a block's head is not the one that is wanted, nothing is got. -/
theorem gets_head {id ti sh : Int} {bs : List (List UInt8)} {k : Nat} {b : List UInt8} (hb : bs[k]? = some b) (hne : ¬ ((hdRd b).id = id ∧ (hdRd b).tier = ti ∧ (hdRd b).shard = sh ∧ (hdRd b).place = k ∧ (hdRd b).of = bs.length)) : getsL id ti sh bs = false := by
  refine gets_bad (List.getElem?_eq_some_iff.1 hb).1 ?_
  rw [okAt_some hb]
  unfold okBlk
  cases h : hdEq (hdRd b) ⟨id, ti, sh, (k : Nat), (bs.length : Nat), 0⟩
  · rfl
  · exact absurd ((hdEq_iff _ _).1 h) hne
theorem gets_parts {id ti sh : Int} {bs : List (List UInt8)} (h : getsL id ti sh bs = true) : readsL bs = true ∧ (List.range bs.length).all (okAt id ti sh bs) = true ∧ rightB id ti sh = true ∧ segOk (outL bs) = true ∧ blocksL id ti sh (outL bs) = bs := by
  unfold getsL at h
  simp only [Bool.and_eq_true, decide_eq_true_eq] at h
  exact ⟨h.1, h.2.1, h.2.2.1.1, h.2.2.1.2, h.2.2.2⟩
end Go.Proofs.YtkickdmiilmkoaaGreatDoor
