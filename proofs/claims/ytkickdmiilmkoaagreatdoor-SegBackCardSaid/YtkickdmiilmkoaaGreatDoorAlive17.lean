/- Walk of sedimentlaw17.alive. -/
import Derived.Test.YtkickdmiilmkoaaGreatDoorSegLaw
import Derived.Test.YtkickdmiilmkoaaGreatDoorAlive16
namespace Go.Proofs.YtkickdmiilmkoaaGreatDoor
open Go.RowKit

theorem rA_seg : segOk [rA] = true := by decide +kernel
theorem rA_right : rightB 5 0 1 = true := by decide
theorem rA_wfs : ∀ r ∈ [rA], r.wf := by intro r hr; rw [List.mem_singleton] at hr; subst hr; exact rA_wf
def bA : List UInt8 := blockB ⟨5, 0, 1, 0, 1, 1⟩ [rA]
theorem bA_is : blocksL 5 0 1 [rA] = [bA] := rfl
theorem bA_good : (HeadV.mk 5 0 1 0 1 1).good := by unfold HeadV.good; decide
theorem bA_E : hdE bA = 0 := hdE_block bA_good (by decide +kernel) (by decide)
theorem bA_V : hdV bA = ⟨5, 0, 1, 0, 1, 1⟩ := by rw [hdE_V bA_E]; exact hdRd_block bA_good
theorem bA_gets : getsL 5 0 1 [bA] = true := by rw [← bA_is]; exact gets_blocks (by decide) rA_right (by decide) rA_wfs rA_seg
theorem bA_out : outL [bA] = [rA] := by rw [← bA_is]; exact outL_blocks (by decide) rA_right (by decide) rA_wfs (segOk_recs rA_seg)
theorem bA_len : bA.length = 256 := (hdE_good bA_E).1

set_option maxRecDepth 100000 in
set_option maxHeartbeats 4000000 in
theorem alive17_any (w : World) : Calls Tryz.prog 35 #[] w fun r w' => r = .returned (.bool true) ∧ Below w.heap.size w w' := by
  have HO := Lib.hid (ofone_any 7 (by unfold in64; decide) (some ⟨w.heap.size, 0, none⟩) 1 (w.alloc (.cells #[.int .i64 7] 3)) (Rd.new w [.int .i64 7] _ 1 rfl))
  rw [show (aggOne 7).val = .agg #[.int .i64 1, .int .i64 0, .int .u64 7, .int .i64 7, .int .i64 7] by unfold aggOne AggV.val; rfl] at HO
  have HBl := Lib.hid (fun w' => show Calls Tryz.prog 38 #[.int .i64 4] w' fun r w'' => r = .returned (.int .i64 2) ∧ w' = w'' from blocks_any 4 (by decide) w')
  have HEq := Lib.hid (fun w' => run_eqhead ⟨5, 0, 1, 0, 1, 1⟩ ⟨5, 0, 1, 0, 1, 0⟩ w')
  rw [show hdEq ⟨5, 0, 1, 0, 1, 1⟩ ⟨5, 0, 1, 0, 1, 0⟩ = true from rfl] at HEq
  unfold HeadV.hval at HEq
  have HGH := Lib.hid (fun w' => gethead_any bA (by rw [bA_len]; decide) w')
  rw [bA_V, bA_E] at HGH
  unfold HeadV.hval at HGH
  go_enter Tryz.func35, Tryz.ntmps35
  go_wp2_with fail
  refine (HO.out).mono ?_
  rintro r w1 ⟨rfl, b1⟩
  have O1 := Lib.hid (((Own.start w).skip (Fr.none_alloc w _)).below b1)
  clear b1 HO
  go_wp2_with fail
  have HP := Lib.hid (segput_any 5 0 1 (by decide) [rA] rA_wfs (some ⟨w1.heap.size, 0, none⟩) 1 1 (w1.alloc (.cells #[.string { data := #[97] }, .int .i64 5, .int .i64 1, .int .i64 0, .int .u64 7, .int .i64 7, .int .i64 7] 63)) (Rd.newS rfl (rcells [rA]) _ 1 7 rfl) (by decide) (by decide))
  refine (HP.out).mono ?_
  rintro r w2 ⟨h1, _, b2⟩
  obtain ⟨R, cs, rfl, ho⟩ := h1 (by rw [rA_right, rA_seg]; rfl)
  rw [bA_is] at ho
  have hob : w2.ownsRow (w1.alloc (.cells #[.string { data := #[97] }, .int .i64 5, .int .i64 1, .int .i64 0, .int .u64 7, .int .i64 7, .int .i64 7] 63)).heap.size 9 1 (.slice R 1 cs) 1 (strs [bA]) := ho
  rw [show blocksV 1 = 1 from rfl]
  have O2 := Lib.hid ((O1.out.skip (Fr.none_alloc w1 _)).below b2)
  have HRd := Lib.hid (Rd.of_own hob)
  obtain ⟨ad, x, rfl, hx, hc⟩ := HRd.out.at_map (k := 0) (by decide)
  simp only [List.getElem?_cons_zero, Option.some.injEq] at hx
  subst hx
  rw [addr_zero] at hc
  clear h1 b2 HP ho hob
  obtain ⟨S, hS⟩ : ∃ S, bstr bA = S := ⟨_, rfl⟩
  rw [hS] at hc HGH
  clear hS
  go_wp2_with fail
  refine (HGH.out _).mono ?_
  rintro r w3 ⟨rfl, b3⟩
  have O3 := Lib.hid (O2.out.below b3)
  have HRd3 := Lib.hid (HRd.out.below b3)
  clear b3 hc
  go_wp2_with fail
  refine (segget_any 5 0 1 (by decide) [bA] (by intro b hb; rw [List.mem_singleton] at hb; subst hb; rw [bA_len]; decide) _ 1 cs _ (HRd3.out.alloc _) (by decide)).mono ?_
  rintro r w4 ⟨h1, _, _, b4⟩
  obtain ⟨R4, m, c4, rfl, ho4⟩ := h1 (by decide) bA_gets
  rw [bA_out] at ho4
  obtain rfl : m = 1 := by have := ho4.1; rw [show (rcells [rA]).length = 7 from rfl] at this; omega
  have B4 := Lib.hid ((Blk.new w3 76 #[.int .u64 5, .int .i64 0, .int .i64 1, .int .i64 0, .int .i64 1]).below b4)
  have O4 := Lib.hid ((O3.out.skip (Fr.none_alloc w3 _)).below b4)
  have a0 := B4.out.cell 0
  have a1 := B4.out.cell 1
  have a2 := B4.out.cell 2
  have a3 := B4.out.cell 3
  have a4 := B4.out.cell 4
  simp only [List.getElem?_toArray, List.getElem?_cons_succ, List.getElem?_cons_zero] at a0 a1 a2 a3 a4
  have q := HEq.out
  clear h1 b4 ho4
  go_wp2_with fail
  refine (HBl.out _).mono ?_
  rintro r w5 ⟨rfl, rfl⟩
  go_wp2_with fail
  go_ret
  exact ⟨rfl, O4.out.bel⟩
end Go.Proofs.YtkickdmiilmkoaaGreatDoor
