/- Walk of sedimentlaw16.alive. -/
import Derived.Test.YtkickdmiilmkoaaGreatDoorFew
namespace Go.Proofs.YtkickdmiilmkoaaGreatDoor
open Go.RowKit

def rA : RecV := ⟨{ data := #[97] }, 5, ⟨1, 0, 7, 7, 7⟩⟩
def lA : List UInt8 := recB rA
theorem lA_len : lA.length = 64 := by decide +kernel
theorem rA_ok : recOk rA = true := by decide +kernel
theorem rA_wf : rA.wf := by
  refine ⟨by unfold in64 rA; decide, ?_, by unfold maxLen; decide⟩
  unfold AggV.wf in64 rA; decide
theorem lA_ok : recsOk lA 1 = true := by decide +kernel
theorem lA_start : (recRd (chunk 64 lA 0)).1.start = 5 := by decide +kernel
theorem lA_rec : recOk (recRd (chunk 64 lA 0)).1 = true := by decide +kernel
theorem lA_name : (recRd (chunk 64 lA 0)).1.name.size ≤ maxLen := (recRd_wf _).2.2

set_option maxRecDepth 100000 in
set_option maxHeartbeats 4000000 in
theorem alive16_any (w : World) : Calls Tryz.prog 20 #[] w fun r w' => r = .returned (.bool true) ∧ Below w.heap.size w w' := by
  have HO := Lib.hid (ofone_any 7 (by unfold in64; decide) (some ⟨w.heap.size, 0, none⟩) 1 (w.alloc (.cells #[.int .i64 7] 3)) (Rd.new w [.int .i64 7] _ 1 rfl))
  rw [show (aggOne 7).val = .agg #[.int .i64 1, .int .i64 0, .int .u64 7, .int .i64 7, .int .i64 7] by unfold aggOne AggV.val; rfl] at HO
  go_enter Tryz.func20, Tryz.ntmps20
  go_wp2_with fail
  refine (HO.out).mono ?_
  rintro r w1 ⟨rfl, b1⟩
  have O1 := Lib.hid (((Own.start w).skip (Fr.none_alloc w _)).below b1)
  clear b1 HO
  go_wp2_with fail
  have HP := Lib.hid (recput_any [rA] (by intro r hr; rw [List.mem_singleton] at hr; subst hr; exact rA_wf) (some ⟨w1.heap.size, 0, none⟩) 1 1 (w1.alloc (.cells #[.string { data := #[97] }, .int .i64 5, .int .i64 1, .int .i64 0, .int .u64 7, .int .i64 7, .int .i64 7] 63)) (Rd.newS rfl (rcells [rA]) _ 1 7 rfl) (by decide))
  rw [show [rA].all recOk = true by simp [rA_ok], show [rA].flatMap recB = lA by simp [lA]] at HP
  simp only [cond_true] at HP
  refine (HP.out).mono ?_
  rintro r w2 ⟨rfl, b2⟩
  have O2 := Lib.hid ((O1.out.skip (Fr.none_alloc w1 _)).below b2)
  have HG := Lib.hid (recget_any lA 1 (by rw [lA_len]) (by rw [lA_len]; decide) w2)
  have hsz : ((bstr lA).size : Int) = 64 := by rw [bstr_size, lA_len]; rfl
  obtain ⟨S, hS⟩ : ∃ S, bstr lA = S := ⟨_, rfl⟩
  rw [hS] at HG hsz ⊢
  clear b2 HP hS
  go_wp2_with fail
  refine (HG.out).mono ?_
  rintro r w3 ⟨hyes, _, b3⟩
  obtain ⟨A, c, rfl, hc, hrd, _⟩ := hyes lA_ok
  have O3 := Lib.hid (O2.out.below b3)
  rw [show recsRd lA 1 = [(recRd (chunk 64 lA 0)).1] from rfl] at hrd
  have h5 := Lib.hid lA_start
  have hok := Lib.hid lA_rec
  have HV := Lib.hid (fun w' => recvalid_any _ lA_name w')
  generalize (recRd (chunk 64 lA 0)).1 = x at *
  rw [hok.out] at HV
  obtain ⟨ad, x', rfl, hx, d0, d1, d2, d3, d4, d5, d6⟩ := hrd.rec_ (k := 0) (by decide)
  simp only [List.getElem?_cons_zero, Option.some.injEq] at hx
  subst hx
  rw [Nat.zero_mul, addr_zero] at d0 d1 d2 d3 d4 d5 d6
  rw [h5.out] at d1
  have HV2 : Hid (∀ w', Calls Tryz.prog 29 #[.agg #[.string x.name, .int .i64 5, .int .i64 x.agg.count, .int .i64 x.agg.hi, .int .u64 x.agg.lo, .int .i64 x.agg.min, .int .i64 x.agg.max]] w' fun e w'' => e = .returned (.bool true) ∧ Below w'.heap.size w' w'') := fun w' => by
    have := HV.out w'
    unfold RecV.val at this
    rw [h5.out] at this
    exact this
  clear HV hyes b3 HG hrd
  go_wp2_with fail
  refine (HV2.out w3).mono ?_
  rintro r w4 ⟨rfl, b4⟩
  have O4 := Lib.hid (O3.out.below b4)
  clear b4 d0 d1 d2 d3 d4 d5 d6
  go_wp2_with fail
  go_ret
  exact ⟨rfl, O4.out.bel⟩
end Go.Proofs.YtkickdmiilmkoaaGreatDoor
