/- The statement OplogBack: the walk. -/
import Derived.Test.YtkickdmiilmkoaaDoorOplogB
import Derived.Test.YtkickdmiilmkoaaDoorFew
namespace Go.Proofs.YtkickdmiilmkoaaDoor
open Go.RowKit

theorem opB_length {k n : Int} {l : List SampV} (hok : opOk k n l = true) : (opB k n l).length = 10 + 32 * l.length := by
  obtain ⟨_, _, hall⟩ := opOk_parts hok
  unfold opB
  rw [List.length_append, List.length_append, le8_len, sampsB_len hall]
  simp
theorem opB_second {k n : Int} {l : List SampV} : (opB k n l)[1]? = some (UInt8.ofNat l.length) := rfl
theorem readOk_cut {k n : Int} {l : List SampV} (hok : opOk k n l = true) {c : Nat} (h1 : 10 ≤ c) (h2 : c < (opB k n l).length) : readOk ((opB k n l).take c) = false := by
  cases h : readOk ((opB k n l).take c)
  · rfl
  · exfalso
    unfold readOk at h
    simp only [Bool.and_eq_true, decide_eq_true_eq] at h
    obtain ⟨⟨_, h4⟩, h5⟩ := h
    have e1 := opB_length h4
    have e2 := opB_length hok
    rw [h5, List.length_take, Nat.min_eq_left (by omega)] at e1
    have b1 := opB_second (k := rdK ((opB k n l).take c)) (n := rdN ((opB k n l).take c)) (l := sgetL (((opB k n l).take c).drop 10))
    rw [h5, List.getElem?_take_of_lt (by omega), opB_second] at b1
    injection b1 with b1
    have d1 := (opOk_parts hok).2.1
    have d2 := (opOk_parts h4).2.1
    have b2 := congrArg UInt8.toNat b1
    rw [UInt8.toNat_ofNat', UInt8.toNat_ofNat', Nat.mod_eq_of_lt (by omega), Nat.mod_eq_of_lt (by omega)] at b2
    omega

set_option maxRecDepth 100000 in
set_option maxHeartbeats 8000000 in
theorem oback_walk (k n : Int) (l : List SampV) (A : Option Addr) (m c : Nat) (cut : Int) (w : World) (hr : Rd w 3 A m (scells l)) (hl : ∀ r ∈ l, r.wf) (h1 : m ≤ 9223372036854775807) (hc : in64 cut) :
    Calls Tryd.prog 3 #[.agg #[.int .i64 k, .int .i64 n, .slice A m c], .int .i64 cut] w fun r w' => r = .returned (.bool true) ∧ Below w.heap.size w w' := by
  have F1 : Hid (∀ w', Fr (fun _ => False) w w' → Calls Tryd.prog 9 #[.int .i64 20, .slice A m c] w' fun r w'' => FewR 20 m r ∧ w' = w'') := fun w' f => some_any 20 (by decide) l (fun r h => (hl r h).2.2) A m c w' (hr.fr0 f) h1
  have AL := Lib.hid (fun w' => alive20_any w')
  have HV : Hid (m ≤ 20 → ∀ w', Fr (fun _ => False) w w' → Calls Tryd.prog 10 #[.agg #[.int .i64 k, .int .i64 n, .slice A m c]] w' fun r w'' => r = .returned (.bool (opOk k n l)) ∧ Below w'.heap.size w' w'') := fun q w' f => lopvalid_any k n l hl A m c w' (hr.fr0 f) (by omega)
  have HB : Hid (m ≤ 20 → ∀ w', Fr (fun _ => False) w w' → Calls Tryd.prog 12 #[.agg #[.int .i64 k, .int .i64 n, .slice A m c]] w' fun r w'' => r = .returned (bif opOk k n l then .tuple #[.string (bstr (opB k n l)), .int .i64 0] else .tuple #[.string { data := #[] }, .int .i64 1]) ∧ Below w'.heap.size w' w'') := fun q w' f => opbytes_any k n l hl A m c w' (hr.fr0 f) (by omega)
  have HR : Hid (opOk k n l = true → ∀ w', 0 ≤ cut → cut < ((bstr (opB k n l)).size : Int) → Calls Tryd.prog 13 #[.string ((bstr (opB k n l)).extract 0 cut.toNat)] w' fun r w'' => (∃ E, (E = 5 ∨ E = 6) ∧ r = .returned (.tuple #[.agg #[.int .i64 0, .int .i64 0, .slice none 0 0], .int .i64 E])) ∧ Below w'.heap.size w' w'') := fun hok w' c0 c1 => by
    have hz := bstr_size (opB k n l)
    have hlen := opB_length hok
    have h8 := (opOk_parts hok).2.1
    have hx : (bstr (opB k n l)).extract 0 cut.toNat = bstr ((opB k n l).take cut.toNat) := by rw [bstr_extract, List.drop_zero]
    rw [hx]
    by_cases h10 : cut.toNat < 10
    · refine (opread_short _ (by rw [bstr_size, List.length_take]; omega) w').mono ?_
      rintro r w'' ⟨e, b⟩
      exact ⟨⟨5, .inl rfl, e⟩, b⟩
    · refine (opread_any ((opB k n l).take cut.toNat) (by rw [List.length_take]; omega) (by rw [List.length_take]; omega) w').mono ?_
      rintro r w'' ⟨_, e, b⟩
      exact ⟨⟨6, .inr rfl, e (readOk_cut hok (by omega) (by omega))⟩, b⟩
  have hSz : Hid (opOk k n l = true → (bstr (opB k n l)).size ≤ 1000) := fun hok => by
    have hlen := opB_length hok
    have h8 := (opOk_parts hok).2.1
    rw [bstr_size]; omega
  have B0 := Lib.hid (Blk.new w 24 #[.int .i64 k, .int .i64 n, .slice A m c])
  have O := Lib.hid ((Own.start w).skip (Fr.none_alloc w (.cells #[.int .i64 k, .int .i64 n, .slice A m c] 24)))
  obtain ⟨V, hV⟩ : ∃ V, opOk k n l = V := ⟨_, rfl⟩
  obtain ⟨S, hS⟩ : ∃ S, bstr (opB k n l) = S := ⟨_, rfl⟩
  rw [hV] at HV HB HR hSz
  rw [hS] at HB HR hSz
  obtain ⟨hc1, hc2⟩ := hc
  clear hr hl hV hS
  go_enter Tryd.func3, Tryd.ntmps3
  go_wp2_with fail
  refine (F1.out _ (Fr.none_alloc _ _)).mono ?_
  rintro r w1 ⟨⟨b, rfl, q1⟩, rfl⟩
  cases b
  · clear q1
    go_wp2_with fail
    refine (AL.out _).mono ?_
    rintro r w2 ⟨rfl, b2⟩
    have O2 := Lib.hid (O.out.below b2)
    clear b2
    go_wp2_with fail
    go_ret
    exact ⟨rfl, O2.out.bel⟩
  replace q1 := q1 rfl
  replace HV := Lib.hid (HV.out (by omega))
  replace HB := Lib.hid (HB.out (by omega))
  clear F1
  go_wp2_with fail
  refine (HV.out _ (Fr.none_alloc _ _)).mono ?_
  rintro r w1 ⟨rfl, b1⟩
  have O1 := Lib.hid (O.out.below b1)
  have B1 := B0.out.below b1
  have c0 := B1.cell 0
  have c1 := B1.cell 1
  have c2 := B1.cell 2
  simp only [List.getElem?_toArray, List.getElem?_cons_succ, List.getElem?_cons_zero] at c0 c1 c2
  clear b1 B1 B0
  cases V
  · go_wp2_with fail
    refine (AL.out _).mono ?_
    rintro r w2 ⟨rfl, b2⟩
    have O2 := Lib.hid (O1.out.below b2)
    clear b2 c0 c1 c2
    go_wp2_with fail
    go_ret
    exact ⟨rfl, O2.out.bel⟩
  have hsz := hSz.out (by simp)
  go_wp2_with fail
  refine (HB.out _ (Fr.b0 O1.out.bel)).mono ?_
  rintro r w2 ⟨rfl, b2⟩
  have O2 := Lib.hid (O1.out.below b2)
  clear b2 c0 c1 c2
  by_cases k0 : cut < 0
  · go_wp2_with fail
    refine (AL.out _).mono ?_
    rintro r w3 ⟨rfl, b3⟩
    have O3 := Lib.hid (O2.out.below b3)
    clear b3
    go_wp2_with fail
    go_ret
    exact ⟨rfl, O3.out.bel⟩
  have k0' : decide (cut < 0) = false := decide_eq_false k0
  by_cases k1 : (S.size : Int) ≤ cut
  · go_wp2_with fail
    refine (AL.out _).mono ?_
    rintro r w3 ⟨rfl, b3⟩
    have O3 := Lib.hid (O2.out.below b3)
    clear b3
    go_wp2_with fail
    go_ret
    exact ⟨rfl, O3.out.bel⟩
  have k1' : decide ((S.size : Int) ≤ cut) = false := decide_eq_false k1
  have k2 : 0 ≤ cut := by omega
  have k3 : cut ≤ (S.size : Int) := by omega
  have k4 : cut.toNat ≤ S.size := by omega
  have k5 : ((cut.toNat : Nat) : Int) = cut := by omega
  have HRR := Lib.hid (HR.out (by simp) w2 k2 (by omega))
  go_wp2_with fail
  refine (HRR.out).mono ?_
  rintro r w3 ⟨⟨E, hE, rfl⟩, b3⟩
  have O3 := Lib.hid (O2.out.below b3)
  have hEn : (E != 0) = true := by rcases hE with rfl | rfl <;> rfl
  clear b3 hE k0' k1' k4 k5 k0 k1 k2 k3
  go_wp2_with fail
  refine (AL.out _).mono ?_
  rintro r w4 ⟨rfl, b4⟩
  have O4 := Lib.hid ((O3.out.skip (Fr.none_alloc _ _)).below b4)
  clear b4
  go_wp2_with fail
  go_ret
  exact ⟨by first | rfl | simp [*], O4.out.bel⟩
end Go.Proofs.YtkickdmiilmkoaaDoor
