/- Walks of oplog.Valid, oplog.Bytes, sedimentlaw20.valid. -/
import Derived.Test.YtkfdgodngbinlaaGreatDoorGetS
namespace Go.Proofs.YtkfdgodngbinlaaGreatDoor
set_option linter.all false
open Go.RowKit

def opOk (k n : Int) (l : List SampV) : Bool :=
 if k = 1 then decide (n = 0) && (decide (1 ≤ l.length) && (decide (l.length ≤ 8) && l.all sampOk))
 else if k = 2 then decide (0 ≤ n) && (decide (n ≤ 1099511627776) && decide (l.length = 0))
 else false
def opB (k n : Int) (l : List SampV) : List UInt8 := [UInt8.ofNat k.toNat, UInt8.ofNat l.length] ++ le8 [n] ++ l.flatMap sampB
theorem put_tuple2 (b : Bool) (S : ByteArray) : ∃ P E, (bif b then Value.tuple #[.string S, .int .i64 0] else .tuple #[.string { data := #[] }, .int .i64 1]) = .tuple #[.string P, .int .i64 E] ∧ (E = 0 ↔ b = true) ∧ (b = true → P = S) := by
 cases b
 ·exact ⟨_, _, rfl, by simp, by simp⟩
 ·exact ⟨_, _, rfl, by simp, by simp⟩

set_option maxRecDepth 100000 in
set_option maxHeartbeats 4000000 in
theorem opvalid_any (k n : Int) (l : List SampV) (hl : ∀ r ∈ l, r.wf) (A : Option Addr) (m c : Nat) (w : World) (hr : Rd w 3 A m (scells l)) (hm : m ≤ 1000000) :
  Calls Tryz.prog 68 #[.agg #[.int .i64 k, .int .i64 n, .slice A m c]] w fun r w' => r = .returned (.bool (opOk k n l)) ∧ Below w.heap.size w w' := by
 have hlen := hr.samps_len
 obtain ⟨PS, PE, hP, hE, _⟩ := put_tuple2 (l.all sampOk) (bstr (l.flatMap sampB))
 have HP : Hid (∀ w', Fr (fun _ => False) w w' → Calls Tryz.prog 70 #[.slice A m c] w' fun e w'' => e = .returned (.tuple #[.string PS, .int .i64 PE]) ∧ Below w'.heap.size w' w'') := fun w' f => by
  rw [← hP]; exact sampsput_any l hl A m c w' (hr.fr0 f) (by omega)
 have B0 := Lib.hid (Blk.new w 80 #[.int .i64 k, .int .i64 n, .slice A m c])
 have O := Lib.hid ((Own.start w).skip (Fr.none_alloc w (.cells #[.int .i64 k, .int .i64 n, .slice A m c] 80)))
 have HK : Hid (opOk k n l = if k = 1 then decide (n = 0) && (decide (1 ≤ m) && (decide (m ≤ 8) && decide (PE = 0))) else if k = 2 then decide (0 ≤ n) && (decide (n ≤ 1099511627776) && decide (m = 0)) else false) := by
  show _ = _
  unfold opOk
  rw [hlen, show l.all sampOk = decide (PE = 0) by rw [Bool.eq_iff_iff]; simp [hE]]
 obtain ⟨V, hV⟩ : ∃ V, opOk k n l = V := ⟨_, rfl⟩
 rw [hV] at HK ⊢
 have c2 := B0.out.cell 2
 simp only [List.getElem?_toArray, List.getElem?_cons_succ, List.getElem?_cons_zero] at c2
 clear hlen hP hE hr hV
 go_enter Tryz.func68, Tryz.ntmps68
 go_wp2_with fail
 refine (HP.out _ (Fr.none_alloc _ _)).mono ?_
 rintro r w1 ⟨rfl, b1⟩
 have B1 := B0.out.below b1
 have O1 := Lib.hid (O.out.below b1)
 have c0 := B1.cell 0
 have c1 := B1.cell 1
 have d2 := B1.cell 2
 simp only [List.getElem?_toArray, List.getElem?_cons_succ, List.getElem?_cons_zero] at c0 c1 d2
 clear b1 B1 c2
 by_cases k1 : k = 1
 ·subst k1
  have HK2 : Hid (V = (decide (n = 0) && (decide (1 ≤ m) && (decide (m ≤ 8) && decide (PE = 0))))) := HK.out
  clear HK
  by_cases n0 : n = 0
  ·subst n0
   have hn0 : ((0 : Int) == 0) = true := rfl
   by_cases m1 : 1 ≤ m
   ·have m1i : (1 : Int) ≤ (m : Int) := by omega
    by_cases m8 : m ≤ 8
    ·have m8i : (m : Int) ≤ 8 := by omega
     by_cases pe : PE = 0
     ·subst pe
      have hv : Hid (V = true) := by show _ = _; rw [HK2.out]; simp [m1, m8]
      go_wp2_with fail
      go_ret
      exact ⟨by rw [hv.out]; rfl, O1.out.bel⟩
     ·have pe2 : (PE == 0) = false := by simpa using pe
      have hv : Hid (V = false) := by show _ = _; rw [HK2.out]; simp [pe]
      clear pe
      go_wp2_with fail
      go_ret
      exact ⟨by rw [hv.out]; simp [*], O1.out.bel⟩
    ·have m8i : decide ((m : Int) ≤ 8) = false := decide_eq_false (by omega)
     have hv : Hid (V = false) := by show _ = _; rw [HK2.out]; simp [m8]
     go_wp2_with fail
     go_ret
     exact ⟨by rw [hv.out]; simp [*], O1.out.bel⟩
   ·have m1i : decide ((1 : Int) ≤ (m : Int)) = false := decide_eq_false (by omega)
    have hv : Hid (V = false) := by show _ = _; rw [HK2.out]; simp [m1]
    go_wp2_with fail
    go_ret
    exact ⟨by rw [hv.out]; simp [*], O1.out.bel⟩
  ·have hn0 : (n == 0) = false := by simpa using n0
   have hv : Hid (V = false) := by show _ = _; rw [HK2.out]; simp [n0]
   clear n0
   go_wp2_with fail
   go_ret
   exact ⟨by rw [hv.out]; simp [*], O1.out.bel⟩
 ·have k1b : (k == 1) = false := by simpa using k1
  by_cases k2 : k = 2
  ·subst k2
   have HK2 : Hid (V = (decide (0 ≤ n) && (decide (n ≤ 1099511627776) && decide (m = 0)))) := HK.out
   clear HK k1
   by_cases n0 : 0 ≤ n
   ·by_cases n1 : n ≤ 1099511627776
    ·by_cases m0 : m = 0
     ·subst m0
      have hv : Hid (V = true) := by show _ = _; rw [HK2.out]; simp [n0, n1]
      go_wp2_with fail
      go_ret
      exact ⟨by rw [hv.out]; simp [*], O1.out.bel⟩
     ·have m0b : ((m : Int) == 0) = false := by simpa using m0
      have hv : Hid (V = false) := by show _ = _; rw [HK2.out]; simp [m0]
      go_wp2_with fail
      go_ret
      exact ⟨by rw [hv.out]; simp [*], O1.out.bel⟩
    ·have n1b : decide (n ≤ 1099511627776) = false := decide_eq_false n1
     have hv : Hid (V = false) := by show _ = _; rw [HK2.out]; simp [n1]
     go_wp2_with fail
     go_ret
     exact ⟨by rw [hv.out]; simp [*], O1.out.bel⟩
   ·have n0b : decide (0 ≤ n) = false := decide_eq_false n0
    have hv : Hid (V = false) := by show _ = _; rw [HK2.out]; simp [n0]
    go_wp2_with fail
    go_ret
    exact ⟨by rw [hv.out]; simp [*], O1.out.bel⟩
  ·have k2b : (k == 2) = false := by simpa using k2
   have hv : Hid (V = false) := by show _ = _; rw [HK.out, if_neg k1, if_neg k2]
   clear k1 k2
   go_wp2_with fail
   go_ret
   exact ⟨by rw [hv.out]; rfl, O1.out.bel⟩

theorem opOk_parts {k n : Int} {l : List SampV} (h : opOk k n l = true) : (k = 1 ∨ k = 2) ∧ l.length ≤ 8 ∧ l.all sampOk = true := by
 unfold opOk at h
 by_cases k1 : k = 1
 ·rw [if_pos k1] at h
  simp only [Bool.and_eq_true, decide_eq_true_eq] at h
  exact ⟨.inl k1, h.2.2.1, h.2.2.2⟩
 ·rw [if_neg k1] at h
  by_cases k2 : k = 2
  ·rw [if_pos k2] at h
   simp only [Bool.and_eq_true, decide_eq_true_eq] at h
   have : l = [] := List.eq_nil_of_length_eq_zero h.2.2
   subst this
   exact ⟨.inr k2, by simp, rfl⟩
  ·rw [if_neg k2] at h; cases h
theorem pSmall_kind {k : Int} {m : Nat} (hk : k = 1 ∨ k = 2) (hm : m ≤ 8) : pSmall 1 0 [] [k, (m : Int)] = (0, [UInt8.ofNat k.toNat, UInt8.ofNat m]) := by
 have h0 : fitsB 1 0 = true := rfl
 have h1 : fitsB 1 k = true := by rcases hk with rfl | rfl <;> rfl
 have h2 : fitsB 1 (m : Int) = true := by unfold fitsB; simp; omega
 simp [pSmall, smallGo, h0, h1, h2, le]

set_option maxRecDepth 100000 in
set_option maxHeartbeats 4000000 in
theorem opbytes_any (k n : Int) (l : List SampV) (hl : ∀ r ∈ l, r.wf) (A : Option Addr) (m c : Nat) (w : World) (hr : Rd w 3 A m (scells l)) (hm : m ≤ 1000000) :
  Calls Tryz.prog 38 #[.agg #[.int .i64 k, .int .i64 n, .slice A m c]] w fun r w' => r = .returned (bif opOk k n l then .tuple #[.string (bstr (opB k n l)), .int .i64 0] else .tuple #[.string { data := #[] }, .int .i64 1]) ∧ Below w.heap.size w w' := by
 have hlen := hr.samps_len
 have HV : Hid (∀ w', Fr (fun _ => False) w w' → Calls Tryz.prog 68 #[.agg #[.int .i64 k, .int .i64 n, .slice A m c]] w' fun r w'' => r = .returned (.bool (opOk k n l)) ∧ Below w'.heap.size w' w'') := fun w' f => opvalid_any k n l hl A m c w' (hr.fr0 f) hm
 have B0 := Lib.hid (Blk.new w 80 #[.int .i64 k, .int .i64 n, .slice A m c])
 have O := Lib.hid ((Own.start w).skip (Fr.none_alloc w (.cells #[.int .i64 k, .int .i64 n, .slice A m c] 80)))
 cases hok : opOk k n l
 ·rw [hok] at HV
  clear hok hr hlen
  go_enter Tryz.func38, Tryz.ntmps38
  go_wp2_with fail
  refine (HV.out _ (Fr.none_alloc _ _)).mono ?_
  rintro r w1 ⟨rfl, b1⟩
  have O1 := Lib.hid (O.out.below b1)
  clear b1
  go_wp2_with fail
  go_ret2
  exact ⟨rfl, O1.out.bel⟩
 ·rw [hok] at HV
  obtain ⟨hk, hm8, hall⟩ := opOk_parts hok
  rw [hlen] at hm8
  have HP : Hid (∀ w', Fr (fun _ => False) w w' → Calls Tryz.prog 70 #[.slice A m c] w' fun e w'' => e = .returned (.tuple #[.string (bstr (l.flatMap sampB)), .int .i64 0]) ∧ Below w'.heap.size w' w'') := fun w' f => by
   have := sampsput_any l hl A m c w' (hr.fr0 f) (by omega)
   rwa [hall] at this
  have hTz : (bstr (l.flatMap sampB)).size ≤ 300 := by rw [bstr_size, sampsB_len hall, hlen]; omega
  have hB : opB k n l = ([UInt8.ofNat k.toNat, UInt8.ofNat m] ++ le8 [n]) ++ l.flatMap sampB := by unfold opB; rw [hlen]
  obtain ⟨T, hT⟩ : ∃ T, bstr (l.flatMap sampB) = T := ⟨_, rfl⟩
  obtain ⟨S, hS⟩ : ∃ S, bstr ([UInt8.ofNat k.toNat, UInt8.ofNat m] ++ le8 [n]) = S := ⟨_, rfl⟩
  have hST : Hid (S ++ T = bstr (opB k n l)) := by show _ = _; rw [← hS, ← hT, bstr_append, hB]
  have hSz : S.size ≤ 10 := by rw [← hS, bstr_size, List.length_append, le8_len]; simp
  rw [hT] at HP hTz
  have HS := Lib.hid hS
  have HK := Lib.hid hk
  have HM := Lib.hid hm8
  clear hok hr hlen hB hT hS hall hk hm8
  go_enter Tryz.func38, Tryz.ntmps38
  go_wp2_with fail
  refine (HV.out _ (Fr.none_alloc _ _)).mono ?_
  rintro r w1 ⟨rfl, b1⟩
  have O1 := Lib.hid (O.out.below b1)
  have B1 := Lib.hid (B0.out.below b1)
  have c2 := B1.out.cell 2
  simp only [List.getElem?_toArray, List.getElem?_cons_succ, List.getElem?_cons_zero] at c2
  clear b1
  go_wp2_with fail
  refine (HP.out _ (Fr.b0 O1.out.bel)).mono ?_
  rintro r w2 ⟨rfl, b2⟩
  have O2 := Lib.hid (O1.out.below b2)
  have B2 := Lib.hid (B1.out.below b2)
  clear b2 c2
  have c0 := fun o => (B2.out.alloc o).cell 0
  have c2 := fun o => (B2.out.alloc o).cell 2
  simp only [List.getElem?_toArray, List.getElem?_cons_succ, List.getElem?_cons_zero] at c0 c2
  go_wp2_with fail
  have p0 := (Pk.new w2).1
  have q0 := ((Own.start w2).skip (Fr.none_alloc w2 (.cells #[.int .i64 0, .slice none 0 0] 127))).also (Pk.new w2).2
  refine (small_any _ _ 0 1 [] [k, (m : Int)] _ 2 2 _ (p0.fr (Fr.none_alloc _ _) (fun _ _ h => h)) (Rd.new' (by simp) _ _ _ rfl) (adF_new' (by simp) p0.lt) (by simp)).mono ?_
  rw [pSmall_kind HK.out HM.out]
  rintro r w3 ⟨rfl, F1, p1, m1⟩
  have Q1 := Lib.hid ((q0.skip (Fr.none_alloc _ _)).mv m1)
  have P1 := Lib.hid p1
  clear p0 q0 m1 p1 c0 c2
  have c1 := (B2.out.below Q1.out.bel).cell 1
  simp only [List.getElem?_toArray, List.getElem?_cons_succ, List.getElem?_cons_zero] at c1
  go_wp2_with fail
  refine (ints_any _ _ 0 _ [n] _ 1 1 _ (P1.out.fr (Fr.none_alloc _ _) (fun _ _ h => h)) (Rd.new _ _ _ _ rfl) (adF_new P1.out.lt) (by simp)).mono ?_
  rw [pW_zero]
  rintro r w4 ⟨rfl, F2, p2, m2⟩
  have Q2 := Lib.hid ((Q1.out.skip (Fr.none_alloc _ _)).mv m2)
  have P2 := Lib.hid p2
  clear m2 p2 c1 P1 Q1
  have HD := Lib.hid (done_at w2.heap.size F2 _ S w4 P2.out HS.out)
  go_wp2_with fail
  refine (HD.out).mono ?_
  rintro r w5 ⟨rfl, rfl⟩
  have O5 := Lib.hid (O2.out.below Q2.out.bel)
  clear HD
  go_wp2_with fail
  go_ret2
  exact ⟨by first | (rw [← hST.out]; rfl) | rfl, O5.out.bel⟩

def rdK (b : List UInt8) : Int := (ofLe (b.take 1) : Nat)
def rdN (b : List UInt8) : Int := sgn (ofLe ((b.drop 2).take 8))
def readOk (b : List UInt8) : Bool := decide (sgetE (b.drop 10) = 0) && opOk (rdK b) (rdN b) (sgetL (b.drop 10)) && decide (opB (rdK b) (rdN b) (sgetL (b.drop 10)) = b)
theorem uSmall_in {b : List UInt8} (h : 1 ≤ b.length) : uSmall 1 0 b = (0, b.drop 1, ofLe (b.take 1)) := by
 unfold uSmall
 rw [if_pos rfl, if_pos (by rfl), show Int.toNat 1 = 1 from rfl, uTake_in h]
set_option maxRecDepth 100000 in
set_option maxHeartbeats 4000000 in
theorem opread_any (b : List UInt8) (hb : 10 ≤ b.length) (hb2 : b.length ≤ 1000000) (w : World) :
  Calls Tryz.prog 39 #[.string (bstr b)] w fun r w' => (readOk b = true → ∃ A m c, r = .returned (.tuple #[.agg #[.int .i64 (rdK b), .int .i64 (rdN b), .slice A m c], .int .i64 0]) ∧ w'.ownsRow w.heap.size 44 3 (.slice A m c) m (scells (sgetL (b.drop 10)))) ∧ (readOk b = false → r = .returned (.tuple #[.agg #[.int .i64 0, .int .i64 0, .slice none 0 0], .int .i64 6])) ∧ Below w.heap.size w w' := by
 have HF : Hid (∀ w', Calls Tryz.prog 74 #[.string (bstr b)] w' fun r w'' => ∃ g, r = .returned (.pointer (some ⟨g, 0, none⟩)) ∧ Up w'' g 0 b ∧ Below w'.heap.size w' w'' ∧ w'.heap.size ≤ g) := fun w' => from_any b w' (by omega)
 have HS1 : Hid (∀ g w', Up w' g 0 b → Calls Tryz.prog 75 #[.pointer (some ⟨g, 0, none⟩), .int .i64 1] w' fun r w'' => r = .returned (.int .i64 (rdK b)) ∧ Up w'' g 0 (b.drop 1) ∧ Fr (fun k => k = g) w' w'') := fun g w' h => by
  have := usmall_any g 0 1 b w' h (by omega)
  rwa [uSmall_in (by omega)] at this
 have HS2 : Hid (∀ g w', Up w' g 0 (b.drop 1) → Calls Tryz.prog 75 #[.pointer (some ⟨g, 0, none⟩), .int .i64 1] w' fun r w'' => r = .returned (.int .i64 (ofLe ((b.drop 1).take 1) : Nat)) ∧ Up w'' g 0 (b.drop 2) ∧ Fr (fun k => k = g) w' w'') := fun g w' h => by
  have := usmall_any g 0 1 (b.drop 1) w' h (by rw [List.length_drop]; omega)
  rwa [uSmall_in (by rw [List.length_drop]; omega), List.drop_drop] at this
 have HI : Hid (∀ g w', Up w' g 0 (b.drop 2) → Calls Tryz.prog 76 #[.pointer (some ⟨g, 0, none⟩)] w' fun r w'' => r = .returned (.int .i64 (rdN b)) ∧ Up w'' g 0 (b.drop 10) ∧ Fr (fun k => k = g) w' w'') := fun g w' h => by
  have := int_any g 0 (b.drop 2) w' h (by rw [List.length_drop]; omega)
  rwa [uTake_in (by rw [List.length_drop]; omega), List.drop_drop] at this
 have HR : Hid (∀ g w', Up w' g 0 (b.drop 10) → Calls Tryz.prog 78 #[.pointer (some ⟨g, 0, none⟩)] w' fun r w'' => r = .returned (.string (bstr (b.drop 10))) ∧ Up w'' g 0 [] ∧ Fr (fun k => k = g) w' w'') := fun g w' h => by
  have := rest_any g 0 (b.drop 10) w' h (by rw [List.length_drop]; omega)
  rwa [uTake_full] at this
 have HGS : Hid (∀ w', Calls Tryz.prog 77 #[.string (bstr (b.drop 10))] w' fun r w'' => ∃ A n c, r = .returned (.tuple #[.slice A n c, .int .i64 (sgetE (b.drop 10))]) ∧ w''.ownsRow w'.heap.size 44 3 (.slice A n c) n (scells (sgetL (b.drop 10))) ∧ Below w'.heap.size w' w'') := fun w' => gs_any (b.drop 10) (by rw [List.length_drop]; omega) w'
 have hgl : Hid ((sgetL (b.drop 10)).length ≤ 1000000) := by
  show _ ≤ _
  have := sgetL_len (b.drop 10); rw [List.length_drop] at this; omega
 have HW := Lib.hid (sgetL_wf (b.drop 10))
 have HOK : Hid (readOk b = (decide (sgetE (b.drop 10) = 0) && opOk (rdK b) (rdN b) (sgetL (b.drop 10)) && decide (opB (rdK b) (rdN b) (sgetL (b.drop 10)) = b))) := rfl
 have HCmp : Hid (((bstr (opB (rdK b) (rdN b) (sgetL (b.drop 10)))).toList != (bstr b).toList) = !decide (opB (rdK b) (rdN b) (sgetL (b.drop 10)) = b)) := by
  show _ = _
  rw [Lib.toList_data, Lib.toList_data, bstr_list, bstr_list]
  rw [Bool.eq_iff_iff]; simp
 have hz := bstr_size b
 obtain ⟨L, hL⟩ : ∃ L, sgetL (b.drop 10) = L := ⟨_, rfl⟩
 obtain ⟨E, hE⟩ : ∃ E, sgetE (b.drop 10) = E := ⟨_, rfl⟩
 obtain ⟨K, hK⟩ : ∃ K, rdK b = K := ⟨_, rfl⟩
 obtain ⟨N, hN⟩ : ∃ N, rdN b = N := ⟨_, rfl⟩
 obtain ⟨G, hG⟩ : ∃ G, readOk b = G := ⟨_, rfl⟩
 obtain ⟨S, hS⟩ : ∃ S, bstr b = S := ⟨_, rfl⟩
 obtain ⟨RS, hRS⟩ : ∃ RS, bstr (b.drop 10) = RS := ⟨_, rfl⟩
 obtain ⟨b10, hb10⟩ : ∃ x, b.drop 10 = x := ⟨_, rfl⟩
 obtain ⟨b1, hb1⟩ : ∃ x, b.drop 1 = x := ⟨_, rfl⟩
 obtain ⟨b2, hb2'⟩ : ∃ x, b.drop 2 = x := ⟨_, rfl⟩
 obtain ⟨k2, hk2⟩ : ∃ x, ((ofLe ((b.drop 1).take 1) : Nat) : Int) = x := ⟨_, rfl⟩
 rw [hL] at hgl HW HOK HCmp HGS ⊢
 rw [hE] at HOK HGS
 rw [hK] at HOK HCmp HS1 ⊢
 rw [hN] at HOK HCmp HI ⊢
 rw [hG] at HOK ⊢
 rw [hS] at HF HCmp hz ⊢
 rw [hRS] at HGS HR
 rw [hb10] at HI HR
 rw [hk2, hb1, hb2'] at HS2
 rw [hb1] at HS1
 rw [hb2'] at HI
 have hSi : ¬ (S.size : Int) < 10 := by omega
 have hSz : S.size ≤ 1000000 := by omega
 have HB : Hid (∀ (M : Option Addr) (q d : Nat) w', q ≤ 1000000 → Rd w' 3 M q (scells L) → Calls Tryz.prog 38 #[.agg #[.int .i64 K, .int .i64 N, .slice M q d]] w' fun r w'' => r = .returned (bif opOk K N L then .tuple #[.string (bstr (opB K N L)), .int .i64 0] else .tuple #[.string { data := #[] }, .int .i64 1]) ∧ Below w'.heap.size w' w'') := fun M q d w' hq h => opbytes_any K N L HW.out M q d w' h hq
 have hBz : Hid (opOk K N L = true → (bstr (opB K N L)).size ≤ 300) := fun h => by
  obtain ⟨_, h8, hall⟩ := opOk_parts h
  rw [bstr_size]
  unfold opB
  rw [List.length_append, List.length_append, le8_len, sampsB_len hall]
  simp; omega
 clear hL hE hK hN hG hS hRS hb10 hb1 hb2' hk2 hz hb hb2
 go_enter Tryz.func39, Tryz.ntmps39
 go_wp2_with fail
 refine (HF.out _).mono ?_
 rintro r w1 ⟨g, rfl, u1, f1, hg⟩
 have R1 := Lib.hid ((Blk.new w 80 #[.int .i64 0, .int .i64 0, .slice none 0 0]).below f1)
 have hgn : Hid (w.heap.size < g) := by have h := hg; simp at h; exact h
 have O1 := Lib.hid ((((Own.start w).skip (Fr.none_alloc w (.cells #[.int .i64 0, .int .i64 0, .slice none 0 0] 80))).below f1).also (G := fun j => j = g) (fun j hj => by have := hgn.out; omega))
 have U1 := Lib.hid u1
 clear u1 f1 hg HF hSi hSz
 go_wp2_with fail
 refine (HS1.out g w1 U1.out).mono ?_
 rintro r w2 ⟨rfl, u2, f2⟩
 have U2 := Lib.hid u2
 have R2 := Lib.hid (R1.out.fr f2 (by have := hgn.out; omega))
 have O2 := Lib.hid (O1.out.fr f2)
 have hg2 := Lib.hid u2.lt
 clear u2 f2 U1 R1 O1
 go_wp2_with fail
 refine (HS2.out g _ (U2.out.alloc (.cells #[.int .i64 K, .int .i64 0, .slice none 0 0] 80))).mono ?_
 rintro r w3 ⟨rfl, u3, f3⟩
 have U3 := Lib.hid u3
 have P3 := Lib.hid ((Blk.new w2 80 #[.int .i64 K, .int .i64 0, .slice none 0 0]).fr f3 (by have := hg2.out; omega))
 have R3 := Lib.hid ((R2.out.alloc (.cells #[.int .i64 K, .int .i64 0, .slice none 0 0] 80)).fr f3 (by have := hgn.out; omega))
 have O3 := Lib.hid ((O2.out.skip (Fr.none_alloc w2 (.cells #[.int .i64 K, .int .i64 0, .slice none 0 0] 80))).fr f3)
 have hRp : Hid (w.heap.size < w2.heap.size) := R2.out.lt
 clear u3 f3 U2 R2 O2
 obtain ⟨p, hp⟩ : ∃ p, w2.heap.size = p := ⟨_, rfl⟩
 rw [hp] at P3 hg2 hRp ⊢
 clear hp
 go_wp2_with fail
 refine (HI.out g w3 U3.out).mono ?_
 rintro r w4 ⟨rfl, u4, f4⟩
 have U4 := Lib.hid u4
 have P4 := P3.out.fr f4 (by have := hg2.out; omega)
 have HP4 := Lib.hid P4
 have R4 := Lib.hid (R3.out.fr f4 (by have := hgn.out; omega))
 have O4 := Lib.hid (O3.out.fr f4)
 have s1 := P4.cell 1
 have z1 := P4.frozen 1
 simp only [List.getElem?_toArray, List.getElem?_cons_succ, List.getElem?_cons_zero] at s1
 clear u4 f4 U3 R3 O3 P3 P4
 go_wp2_with fail
 clear s1 z1
 obtain ⟨W5, hW5⟩ : ∃ W5, W5 = w4.setCell ⟨p, 1, none⟩ (.int .i64 N) := ⟨_, rfl⟩
 rw [← hW5]
 have F5 : Fr (fun i => i = p) w4 W5 := by rw [hW5]; exact (Fr.refl (fun i => i = p) w4).setCell (p := ⟨p, 1, none⟩) (.inl rfl) _
 have P5 : Hid (Blk W5 p 80 #[.int .i64 K, .int .i64 N, .slice none 0 0]) := by
  show Blk _ _ _ _
  rw [hW5]; simpa using HP4.out.set_ 1 (.int .i64 N)
 have U5 := Lib.hid (U4.out.fr F5 (by have := hg2.out; omega))
 have R5 := Lib.hid (R4.out.fr F5 (by have := hRp.out; omega))
 have O5 := Lib.hid ((O4.out.also (G := fun i => i = g ∨ i = p) (fun i hi => by have := hgn.out; have := hRp.out; omega)).fr (F5.mono (fun i hi => .inl (.inr hi))))
 clear hW5 F5 HP4 U4 R4 O4
 refine (HR.out g W5 U5.out).mono ?_
 rintro r w6 ⟨rfl, u6, f6⟩
 have P6 := Lib.hid (P5.out.fr f6 (by have := hg2.out; omega))
 have R6 := Lib.hid (R5.out.fr f6 (by have := hgn.out; omega))
 have O6 := Lib.hid (O5.out.fr (f6.mono (fun i hi => .inl (.inl hi))))
 clear u6 f6 U5 R5 O5 P5
 go_wp2_with fail
 refine (HGS.out w6).mono ?_
 rintro r w7 ⟨M, q, d, rfl, om, b7⟩
 have OM := Lib.hid (own_le om O6.out.bel.size)
 have OMl := Lib.hid (fun i hi => (om.lt i hi).1)
 have P7 := P6.out.below b7
 have HP7 := Lib.hid P7
 have R7 := Lib.hid (R6.out.below b7)
 have O7 := Lib.hid (O6.out.below b7)
 have hq : Hid (q ≤ 1000000) := by have := om.1; unfold scells at this; rw [vflat_len samp_len] at this; have := hgl.out; show q ≤ _; omega
 have hp6 := Lib.hid P6.out.lt
 have s0 := P7.cell 0
 have s1 := P7.cell 1
 have s2 := P7.cell 2
 have z2 := P7.frozen 2
 simp only [List.getElem?_toArray, List.getElem?_cons_succ, List.getElem?_cons_zero] at s0 s1 s2
 clear om b7 P7 P6 R6 O6
 go_wp2_with fail
 clear s0 s1 s2 z2
 obtain ⟨W8, hW8⟩ : ∃ W8, W8 = w7.setCell ⟨p, 2, none⟩ (.slice M q d) := ⟨_, rfl⟩
 rw [← hW8]
 have F8 : Fr (fun i => i = p) w7 W8 := by rw [hW8]; exact (Fr.refl (fun i => i = p) w7).setCell (p := ⟨p, 2, none⟩) (.inl rfl) _
 have P8 : Hid (Blk W8 p 80 #[.int .i64 K, .int .i64 N, .slice M q d]) := by
  show Blk _ _ _ _
  rw [hW8]; simpa using HP7.out.set_ 2 (.slice M q d)
 have hMp : Hid (∀ i, rowF (.slice M q d) i → i ≠ p) := fun i hi e => by have := OMl.out i hi; have := hp6.out; omega
 have OM8 := Lib.hid (own_fr OM.out F8 (fun i hi => hMp.out i hi))
 have R8 := Lib.hid (R7.out.fr F8 (by have := hRp.out; omega))
 have O8 := Lib.hid (O7.out.fr (F8.mono (fun i hi => .inl (.inr hi))))
 clear hW8 F8 HP7 R7 O7 OM
 refine (HB.out M q d W8 hq.out (Rd.of_own OM8.out)).mono ?_
 rintro r w9 ⟨rfl, b9⟩
 have OM9 := Lib.hid (own_fr0 OM8.out (Fr.b0 b9))
 have R9 := R8.out.below b9
 have P9 := P8.out.below b9
 have O9 := Lib.hid (O8.out.below b9)
 have a0 := R9.cell 0
 have a1 := R9.cell 1
 have a2 := R9.cell 2
 have y0 := R9.frozen 0
 have y1 := R9.frozen 1
 have y2 := R9.frozen 2
 have s0 := P9.cell 0
 have s1 := P9.cell 1
 have s2 := P9.cell 2
 simp only [List.getElem?_toArray, List.getElem?_cons_succ, List.getElem?_cons_zero] at a0 a1 a2 s0 s1 s2
 have HR9 := Lib.hid R9
 have hOMR : Hid (∀ i, rowF (.slice M q d) i → i ≠ w.heap.size) := fun i hi e => by have := OMl.out i hi; have := hp6.out; have := hRp.out; omega
 clear b9 R9 P9 R8 P8 O8 OM8
 have HEnd : Hid (∀ (x y : Int) (z : Value), Below w.heap.size w (((w9.setCell ⟨w.heap.size, 0, none⟩ (.int .i64 x)).setCell ⟨w.heap.size, 1, none⟩ (.int .i64 y)).setCell ⟨w.heap.size, 2, none⟩ z) ∧ Blk (((w9.setCell ⟨w.heap.size, 0, none⟩ (.int .i64 x)).setCell ⟨w.heap.size, 1, none⟩ (.int .i64 y)).setCell ⟨w.heap.size, 2, none⟩ z) w.heap.size 80 #[.int .i64 x, .int .i64 y, z] ∧
   (((w9.setCell ⟨w.heap.size, 0, none⟩ (.int .i64 x)).setCell ⟨w.heap.size, 1, none⟩ (.int .i64 y)).setCell ⟨w.heap.size, 2, none⟩ z).ownsRow w.heap.size 44 3 (.slice M q d) q (scells L)) := fun x y z => by
  have F : Fr (fun i => i = w.heap.size) w9 (((w9.setCell ⟨w.heap.size, 0, none⟩ (.int .i64 x)).setCell ⟨w.heap.size, 1, none⟩ (.int .i64 y)).setCell ⟨w.heap.size, 2, none⟩ z) := Fr.set3 (F := fun i => i = w.heap.size) (Fr.refl _ w9) (g := w.heap.size) (.inl rfl) _ _ _
  exact ⟨((O9.out.also (G := fun i => i = w.heap.size) (fun i hi => by omega)).fr F).bel, HR9.out.set3, own_fr OM9.out F (fun i hi => hOMR.out i hi)⟩
 cases hop : opOk K N L
 ·have hg0 : Hid (G = false) := by show _ = _; rw [HOK.out, hop, Bool.and_false, Bool.false_and]
  clear hop
  by_cases hE : (E != 0) = true
  all_goals
   go_wp2_with fail
   clear a0 a1 a2 y0 y1 y2 s0 s1 s2
   obtain ⟨W, hW⟩ : ∃ W, W = ((w9.setCell ⟨w.heap.size, 0, none⟩ (.int .i64 0)).setCell ⟨w.heap.size, 1, none⟩ (.int .i64 0)).setCell ⟨w.heap.size, 2, none⟩ (.slice none 0 0) := ⟨_, rfl⟩
   rw [← hW]
   obtain ⟨e1, e2, _⟩ := HEnd.out 0 0 (.slice none 0 0)
   rw [← hW] at e1 e2
   have a0 := e2.cell 0
   have a1 := e2.cell 1
   have a2 := e2.cell 2
   simp only [List.getElem?_toArray, List.getElem?_cons_succ, List.getElem?_cons_zero] at a0 a1 a2
   refine bodyPost_ret (v := .tuple #[.agg #[.int .i64 0, .int .i64 0, .slice none 0 0], .int .i64 6]) ?_ rfl ⟨fun h => (by rw [hg0.out] at h; cases h), fun _ => rfl, e1⟩
   simp [results, Tryz.results39, go_sem, a0, a1, a2]
 ·have hsz := hBz.out hop
  by_cases hE : E = 0
  ·subst hE
   by_cases heq : opB K N L = b
   ·have hg0 : Hid (G = true) := by show _ = _; rw [HOK.out, hop, decide_eq_true heq]; rfl
    have hC := HCmp.out
    rw [decide_eq_true heq, Bool.not_true] at hC
    obtain ⟨T, hT⟩ : ∃ T, bstr (opB K N L) = T := ⟨_, rfl⟩
    rw [hT] at hC hsz ⊢
    have hC2 : (T.toList == S.toList) = true := by simpa using hC
    clear hop heq hT
    go_wp2_with fail
    clear a0 a1 a2 y0 y1 y2 s0 s1 s2
    obtain ⟨W, hW⟩ : ∃ W, W = ((w9.setCell ⟨w.heap.size, 0, none⟩ (.int .i64 K)).setCell ⟨w.heap.size, 1, none⟩ (.int .i64 N)).setCell ⟨w.heap.size, 2, none⟩ (.slice M q d) := ⟨_, rfl⟩
    rw [← hW]
    obtain ⟨e1, e2, e3⟩ := HEnd.out K N (.slice M q d)
    rw [← hW] at e1 e2 e3
    have a0 := e2.cell 0
    have a1 := e2.cell 1
    have a2 := e2.cell 2
    simp only [List.getElem?_toArray, List.getElem?_cons_succ, List.getElem?_cons_zero] at a0 a1 a2
    refine bodyPost_ret (v := .tuple #[.agg #[.int .i64 K, .int .i64 N, .slice M q d], .int .i64 0]) ?_ rfl ⟨fun _ => ⟨M, q, d, rfl, e3⟩, fun h => (by rw [hg0.out] at h; cases h), e1⟩
    simp [results, Tryz.results39, go_sem, a0, a1, a2]
   ·have hg0 : Hid (G = false) := by show _ = _; rw [HOK.out, decide_eq_false heq, Bool.and_false]
    have hC := HCmp.out
    rw [decide_eq_false heq, Bool.not_false] at hC
    obtain ⟨T, hT⟩ : ∃ T, bstr (opB K N L) = T := ⟨_, rfl⟩
    rw [hT] at hC hsz ⊢
    have hC2 : (T.toList == S.toList) = false := by simpa using hC
    clear hop heq hT
    go_wp2_with fail
    clear a0 a1 a2 y0 y1 y2 s0 s1 s2
    obtain ⟨W, hW⟩ : ∃ W, W = ((w9.setCell ⟨w.heap.size, 0, none⟩ (.int .i64 0)).setCell ⟨w.heap.size, 1, none⟩ (.int .i64 0)).setCell ⟨w.heap.size, 2, none⟩ (.slice none 0 0) := ⟨_, rfl⟩
    rw [← hW]
    obtain ⟨e1, e2, _⟩ := HEnd.out 0 0 (.slice none 0 0)
    rw [← hW] at e1 e2
    have a0 := e2.cell 0
    have a1 := e2.cell 1
    have a2 := e2.cell 2
    simp only [List.getElem?_toArray, List.getElem?_cons_succ, List.getElem?_cons_zero] at a0 a1 a2
    refine bodyPost_ret (v := .tuple #[.agg #[.int .i64 0, .int .i64 0, .slice none 0 0], .int .i64 6]) ?_ rfl ⟨fun h => (by rw [hg0.out] at h; cases h), fun _ => rfl, e1⟩
    simp [results, Tryz.results39, go_sem, a0, a1, a2]
  ·have hg0 : Hid (G = false) := by show _ = _; rw [HOK.out, decide_eq_false hE, Bool.false_and, Bool.false_and]
   have hE2 : (E != 0) = true := by simpa using hE
   clear hop hE
   go_wp2_with fail
   clear a0 a1 a2 y0 y1 y2 s0 s1 s2
   obtain ⟨W, hW⟩ : ∃ W, W = ((w9.setCell ⟨w.heap.size, 0, none⟩ (.int .i64 0)).setCell ⟨w.heap.size, 1, none⟩ (.int .i64 0)).setCell ⟨w.heap.size, 2, none⟩ (.slice none 0 0) := ⟨_, rfl⟩
   rw [← hW]
   obtain ⟨e1, e2, _⟩ := HEnd.out 0 0 (.slice none 0 0)
   rw [← hW] at e1 e2
   have a0 := e2.cell 0
   have a1 := e2.cell 1
   have a2 := e2.cell 2
   simp only [List.getElem?_toArray, List.getElem?_cons_succ, List.getElem?_cons_zero] at a0 a1 a2
   refine bodyPost_ret (v := .tuple #[.agg #[.int .i64 0, .int .i64 0, .slice none 0 0], .int .i64 6]) ?_ rfl ⟨fun h => (by rw [hg0.out] at h; cases h), fun _ => rfl, e1⟩
   simp [results, Tryz.results39, go_sem, a0, a1, a2]
end Go.Proofs.YtkfdgodngbinlaaGreatDoor
