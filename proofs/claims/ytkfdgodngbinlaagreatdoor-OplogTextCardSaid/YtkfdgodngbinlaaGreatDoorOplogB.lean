/- Walks of sedimentlaw20.valid, alive. -/
import Derived.Test.YtkfdgodngbinlaaGreatDoorOplog
import Derived.Test.YtkfdgodngbinlaaGreatDoorShA
namespace Go.Proofs.YtkfdgodngbinlaaGreatDoor
set_option linter.all false
open Go.RowKit

theorem tick_ok : opOk 2 5 [] = true := rfl
theorem tick_len : (opB 2 5 []).length = 10 := by unfold opB; simp [le8_len]
theorem opB_rd {k n : Int} {l : List SampV} (hn : in64 n) (hl : ∀ r ∈ l, r.wf) (hok : opOk k n l = true) : rdK (opB k n l) = k ∧ rdN (opB k n l) = n ∧ sgetL ((opB k n l).drop 10) = l ∧ sgetE ((opB k n l).drop 10) = 0 := by
 obtain ⟨hk, h8, hall⟩ := opOk_parts hok
 have hd : (opB k n l).drop 10 = l.flatMap sampB := by
  unfold opB
  rw [List.drop_left' (by rw [List.length_append, le8_len]; rfl)]
 have hz : (l.flatMap sampB).length = 32 * l.length := sampsB_len hall
 have hq : (l.flatMap sampB).length / 32 = l.length := by omega
 refine ⟨?_, ?_, ?_, ?_⟩
 ·unfold rdK opB
  rcases hk with rfl | rfl <;> rfl
 ·unfold rdN opB
  rw [List.append_assoc, show ([UInt8.ofNat k.toNat, UInt8.ofNat l.length] ++ (le8 [n] ++ l.flatMap sampB)).drop 2 = le8 [n] ++ l.flatMap sampB from rfl, List.take_left' (by rw [le8_len]; rfl), le8_one, sgn_le8 hn]
 ·rw [hd]
  unfold sgetL
  rw [if_pos (by omega), hq, sampsOk_back hl hall, cond_true, sampsRd_back hl hall]
 ·rw [hd]
  unfold sgetE
  rw [if_pos (by omega), hq, sampsOk_back hl hall, cond_true]
theorem readOk_back {k n : Int} {l : List SampV} (hn : in64 n) (hl : ∀ r ∈ l, r.wf) (hok : opOk k n l = true) : readOk (opB k n l) = true := by
 obtain ⟨h1, h2, h3, h4⟩ := opB_rd hn hl hok
 unfold readOk
 rw [h1, h2, h3, h4, hok]
 simp
set_option maxRecDepth 100000 in
set_option maxHeartbeats 4000000 in
theorem alive20_any (w : World) : Calls Tryz.prog 36 #[] w fun r w' => r = .returned (.bool true) ∧ Below w.heap.size w w' := by
 have HB : Hid (∀ w', Calls Tryz.prog 38 #[.agg #[.int .i64 2, .int .i64 5, .slice none 0 0]] w' fun r w'' => r = .returned (.tuple #[.string (bstr (opB 2 5 [])), .int .i64 0]) ∧ Below w'.heap.size w' w'') := fun w' => by
  have := opbytes_any 2 5 [] (fun r h => by cases h) none 0 0 w' Rd.nil_ (by decide)
  rwa [tick_ok] at this
 have h5 : in64 5 := by unfold in64; decide
 obtain ⟨r1, r2, r3, _⟩ := opB_rd h5 (l := []) (fun r h => by cases h) tick_ok
 have HR : Hid (∀ w', Calls Tryz.prog 39 #[.string (bstr (opB 2 5 []))] w' fun r w'' => (∃ A c, r = .returned (.tuple #[.agg #[.int .i64 2, .int .i64 5, .slice A 0 c], .int .i64 0])) ∧ Below w'.heap.size w' w'') := fun w' => by
  refine (opread_any (opB 2 5 []) (by rw [tick_len]; decide) (by rw [tick_len]; decide) w').mono ?_
  rintro r w'' ⟨e1, _, b⟩
  obtain ⟨A, m, c, e, ho⟩ := e1 (readOk_back h5 (fun r h => by cases h) tick_ok)
  rw [r1, r2] at e
  rw [r3] at ho
  have hm : m = 0 := by have := ho.1; simp [scells] at this; omega
  subst hm
  exact ⟨⟨A, c, e⟩, b⟩
 have HV : Hid (∀ A c w', Calls Tryz.prog 68 #[.agg #[.int .i64 2, .int .i64 5, .slice A 0 c]] w' fun r w'' => r = .returned (.bool true) ∧ Below w'.heap.size w' w'') := fun A c w' => by
  have := opvalid_any 2 5 [] (fun r h => by cases h) A 0 c w' ⟨rfl, fun h => absurd h (by omega)⟩ (by decide)
  rwa [tick_ok] at this
 have hz : (bstr (opB 2 5 [])).size = 10 := by rw [bstr_size, tick_len]
 obtain ⟨S, hS⟩ : ∃ S, bstr (opB 2 5 []) = S := ⟨_, rfl⟩
 rw [hS] at HB HR hz
 have hz2 : ((S.size : Int) == 10) = true := by rw [hz]; rfl
 clear r1 r2 r3 hS hz h5
 go_enter Tryz.func36, Tryz.ntmps36
 go_wp2_with fail
 refine (HB.out _).mono ?_
 rintro r w1 ⟨rfl, b1⟩
 have B1 := Lib.hid b1
 clear b1
 go_wp2_with fail
 refine (HR.out _).mono ?_
 rintro r w2 ⟨⟨A, d, rfl⟩, b2⟩
 have B2 := Lib.hid (B1.out.trans (b2.mono B1.out.size))
 clear b2
 go_wp2_with fail
 refine (HV.out A d _).mono ?_
 rintro r w3 ⟨rfl, b3⟩
 have B3 := Lib.hid ((B2.out.alloc B2.out.size (.cells #[.int .i64 2, .int .i64 5, .slice A 0 d] 80)).trans (b3.mono (by simp; have := B2.out.size; omega)))
 clear b3
 go_wp2_with fail
 go_ret
 exact ⟨rfl, B3.out⟩
end Go.Proofs.YtkfdgodngbinlaaGreatDoor
