/- Walk of sedimentlaw14.alive. -/
import Derived.Test.YtfhhepfkjndkgaaGreatShBegin
import Derived.Test.YtfhhepfkjndkgaaGreatShStep
import Derived.Test.YtfhhepfkjndkgaaGreatShLoad
import Derived.Test.YtfhhepfkjndkgaaGreatAlive
import Derived.Test.YtfhhepfkjndkgaaGreatShA
namespace Go.Proofs.YtfhhepfkjndkgaaGreat
set_option linter.all false
open Go.RowKit

def a14N : ByteArray := { data := #[97] }
def a14S : List SampV := [⟨a14N, 21, 4⟩]
def a14X0 : TiersX := newX webN webT 50 []
def a14X : TiersX := putX a14X0 a14S
theorem a14_new : newE webN webT 50 [] = 0 := by decide +kernel
theorem a14_put : putE a14X0 a14S = 0 := by decide +kernel
theorem a14_bound : 2 * ((needX (buildX a14X fifN fifT (srcs a14X.now webT [] fifT)) : Nat) : Int) + fillsV fifT = 8 := by decide +kernel
theorem a14_need : needX (buildX a14X fifN fifT (srcs a14X.now webT [] fifT)) = 2 := by decide +kernel
theorem a14_at : atV fifT 0 = ((1, ((0 : Nat) : Int), 0), true) := by decide +kernel
theorem a14_len : (addsV 1 (keepT (inS 0 1) []) (keepT (notS 0 1) ((buildX a14X fifN fifT (srcs a14X.now webT [] fifT)).tabs.getD 0 []))).length = 1 := by decide +kernel
theorem a14_tabs : ∀ m ∈ (fifT.map fun _ => ([] : List RecV)), m = [] := by
 intro m hm
 obtain ⟨_, _, rfl⟩ := List.mem_map.1 hm
 rfl
theorem a14_swf : ∀ s ∈ a14S, s.wf := by
 intro s hs
 simp only [a14S, List.mem_cons, List.not_mem_nil, or_false] at hs
 subst hs
 unfold SampV.wf in64 maxLen
 decide
set_option maxRecDepth 100000 in
set_option maxHeartbeats 8000000 in
theorem alive14_any (w : World) : Calls Tryz.prog 10 #[] w fun r w' => r = .returned (.bool true) ∧ Below w.heap.size w w' := by
 have HW := Lib.hid web_any
 have HX := Lib.hid fif_any
 have PW : Hid (PolOk webN webT) := ⟨web_ok, wf_web⟩
 have PF : Hid (PolOk fifN fifT) := ⟨fif_ok, wf_fif⟩
 have HN : Hid (∀ A c W, w.heap.size ≤ W.heap.size → 2 ≤ c → Rd W 4 A 2 (tcells webT) → Calls Tryz.prog 22 #[.agg #[.string webN, .slice A 2 c], .int .i64 50, .slice none 0 0] W fun r w' => (∃ t F, r = .returned (.tuple #[.pointer (some ⟨t, 0, none⟩), .int .i64 0]) ∧ Tio webN webT [] w.heap.size w' t a14X0 F 0 ∧ ∀ j, F j → W.heap.size ≤ j) ∧ Below W.heap.size W w') := fun A c W hlo hc hr => by
  refine (tio_new (by decide) wf_web A 2 c 50 (by omega) w.heap.size W hlo hr hc (by omega)).mono ?_
  rintro r w' ⟨⟨h, _⟩, hb⟩
  obtain ⟨_, t, F, h1, h2, h3⟩ := h a14_new
  exact ⟨⟨t, F, h1, h2, h3⟩, hb⟩
 unfold polV at HW HX
 go_enter Tryz.func10, Tryz.ntmps10
 go_wp2_with fail
 refine (HW.out w).mono ?_
 rintro r w1 ⟨⟨A1, c1, rfl, hc1, r1⟩, b1⟩
 have HN1 := Lib.hid (HN.out A1 c1 w1 b1.size hc1 r1)
 have F1 : Hid (Fr (fun _ => False) w w1) := Fr.b0 b1
 clear b1 r1 HN
 go_wp2_with fail
 refine HN1.out.mono ?_
 rintro r w2 ⟨⟨t, F, rfl, T2, hF⟩, b2⟩
 have F2 := Lib.hid (F1.out.trans (Fr.b0 b2) (fun _ h => h.elim))
 have HT2 := Lib.hid T2
 have HP := Lib.hid (tio_put PW.out (HT2.out.fr0 (Fr.none_alloc w2 (.cells #[.string a14N, .int .i64 21, .int .i64 4] 67))) (by omega) a14S (some ⟨w2.heap.size, 0, none⟩) 1 1 (Rd.newS rfl _ _ 1 3 rfl) a14_swf)
 rw [a14_put] at HP
 clear T2 b2 HN1 hF
 go_wp2_with fail
 refine HP.out.mono ?_
 rintro r w3 ⟨rfl, T3, f3⟩
 have O3 : Hid (Below w.heap.size w w3) := (F2.out.trans (Fr.none_alloc _ _) (fun _ h => h.elim)).below (fun _ h => h.elim) |>.trans (f3.below_of (Nat.le_trans F2.out.size (Fr.none_alloc _ _).size) (fun j hj => (HT2.out.ge j hj).1))
 have HT3 : Hid (Tio webN webT [] w.heap.size w3 t a14X F 8) := T3
 clear T3 f3 HP HT2
 go_wp2_with fail
 refine (HX.out w3).mono ?_
 rintro r w4 ⟨⟨A4, c4, rfl, hc4, r4⟩, b4⟩
 have O4 : Hid (Below w.heap.size w w4) := O3.out.trans (b4.mono O3.out.size)
 have HT4 := Lib.hid (HT3.out.fr0 (Fr.b0 b4))
 have HB := Lib.hid (begin_tio (nm2 := fifN) (lt := fifT) PW.out (by decide) (by decide) HT4.out (by omega) (fun _ h => by cases h) A4 c4 r4 hc4 wf_fif)
 clear b4 r4 HT3
 go_wp2_with fail
 refine HB.out.mono ?_
 rintro r w5 ⟨⟨h5, _⟩, b5⟩
 obtain ⟨s, rfl, hs5⟩ := h5 fif_ok
 rw [a14_bound] at hs5
 obtain ⟨G, ho5⟩ := hs5.on
 have O5 : Hid (Below w.heap.size w w5) := O4.out.trans (b5.mono O4.out.size)
 have HT5 := Lib.hid (HT4.out.fr0 (Fr.b0 b5))
 have HS5 := Lib.hid ho5
 have HGF : Hid (∀ j, F j → ¬ G j) := fun j hj hg => by
  have h1 := (HT4.out.ge j hj).2
  have h2 := (ho5.ge j hg).1
  omega
 obtain ⟨A, c, B, d, T, ct, tb, hi, _⟩ := ho5
 have HI := Lib.hid hi
 obtain ⟨p0, p1, p2, _, _, _⟩ := hi.cells (Fr.refl (fun _ => False) w5) (fun h => h)
 have p1' : w5.cell? ⟨s, 1, none⟩ = some (.slice A 2 c) := p1
 obtain ⟨ms, hms⟩ : ∃ m, (srcs a14X.now webT [] fifT).length = m := ⟨_, rfl⟩
 have p2' : w5.cell? ⟨s, 2, none⟩ = some (.slice B ms d) := by rw [← hms]; exact p2
 have p0' : w5.cell? ⟨s, 0, none⟩ = some (.string fifN) := p0
 have HSt : Hid (Calls Tryz.prog 13 #[.agg #[.string fifN, .slice A 2 c, .slice B ms d]] w5 fun r w' => r = .returned (.int .i64 6) ∧ Below w5.heap.size w5 w') := by
  have := steps_any fifN fifT A 2 c B ms d w5 (own_any hi.tiers).2.2.1 (by omega) sh_fif
  rw [fif_steps] at this
  exact this
 clear h5 b5 hs5 hi p0 p1 p2 HB hms
 go_wp2_with fail
 refine HSt.out.mono ?_
 rintro r w6 ⟨rfl, b6⟩
 have O6 : Hid (Below w.heap.size w w6) := O5.out.trans (b6.mono O5.out.size)
 have HT6 := Lib.hid (HT5.out.fr0 (Fr.b0 b6))
 have HS6 := Lib.hid (HS5.out.fr0 (Fr.b0 b6))
 have HBd : Hid (Calls Tryz.prog 27 #[.pointer (some ⟨s, 0, none⟩)] w6 fun r w' => r = .returned (.int .i64 8) ∧ w6 = w') := sbound_any s _ _ w6 HS6.out.at_
 clear b6 p0' p1' p2' HI HSt HT5 HS5
 go_wp2_with fail
 refine HBd.out.mono ?_
 rintro r w' ⟨rfl, rfl⟩
 have HSf := Lib.hid (sstep_fill (nm2 := fifN) (lt := fifT) PW.out PF.out (by decide) HT6.out (by omega) (fun _ h => by cases h) HS6.out rfl rfl rfl (by show i64 0; unfold i64; omega) (fun m hm => by rw [a14_tabs m hm]; decide) (j := 0) (y := ⟨{ data := #[114, 97, 119] }, 1, 50, 1⟩) (k := 0) rfl a14_at)
 clear HBd
 go_wp2_with fail
 refine HSf.out.mono ?_
 rintro r w7 ⟨rfl, S7, f7⟩
 have O7 : Hid (Below w.heap.size w w7) := O6.out.trans (f7.below_of O6.out.size (fun j hj => Nat.le_trans O4.out.size (HS6.out.ge j hj).1))
 have HT7 : Hid (Tio webN webT [] w.heap.size w7 t a14X F 8) := HT6.out.frSh f7 HS6.out HGF.out
 have HS7 := Lib.hid S7
 clear S7 f7 HSf HS6 HT6
 unfold stepVal
 obtain ⟨w8, hw8⟩ : ∃ v, v = w7.alloc (.cells #[.int .i64 1, .int .i64 0, .int .i64 0] 50) := ⟨_, rfl⟩
 have F8 : Hid (Fr (fun _ => False) w7 w8) := by show Fr _ _ _; rw [hw8]; exact Fr.none_alloc _ _
 have HT8 := Lib.hid (HT7.out.fr0 F8.out)
 have HS8 := Lib.hid (HS7.out.fr0 F8.out)
 have HW8 := Lib.hid hw8
 have O8 : Hid (Below w.heap.size w w8) := O7.out.trans (F8.out.below_of O7.out.size (fun _ h => h.elim))
 have v0 : w8.cell? ⟨w7.heap.size, 0, none⟩ = some (.int .i64 1) := by rw [hw8]; exact (Blk.new w7 50 #[.int .i64 1, .int .i64 0, .int .i64 0]).cell 0
 have HDo : Hid (Calls Tryz.prog 21 #[.pointer (some ⟨s, 0, none⟩)] w8 fun r w' => r = .returned (.int .i64 1) ∧ w8 = w') := sdone_any s _ _ w8 HS8.out.at_
 have HRc : Hid (Calls Tryz.prog 17 #[.pointer (some ⟨s, 0, none⟩), .int .i64 0] w8 fun r w' => (∃ A c, r = .returned (.slice A 1 c)) ∧ Below w8.heap.size w8 w') := by
  refine (srecords_any s _ _ 0 w8 HS8.out.at_ (fun m hm => ?_)).mono ?_
  ·rcases List.mem_or_eq_of_mem_set hm with h1 | rfl
   ·rw [a14_tabs m h1]; decide
   ·exact Nat.le_trans (Nat.le_of_eq a14_len) (by omega)
  ·rintro r w' ⟨⟨A, c, h1, _⟩, h2⟩
   refine ⟨⟨A, c, ?_⟩, h2⟩
   rw [h1]
   have e : (recI ((fifT.map fun _ => ([] : List RecV)).set 0 (addsV 1 (keepT (inS 0 1) []) (keepT (notS 0 1) ((buildX a14X fifN fifT (srcs a14X.now webT [] fifT)).tabs.getD 0 [])))) 0).length = 1 := a14_len
   exact congrArg (fun q => Ending.returned (.slice A q c)) e
 have HFi : Hid (∀ W, Fr (fun _ => False) w8 W → Calls Tryz.prog 30 #[.pointer (some ⟨s, 0, none⟩), .pointer (some ⟨t, 0, none⟩)] W fun r w' => r = .returned (.bool true) ∧ Below W.heap.size W w') := fun W f => by
  have h := sfits_any (nm2 := fifN) (lt := fifT) PW.out PF.out (by decide) (HT8.out.fr0 f) (by omega) (fun _ h => by cases h) (HS8.out.fr0 f) rfl rfl rfl
  rw [a14_need] at h
  exact h
 clear hw8 HS7 HT7
 go_wp2_with fail
 rw [← HW8.out]
 refine HDo.out.mono ?_
 rintro r w' ⟨rfl, rfl⟩
 go_wp2_with fail
 refine HRc.out.mono ?_
 rintro r w9 ⟨⟨A9, c9, rfl⟩, b9⟩
 have F9 : Hid (Fr (fun _ => False) w8 w9) := Fr.b0 b9
 have HF9 := Lib.hid (HFi.out w9 F9.out)
 clear b9 HDo HRc HFi
 go_wp2_with fail
 refine HF9.out.mono ?_
 rintro r wa ⟨rfl, ba⟩
 have Fa : Hid (Fr (fun _ => False) w8 wa) := F9.out.trans (Fr.b0 ba) (fun _ h => h.elim)
 clear ba
 go_wp2_with fail
 go_ret
 exact ⟨rfl, O8.out.trans (Fa.out.below_of O8.out.size (fun _ h => h.elim))⟩
end Go.Proofs.YtfhhepfkjndkgaaGreat
