/- StateCopies' walk. -/
import Derived.Test.YtkfdgodngbinlaaGreatDoorStsRun
import Derived.Test.YtkfdgodngbinlaaGreatDoorStSame
import Derived.Test.YtkfdgodngbinlaaGreatDoorAlive15
namespace Go.Proofs.YtkfdgodngbinlaaGreatDoor
set_option linter.all false
open Go.RowKit

set_option maxRecDepth 100000 in
set_option maxHeartbeats 8000000 in
theorem stcopies_walk (text : ByteArray) (l : List OpS) (A : Option Addr) (n c : Nat) (lm : List OpS) (B : Option Addr) (m d : Nat) (w : World) (htx : text.size ≤ maxLen) (hr : Rd w 4 A n (opscells l)) (hok : ∀ o ∈ l, o.ok w) (hn : n ≤ 9223372036854775807) (hrm : Rd w 4 B m (opscells lm)) (hokm : ∀ o ∈ lm, o.ok w) (hm : m ≤ 9223372036854775807) (hmx : MaxL w) :
  Calls Tryz.prog 5 #[.string text, .slice A n c, .slice B m d] w fun e w' => e = .returned (.bool true) ∧ Below w.heap.size w w' := by
 have HAl : Hid (∀ W, Fr (fun _ => False) w W → Calls Tryz.prog 11 #[] W fun r w' => r = .returned (.bool true) ∧ Below W.heap.size W w') := fun W f => alive15_any W (hmx.fr f (fun h => h))
 have HL1 := Lib.hid (light15_any l A n c w hr hok hn)
 have HL2 := Lib.hid (light15_any lm B m d w hrm hokm hm)
 have Hr := Lib.hid hr
 have Hok := Lib.hid hok
 have Hrm := Lib.hid hrm
 have Hokm := Lib.hid hokm
 have HMX := Lib.hid hmx
 have F0 := Lib.hid (Fr.refl (fun _ => False) w)
 have htx2 : text.size ≤ 9223372036854775807 := by unfold maxLen at htx; omega
 clear hr hok hrm hokm hmx
 by_cases h41 : 4100 < text.size
 ·have hd : decide ((4100 : Int) < (text.size : Int)) = true := decide_eq_true (by omega)
  have hd2 : (4100 : Int) < (text.size : Int) := by omega
  go_enter Tryz.func5, Tryz.ntmps5
  go_wp2_with fail
  refine HL1.out.mono ?_
  rintro r w1 ⟨⟨b, rfl, hb⟩, rfl⟩
  have HL1b := Lib.hid hb
  clear hb
  cases b with
  | false =>
   go_wp2_with fail
   refine (HAl.out _ F0.out).mono ?_
   rintro r wz ⟨rfl, bz⟩
   go_wp2_with fail
   go_ret
   exact ⟨rfl, bz⟩
  | true =>
   go_wp2_with fail
   refine HL2.out.mono ?_
   rintro r w1 ⟨⟨b, rfl, hb⟩, rfl⟩
   have HL2b := Lib.hid hb
   clear hb
   cases b with
   | false =>
    go_wp2_with fail
    refine (HAl.out _ F0.out).mono ?_
    rintro r wz ⟨rfl, bz⟩
    go_wp2_with fail
    go_ret
    exact ⟨rfl, bz⟩
   | true =>
    go_wp2_with fail
    refine (HAl.out _ F0.out).mono ?_
    rintro r wz ⟨rfl, bz⟩
    go_wp2_with fail
    go_ret
    exact ⟨rfl, bz⟩
 have hd : decide ((4100 : Int) < (text.size : Int)) = false := decide_eq_false (by omega)
 have hd2 : ¬ (4100 : Int) < (text.size : Int) := by omega
 have HNw := Lib.hid (ss_new 300 text (by omega) w HMX.out w.heap.size (Nat.le_refl _))
 go_enter Tryz.func5, Tryz.ntmps5
 go_wp2_with fail
 refine HL1.out.mono ?_
 rintro r w1 ⟨⟨b, rfl, hb⟩, rfl⟩
 have HL1b := Lib.hid hb
 clear hb
 cases b with
 | false =>
  go_wp2_with fail
  refine (HAl.out _ F0.out).mono ?_
  rintro r wz ⟨rfl, bz⟩
  go_wp2_with fail
  go_ret
  exact ⟨rfl, bz⟩
 | true =>
  go_wp2_with fail
  refine HL2.out.mono ?_
  rintro r w1 ⟨⟨b, rfl, hb⟩, rfl⟩
  have HL2b := Lib.hid hb
  clear hb
  cases b with
  | false =>
   go_wp2_with fail
   refine (HAl.out _ F0.out).mono ?_
   rintro r wz ⟨rfl, bz⟩
   go_wp2_with fail
   go_ret
   exact ⟨rfl, bz⟩
  | true =>
   have hn60 : n ≤ 60 := (HL1b.out (by trivial)).1
   have hm60 : m ≤ 60 := (HL2b.out (by trivial)).1
   have HT1 : Hid (∀ o ∈ l, o.text.size ≤ 4100) := fun o ho => ((HL1b.out (by trivial)).2 o ho).2
   have HT2 : Hid (∀ o ∈ lm, o.text.size ≤ 4100) := fun o ho => ((HL2b.out (by trivial)).2 o ho).2
   clear HL1 HL2 HL1b HL2b
   obtain ⟨E, hE⟩ : ∃ v, stNewE 300 (readV text) = v := ⟨_, rfl⟩
   rw [hE] at HNw
   clear hE
   by_cases he : E = 0
   ·subst he
    go_wp2_with fail
    refine HNw.out.mono ?_
    rintro r w1 ⟨⟨h1, _⟩, b1⟩
    obtain ⟨g, rfl, hs1⟩ := h1 (by trivial)
    obtain ⟨Q, hQ⟩ : ∃ v, stNewQ 300 (readV text) = v := ⟨_, rfl⟩
    rw [hQ] at hs1
    have HR1 := Lib.hid (ss_run (w0 := w) hs1 (i := 0) rfl b1 (Nat.le_refl _) l A n c Hr.out Hok.out HT1.out (by omega) (by omega) HMX.out)
    have B1 := Lib.hid b1
    clear h1 b1 hs1 hQ HNw
    go_wp2_with fail
    refine HR1.out.mono ?_
    rintro r w2 ⟨rfl, h2, b2⟩
    obtain ⟨Qn, hQn⟩ : ∃ v, stRun Q l = v := ⟨_, rfl⟩
    rw [hQn] at h2
    have h2 : Sts w2 w.heap.size [(g, Qn)] (0 + 8 * n) := h2
    have B2 := Lib.hid (B1.out.trans b2)
    have hl2 := h2.lo_le (i := 0) rfl
    have HC1 := Lib.hid (ss_copy h2 (i := 0) rfl)
    clear h2 b2 hQn HR1 B1
    go_wp2_with fail
    refine HC1.out.mono ?_
    rintro r w3 ⟨⟨ga, rfl, h3⟩, b3⟩
    have h3 : Sts w3 w.heap.size [(g, Qn), (ga, Qn)] (0 + 8 * n) := h3
    have B3 := Lib.hid (B2.out.trans (b3.mono hl2))
    have hl3 := h3.lo_le (i := 0) rfl
    have HC2 := Lib.hid (ss_copy h3 (i := 0) rfl)
    clear h3 b3 HC1 B2
    go_wp2_with fail
    refine HC2.out.mono ?_
    rintro r w4 ⟨⟨gb, rfl, h4⟩, b4⟩
    have h4 : Sts w4 w.heap.size [(g, Qn), (ga, Qn), (gb, Qn)] (0 + 8 * n) := h4
    have B4 := Lib.hid (B3.out.trans (b4.mono hl3))
    have hl4 := h4.lo_le (i := 0) rfl
    have H4 := Lib.hid h4
    have HS4 := Lib.hid (ss_same h4 (i := 1) (j := 0) rfl rfl (by omega))
    rw [sameSt_self] at HS4
    clear h4 b4 HC2 B3
    go_wp2_with fail
    refine HS4.out.mono ?_
    rintro r w5 ⟨rfl, b5⟩
    have H5 := Lib.hid (H4.out.fr0 (Fr.b0 b5))
    have B5 := Lib.hid (B4.out.trans (b5.mono hl4))
    have HS5 := Lib.hid (ss_same H5.out (i := 0) (j := 2) rfl rfl (by omega))
    rw [sameSt_self] at HS5
    have hl5 := H5.out.lo_le (i := 0) rfl
    clear b5 HS4 H4 B4
    go_wp2_with fail
    refine HS5.out.mono ?_
    rintro r w6 ⟨rfl, b6⟩
    have H6 := Lib.hid (H5.out.fr0 (Fr.b0 b6))
    have B6 := Lib.hid (B5.out.trans (b6.mono hl5))
    have HR6 := Lib.hid (ss_run (w0 := w) H6.out (i := 1) rfl B6.out (Nat.le_refl _) lm B m d Hrm.out Hokm.out HT2.out (by omega) (by omega) HMX.out)
    clear b6 HS5 H5 B5
    go_wp2_with fail
    refine HR6.out.mono ?_
    rintro r w7 ⟨rfl, h7, b7⟩
    obtain ⟨Qm, hQm⟩ : ∃ v, stRun Qn lm = v := ⟨_, rfl⟩
    rw [hQm] at h7
    have h7 : Sts w7 w.heap.size [(g, Qn), (ga, Qm), (gb, Qn)] (0 + 8 * n + 8 * m) := h7
    have B7 := Lib.hid (B6.out.trans b7)
    have H7 := Lib.hid h7
    have hl7 := h7.lo_le (i := 0) rfl
    have HS7 := Lib.hid (ss_same h7 (i := 0) (j := 2) rfl rfl (by omega))
    rw [sameSt_self] at HS7
    clear h7 b7 HR6 H6 B6
    go_wp2_with fail
    refine HS7.out.mono ?_
    rintro r w8 ⟨rfl, b8⟩
    have H8 := Lib.hid (H7.out.fr0 (Fr.b0 b8))
    have B8 := Lib.hid (B7.out.trans (b8.mono hl7))
    have HR8 := Lib.hid (ss_run (w0 := w) H8.out (i := 2) rfl B8.out (Nat.le_refl _) lm B m d Hrm.out Hokm.out HT2.out (by omega) (by omega) HMX.out)
    rw [hQm] at HR8
    clear b8 HS7 H7 B7 hQm
    go_wp2_with fail
    refine HR8.out.mono ?_
    rintro r w9 ⟨rfl, h9, b9⟩
    have h9 : Sts w9 w.heap.size [(g, Qn), (ga, Qm), (gb, Qm)] (0 + 8 * n + 8 * m + 8 * m) := h9
    have B9 := Lib.hid (B8.out.trans b9)
    have H9 := Lib.hid h9
    clear h9 b9 HR8 H8 B8
    go_wp2_with fail
    refine (HAl.out w9 (Fr.b0 B9.out)).mono ?_
    rintro r w10 ⟨rfl, b10⟩
    have H10 := Lib.hid (H9.out.fr0 (Fr.b0 b10))
    have B10 := Lib.hid (B9.out.trans (b10.mono B9.out.size))
    have HS10 := Lib.hid (ss_same H10.out (i := 1) (j := 2) rfl rfl (by omega))
    rw [sameSt_self] at HS10
    clear b10 H9 B9
    go_wp2_with fail
    refine HS10.out.mono ?_
    rintro r w11 ⟨rfl, b11⟩
    go_wp2_with fail
    go_ret
    exact ⟨rfl, B10.out.trans (b11.mono B10.out.size)⟩
   ·have he1 : (E != 0) = true := by simpa using he
    go_wp2_with fail
    refine HNw.out.mono ?_
    rintro r w1 ⟨⟨_, h1⟩, b1⟩
    obtain rfl := h1 he
    have B1 := Lib.hid b1
    clear h1 b1 HNw
    go_wp2_with fail
    refine (HAl.out w1 (Fr.b0 B1.out)).mono ?_
    rintro r wz ⟨rfl, bz⟩
    have Bz := Lib.hid (B1.out.trans (bz.mono B1.out.size))
    go_wp2_with fail
    go_ret
    exact ⟨rfl, Bz.out⟩
end Go.Proofs.YtkfdgodngbinlaaGreatDoor
