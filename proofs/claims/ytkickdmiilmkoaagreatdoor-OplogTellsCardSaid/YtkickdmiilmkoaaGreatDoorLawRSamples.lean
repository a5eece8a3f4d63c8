/- The statement RecSamples: the walk. -/
import Derived.Test.YtkickdmiilmkoaaGreatDoorRefGetS
import Derived.Test.YtkickdmiilmkoaaGreatDoorLent
import Derived.Test.YtkickdmiilmkoaaGreatDoorBookKS
import Derived.Test.YtkickdmiilmkoaaGreatDoorAlive16
namespace Go.Proofs.YtkickdmiilmkoaaGreatDoor
open Go.RowKit

theorem rgs_any (l : List UInt8) (hn : l.length ≤ 1099511627776) (w : World) :
    Calls Tryz.prog 34 #[.string (bstr l)] w fun r w' => ∃ A n c, r = .returned (.tuple #[.slice A n c, .int .i64 (sgetE l)]) ∧ w'.ownsRow w.heap.size 82 3 (.slice A n c) n (scells (sgetL l)) ∧ Below w.heap.size w w' := by
  by_cases h : l.length % 32 = 0
  · refine (rsamplesget_any l (l.length / 32) (by omega) hn w).mono ?_
    rintro r w' ⟨h1, h2, h3⟩
    unfold sgetL sgetE
    rw [if_pos h, if_pos h]
    cases hok : sampsOk l (l.length / 32)
    · exact ⟨none, 0, 0, h2 hok, World.ownsRow_nil _ _ _ _, h3⟩
    · obtain ⟨A, c, e, ho⟩ := h1 hok
      exact ⟨A, _, c, e, ho, h3⟩
  · refine (rsamplesget_short (bstr l) (by rw [bstr_size]; exact hn) (by rw [bstr_size]; exact h) w).mono ?_
    rintro r w' ⟨h1, rfl⟩
    unfold sgetL sgetE
    rw [if_neg h, if_neg h]
    exact ⟨none, 0, 0, h1, World.ownsRow_nil _ _ _ _, Below.refl _ _⟩
theorem put_tuple (b : Bool) (S : ByteArray) : ∃ P E, (bif b then Value.tuple #[.string S, .int .i64 0] else .tuple #[.string { data := #[] }, .int .i64 1]) = .tuple #[.string P, .int .i64 E] := by
  cases b
  · exact ⟨_, _, rfl⟩
  · exact ⟨_, _, rfl⟩

set_option maxRecDepth 100000 in
set_option maxHeartbeats 8000000 in
theorem rsamples_walk (la : List SampV) (A : Option Addr) (na ca : Nat) (s : ByteArray) (w : World) (ha : Rd w 3 A na (scells la)) (wa : ∀ r ∈ la, r.wf) (h1 : na ≤ 9223372036854775807) (hs : s.size ≤ maxLen) :
    Calls Tryz.prog 5 #[.slice A na ca, .string s] w fun r w' => r = .returned (.bool true) ∧ Below w.heap.size w w' := by
  have F1 := Lib.hid (some_any 40 (by decide) la (fun r h => (wa r h).2.2) A na ca w ha h1)
  have AL := Lib.hid (fun w' => alive16_any w')
  have Ra := Lib.hid ha
  have hsb : s.size ≤ 9223372036854775807 := by unfold maxLen at hs; omega
  obtain ⟨PS, PE, hP⟩ := put_tuple (la.all sampOk) (bstr (la.flatMap sampB))
  have P1 : Hid (na ≤ 40 → ∀ B d w', Rd w' 3 B na (scells la) → Calls Tryz.prog 31 #[.slice B na d] w' fun e w'' => e = .returned (.tuple #[.string PS, .int .i64 PE]) ∧ Below w'.heap.size w' w'') := fun q B d w' h => by
    rw [← hP]; exact sampsput_any la wa B na d w' h (by omega)
  have P2 : Hid (na ≤ 40 → ∀ B d w', Rd w' 3 B na (scells la) → Calls Tryz.prog 32 #[.slice B na d] w' fun e w'' => e = .returned (.tuple #[.string PS, .int .i64 PE]) ∧ Below w'.heap.size w' w'') := fun q B d w' h => by
    rw [← hP]; exact rsampsput_any la wa B na d w' h (by omega)
  have hl := str_len s
  have G1 : Hid (s.size ≤ 3000 → ∀ w', Calls Tryz.prog 33 #[.string s] w' fun r w'' => ∃ A n c, r = .returned (.tuple #[.slice A n c, .int .i64 (sgetE s.data.toList)]) ∧ w''.ownsRow w'.heap.size 82 3 (.slice A n c) n (scells (sgetL s.data.toList)) ∧ Below w'.heap.size w' w'') := fun q w' => by
    have := gs_any s.data.toList (by rw [hl]; omega) w'
    rwa [bstr_toList] at this
  have G2 : Hid (s.size ≤ 3000 → ∀ w', Calls Tryz.prog 34 #[.string s] w' fun r w'' => ∃ A n c, r = .returned (.tuple #[.slice A n c, .int .i64 (sgetE s.data.toList)]) ∧ w''.ownsRow w'.heap.size 82 3 (.slice A n c) n (scells (sgetL s.data.toList)) ∧ Below w'.heap.size w' w'') := fun q w' => by
    have := rgs_any s.data.toList (by rw [hl]; omega) w'
    rwa [bstr_toList] at this
  have GL : Hid ((sgetL s.data.toList).length ≤ s.size) := by have := sgetL_len s.data.toList; rw [hl] at this; exact this
  obtain ⟨gl, hgl⟩ : ∃ gl, sgetL s.data.toList = gl := ⟨_, rfl⟩
  obtain ⟨ge, hge⟩ : ∃ ge, sgetE s.data.toList = ge := ⟨_, rfl⟩
  rw [hgl, hge] at G1 G2
  rw [hgl] at GL
  clear ha wa hP hl hgl hge hs
  go_enter Tryz.func5, Tryz.ntmps5
  go_wp2_with fail
  refine (F1.out).mono ?_
  rintro r w1 ⟨⟨b, rfl, q1⟩, rfl⟩
  cases b
  · clear q1
    go_wp2_with fail
    refine (AL.out _).mono ?_
    rintro r w2 ⟨rfl, b2⟩
    have B2 := Lib.hid b2
    clear b2
    go_wp2_with fail
    go_ret
    exact ⟨rfl, B2.out⟩
  replace q1 := q1 rfl
  by_cases h3 : 3000 < s.size
  · have h3i : (3000 : Int) < (s.size : Int) := by omega
    go_wp2_with fail
    refine (AL.out _).mono ?_
    rintro r w2 ⟨rfl, b2⟩
    have B2 := Lib.hid b2
    clear b2
    go_wp2_with fail
    go_ret
    exact ⟨rfl, B2.out⟩
  have h3i : ¬ (3000 : Int) < (s.size : Int) := by omega
  have h3d : decide ((3000 : Int) < (s.size : Int)) = false := decide_eq_false h3i
  replace P1 := Lib.hid (P1.out q1)
  replace P2 := Lib.hid (P2.out q1)
  replace G1 := Lib.hid (G1.out (by omega))
  replace G2 := Lib.hid (G2.out (by omega))
  have hqn := Lib.hid q1
  have hgn : Hid (gl.length ≤ 3000) := by have := GL.out; show _ ≤ _; omega
  clear F1 GL q1
  go_wp2_with fail
  have BK := Lib.hid (BookS.new w)
  have O0 := Lib.hid ((Below.refl w.heap.size w).alloc (Nat.le_refl _) (.cells #[.slice none 0 0, .slice none 0 0, .slice none 0 0, .slice none 0 0, .slice none 0 0, .slice none 0 0, .slice none 0 0, .slice none 0 0, .slice none 0 0, .slice none 0 0, .slice none 0 0, .slice none 0 0, .slice none 0 0, .slice none 0 0, .slice none 0 0, .slice none 0 0] 37))
  obtain ⟨g, hg⟩ : ∃ g, w.heap.size = g := ⟨_, rfl⟩
  rw [hg] at BK O0 ⊢
  have HG := Lib.hid hg
  clear hg h3 h3i h3d
  go_loopw [6] (fun i wr => ∃ k : Nat, k ≤ 2 ∧ i = .int .i64 k ∧ BookS wr g g k ∧ Below g w wr) (fun i _ => 2 - (intOf i).toNat)
  case atStart => exact ⟨0, Nat.zero_le _, rfl, BK.out, O0.out⟩
  case round =>
    obtain ⟨k, hk, rfl, hbk, hbel⟩ := hrel
    have HBK := Lib.hid hbk
    have HBel := Lib.hid hbel
    have HA : Hid (Rd wr 3 A na (scells la)) := Ra.out.below (by have := HBel.out; rwa [HG.out])
    clear hbk hbel
    by_cases hlt : k < 2
    · go_wp2_with fail
      refine (lentS_any la A na ca wr HA.out (by have := hqn.out; omega)).mono ?_
      rintro r w1 ⟨M, d, rfl, hd1, hd2, rm, rn, b1⟩
      have RN := Lib.hid rn
      have B1 := Lib.hid b1
      have RM := Lib.hid rm
      have HD := Lib.hid (And.intro hd1 hd2)
      have RM2 : Hid (Rd w1 3 M na (scells la)) := by
        have := rm.take (k := na) (by omega)
        unfold lentS at this
        rwa [List.take_left' HA.out.1] at this
      clear b1 rm rn hd1 hd2
      go_wp2_with fail
      refine (P1.out M d w1 RM2.out).mono ?_
      rintro r w2 ⟨rfl, b2⟩
      have B2 := Lib.hid (B1.out.trans (b2.mono B1.out.size))
      have RM3 := Lib.hid (RM.out.fr0 (Fr.b0 b2))
      clear b2 RM RM2
      go_wp2_with fail
      refine (P2.out A ca w2 (HA.out.below B2.out)).mono ?_
      rintro r w3 ⟨rfl, b3⟩
      have B3 := Lib.hid (B2.out.trans (b3.mono B2.out.size))
      have RM4 := Lib.hid (RM3.out.fr0 (Fr.b0 b3))
      clear b3 RM3
      go_wp2_with fail
      refine (G1.out w3).mono ?_
      rintro r w4 ⟨X, n, c, rfl, ox, b4⟩
      have B4 := Lib.hid (B3.out.trans (b4.mono B3.out.size))
      have RM5 := Lib.hid (RM4.out.fr0 (Fr.b0 b4))
      have OX := Lib.hid (own_le ox B3.out.size)
      have hnn : Hid (n ≤ 3000) := by have := ox.1; rw [csS_len] at this; have := hgn.out; show n ≤ 3000; omega
      clear b4 ox RM4
      go_wp2_with fail
      refine (G2.out w4).mono ?_
      rintro r w5 ⟨Y, n2, c2, rfl, oy, b5⟩
      have B5 := Lib.hid (B4.out.trans (b5.mono B4.out.size))
      have RM6 := Lib.hid (RM5.out.fr0 (Fr.b0 b5))
      have OX5 := Lib.hid (own_fr0 OX.out (Fr.b0 b5))
      have OY := Lib.hid (own_le oy B4.out.size)
      have hnm : n2 = n := by have h1 := oy.1; have h2 := OX.out.1; rw [h1] at h2; omega
      subst hnm
      clear b5 oy RM5 OX
      go_wp2_with fail
      refine (bookS_add wr w5 g g k HBK.out B5.out (by omega) gl X n2 c OX5.out (by have := hnn.out; omega)).mono ?_
      rintro r w6 ⟨rfl, bk6, f6⟩
      have BK6 := Lib.hid bk6
      have hgw : Hid (g ≤ wr.heap.size) := by rw [← HG.out]; exact HBel.out.size
      have B6 : Hid (Below g w w6) := (HBel.out.trans (B5.out.mono hgw.out)).trans (f6.below_of (Nat.le_trans hgw.out B5.out.size) (fun k hk => hk.1))
      have RM7 := Lib.hid (RM6.out.fr f6 (fun i hi hF => by have := RN.out i hi; omega))
      have OX6 := Lib.hid (Rd.of_own (own_fr OX5.out f6 (fun i hi hF => by have := (OX5.out.lt i hi).1; omega)))
      have OY6 := Lib.hid (Rd.of_own (own_fr OY.out f6 (fun i hi hF => by have := (OY.out.lt i hi).1; omega)))
      have HA6 : Hid (Rd w6 3 A na (scells la)) := Ra.out.below (by have := B6.out; rwa [HG.out])
      clear bk6 f6 RM6 OX5 OY
      go_wp2_with fail
      refine (samesamps_eq gl X n2 c Y c2 w6 OX6.out OY6.out (by have := hnn.out; omega)).mono ?_
      rintro r w7 ⟨rfl, b7⟩
      have B7 := Lib.hid (B6.out.trans (b7.mono (by rw [← HG.out]; exact B6.out.size)))
      have RM8 := Lib.hid (RM7.out.fr0 (Fr.b0 b7))
      have HA7 := Lib.hid (HA6.out.fr0 (Fr.b0 b7))
      have BK7 := Lib.hid (BK6.out.fr b7)
      clear b7 OX6 OY6 RM7 HA6
      go_wp2_with fail
      refine (staysS_any la M na d A ca w7 RM8.out HA7.out HD.out.1 HD.out.2 (by have := hqn.out; omega)).mono ?_
      rintro r w8 ⟨rfl, b8⟩
      have B8 := Lib.hid (B7.out.trans (b8.mono (by rw [← HG.out]; exact B7.out.size)))
      have BK8 := Lib.hid (BK7.out.fr b8)
      clear b8
      go_wp2
      go_roundw
      case rel => exact ⟨k + 1, by omega, by go_num, BK8.out, B8.out⟩
      case measure => simp [intOf]; omega
    · obtain rfl : k = 2 := by omega
      go_wp2_with fail
      refine (AL.out _).mono ?_
      rintro r w7 ⟨rfl, b7⟩
      have B7 := Lib.hid (HBel.out.trans (b7.mono (by rw [← HG.out]; exact HBel.out.size)))
      have BK7 := Lib.hid (HBK.out.fr b7)
      clear b7
      go_wp2_with fail
      refine (bookS_apart w7 g g 2 BK7.out (by omega)).mono ?_
      rintro r w8 ⟨rfl, f8⟩
      have B8 : Hid (Below g w w8) := B7.out.trans (f8.below_of (by rw [← HG.out]; exact B7.out.size) (fun k hk => hk))
      clear f8
      go_wp2_with fail
      go_ret
      exact ⟨rfl, by have := B8.out; rwa [← HG.out] at this⟩
end Go.Proofs.YtkickdmiilmkoaaGreatDoor
