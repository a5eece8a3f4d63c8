/- The statement RecTells: the walk. -/
import Derived.Test.YtkickdmiilmkoaaGreatDoorRefRecD
import Derived.Test.YtkickdmiilmkoaaGreatDoorLent
import Derived.Test.YtkickdmiilmkoaaGreatDoorBookKR
import Derived.Test.YtkickdmiilmkoaaGreatDoorAlive16

namespace Go.Proofs.YtkickdmiilmkoaaGreatDoor
open Go.RowKit

theorem rgr_any (l : List UInt8) (hn : l.length ≤ 1099511627776) (w : World) :
    Calls Tryz.prog 25 #[.string (bstr l)] w fun r w' => ∃ A n c, r = .returned (.tuple #[.slice A n c, .int .i64 (rgetE l)]) ∧ w'.ownsRow w.heap.size 63 7 (.slice A n c) n (rcells (rgetL l)) ∧ Below w.heap.size w w' := by
  by_cases h : l.length % 64 = 0
  · refine (rrecsget_any l (l.length / 64) (by omega) hn w).mono ?_
    rintro r w' ⟨h1, h2, h3⟩
    unfold rgetL rgetE
    rw [if_pos h, if_pos h]
    cases hok : recsOk l (l.length / 64)
    · exact ⟨none, 0, 0, h2 hok, World.ownsRow_nil _ _ _ _, h3⟩
    · obtain ⟨A, c, e, ho⟩ := h1 hok
      exact ⟨A, _, c, e, ho, h3⟩
  · refine (rrecsget_short (bstr l) (by rw [bstr_size]; exact hn) (by rw [bstr_size]; exact h) w).mono ?_
    rintro r w' ⟨h1, rfl⟩
    unfold rgetL rgetE
    rw [if_neg h, if_neg h]
    exact ⟨none, 0, 0, h1, World.ownsRow_nil _ _ _ _, Below.refl _ _⟩
theorem put_tuple (b : Bool) (S : ByteArray) : ∃ P E, (bif b then Value.tuple #[.string S, .int .i64 0] else .tuple #[.string { data := #[] }, .int .i64 1]) = .tuple #[.string P, .int .i64 E] := by
  cases b
  · exact ⟨_, _, rfl⟩
  · exact ⟨_, _, rfl⟩

def HeldR (p : Addr) (nm : ByteArray) (st c h lo m x : Int) (w : World) : Prop := w.cell? p = some (.string nm) ∧ w.cell? ⟨p.block, p.off + 1, none⟩ = some (.int .i64 st) ∧ w.cell? ⟨p.block, p.off + 2, none⟩ = some (.int .i64 c) ∧ w.cell? ⟨p.block, p.off + 3, none⟩ = some (.int .i64 h) ∧ w.cell? ⟨p.block, p.off + 4, none⟩ = some (.int .u64 lo) ∧ w.cell? ⟨p.block, p.off + 5, none⟩ = some (.int .i64 m) ∧ w.cell? ⟨p.block, p.off + 6, none⟩ = some (.int .i64 x)
set_option maxRecDepth 100000 in
set_option maxHeartbeats 8000000 in
theorem rtells_walk (la : List RecV) (A : Option Addr) (na ca : Nat) (s : ByteArray) (w : World) (ha : Rd w 7 A na (rcells la)) (wa : ∀ r ∈ la, r.wf) (h1 : na ≤ 9223372036854775807) (hs : s.size ≤ maxLen) :
    Calls Tryz.prog 4 #[.slice A na ca, .string s] w fun r w' => r = .returned (.bool true) ∧ Below w.heap.size w w' := by
  have F1 := Lib.hid (few_any 40 (by decide) la (fun r h => (wa r h).2.2) A na ca w ha h1)
  have AL := Lib.hid (fun w' => alive16_any w')
  have Ra := Lib.hid ha
  have hsb : s.size ≤ 9223372036854775807 := by unfold maxLen at hs; omega
  obtain ⟨PS, PE, hP⟩ := put_tuple (la.all recOk) (bstr (la.flatMap recB))
  have P1 : Hid (na ≤ 40 → ∀ B d w', Rd w' 7 B na (rcells la) → Calls Tryz.prog 22 #[.slice B na d] w' fun e w'' => e = .returned (.tuple #[.string PS, .int .i64 PE]) ∧ Below w'.heap.size w' w'') := fun q B d w' h => by
    rw [← hP]; exact recput_any la wa B na d w' h (by omega)
  have P2 : Hid (na ≤ 40 → ∀ B d w', Rd w' 7 B na (rcells la) → Calls Tryz.prog 23 #[.slice B na d] w' fun e w'' => e = .returned (.tuple #[.string PS, .int .i64 PE]) ∧ Below w'.heap.size w' w'') := fun q B d w' h => by
    rw [← hP]; exact rrecsput_any la wa B na d w' h (by omega)
  have hl := str_len s
  have G1 : Hid (s.size ≤ 3000 → ∀ w', Calls Tryz.prog 24 #[.string s] w' fun r w'' => ∃ A n c, r = .returned (.tuple #[.slice A n c, .int .i64 (rgetE s.data.toList)]) ∧ w''.ownsRow w'.heap.size 63 7 (.slice A n c) n (rcells (rgetL s.data.toList)) ∧ Below w'.heap.size w' w'') := fun q w' => by
    have := gr_any s.data.toList (by rw [hl]; omega) w'
    rwa [bstr_toList] at this
  have G2 : Hid (s.size ≤ 3000 → ∀ w', Calls Tryz.prog 25 #[.string s] w' fun r w'' => ∃ A n c, r = .returned (.tuple #[.slice A n c, .int .i64 (rgetE s.data.toList)]) ∧ w''.ownsRow w'.heap.size 63 7 (.slice A n c) n (rcells (rgetL s.data.toList)) ∧ Below w'.heap.size w' w'') := fun q w' => by
    have := rgr_any s.data.toList (by rw [hl]; omega) w'
    rwa [bstr_toList] at this
  have GL : Hid ((rgetL s.data.toList).length ≤ s.size) := by have := rgetL_len s.data.toList; rw [hl] at this; exact this
  obtain ⟨gl, hgl⟩ : ∃ gl, rgetL s.data.toList = gl := ⟨_, rfl⟩
  obtain ⟨ge, hge⟩ : ∃ ge, rgetE s.data.toList = ge := ⟨_, rfl⟩
  rw [hgl, hge] at G1 G2
  rw [hgl] at GL
  have hwl := Lib.hid wa
  clear ha wa hP hl hgl hge hs
  go_enter Tryz.func4, Tryz.ntmps4
  go_wp2_with fail
  refine (F1.out).mono ?_
  rintro r w1 ⟨⟨b, rfl, q1⟩, rfl⟩
  cases b
  · clear q1
    go_wp2_with fail
    refine (AL.out _).mono ?_
    rintro r w2 ⟨rfl, b2⟩
    have B2 := Lib.hid b2
    clear b2
    go_wp2_with fail
    go_ret
    exact ⟨rfl, B2.out⟩
  replace q1 := q1 rfl
  by_cases h3 : 3000 < s.size
  · have h3i : (3000 : Int) < (s.size : Int) := by omega
    go_wp2_with fail
    refine (AL.out _).mono ?_
    rintro r w2 ⟨rfl, b2⟩
    have B2 := Lib.hid b2
    clear b2
    go_wp2_with fail
    go_ret
    exact ⟨rfl, B2.out⟩
  have h3i : ¬ (3000 : Int) < (s.size : Int) := by omega
  have h3d : decide ((3000 : Int) < (s.size : Int)) = false := decide_eq_false h3i
  replace P1 := Lib.hid (P1.out q1)
  replace P2 := Lib.hid (P2.out q1)
  replace G1 := Lib.hid (G1.out (by omega))
  replace G2 := Lib.hid (G2.out (by omega))
  have hqn := Lib.hid q1
  have hgn : Hid (gl.length ≤ 3000) := by have := GL.out; show _ ≤ _; omega
  clear F1 GL q1
  go_wp2_with fail
  have BK := Lib.hid (BookR.new w)
  have O0 := Lib.hid ((Below.refl w.heap.size w).alloc (Nat.le_refl _) (.cells #[.slice none 0 0, .slice none 0 0, .slice none 0 0, .slice none 0 0, .slice none 0 0, .slice none 0 0, .slice none 0 0, .slice none 0 0, .slice none 0 0, .slice none 0 0, .slice none 0 0, .slice none 0 0, .slice none 0 0, .slice none 0 0, .slice none 0 0, .slice none 0 0] 37))
  obtain ⟨g, hg⟩ : ∃ g, w.heap.size = g := ⟨_, rfl⟩
  rw [hg] at BK O0 ⊢
  have HG := Lib.hid hg
  clear hg h3 h3i h3d
  go_loopw [6] (fun i wr => ∃ k : Nat, k ≤ 2 ∧ i = .int .i64 k ∧ BookR wr g g k ∧ Below g w wr) (fun i _ => 2 - (intOf i).toNat)
  case atStart => exact ⟨0, Nat.zero_le _, rfl, BK.out, O0.out⟩
  case round =>
    obtain ⟨k, hk, rfl, hbk, hbel⟩ := hrel
    have HBK := Lib.hid hbk
    have HBel := Lib.hid hbel
    have HA : Hid (Rd wr 7 A na (rcells la)) := Ra.out.below (by have := HBel.out; rwa [HG.out])
    clear hbk hbel
    by_cases hlt : k < 2
    · go_wp2_with fail
      refine (lentR_any la A na ca wr HA.out (by have := hqn.out; omega)).mono ?_
      rintro r w1 ⟨M, d, rfl, hd1, hd2, rm, rn, b1⟩
      have RN := Lib.hid rn
      have B1 := Lib.hid b1
      have RM := Lib.hid rm
      have HD := Lib.hid (And.intro hd1 hd2)
      have RM2 : Hid (Rd w1 7 M na (rcells la)) := by
        have := rm.take (k := na) (by omega)
        unfold lentR at this
        rwa [List.take_left' HA.out.1] at this
      clear b1 rm rn hd1 hd2
      go_wp2_with fail
      refine (P1.out M d w1 RM2.out).mono ?_
      rintro r w2 ⟨rfl, b2⟩
      have B2 := Lib.hid (B1.out.trans (b2.mono B1.out.size))
      have RM3 := Lib.hid (RM.out.fr0 (Fr.b0 b2))
      clear b2 RM RM2
      go_wp2_with fail
      refine (P2.out A ca w2 (HA.out.below B2.out)).mono ?_
      rintro r w3 ⟨rfl, b3⟩
      have B3 := Lib.hid (B2.out.trans (b3.mono B2.out.size))
      have RM4 := Lib.hid (RM3.out.fr0 (Fr.b0 b3))
      clear b3 RM3
      go_wp2_with fail
      refine (G1.out w3).mono ?_
      rintro r w4 ⟨X, n, c, rfl, ox, b4⟩
      have B4 := Lib.hid (B3.out.trans (b4.mono B3.out.size))
      have RM5 := Lib.hid (RM4.out.fr0 (Fr.b0 b4))
      have OX := Lib.hid (own_le ox B3.out.size)
      have hnn : Hid (n ≤ 3000) := by have := ox.1; rw [csR_len] at this; have := hgn.out; show n ≤ 3000; omega
      clear b4 ox RM4
      go_wp2_with fail
      refine (G2.out w4).mono ?_
      rintro r w5 ⟨Y, n2, c2, rfl, oy, b5⟩
      have B5 := Lib.hid (B4.out.trans (b5.mono B4.out.size))
      have RM6 := Lib.hid (RM5.out.fr0 (Fr.b0 b5))
      have OX5 := Lib.hid (own_fr0 OX.out (Fr.b0 b5))
      have OY := Lib.hid (own_le oy B4.out.size)
      have hnm : n2 = n := by have h1 := oy.1; have h2 := OX.out.1; rw [h1] at h2; omega
      subst hnm
      clear b5 oy RM5 OX
      go_wp2_with fail
      refine (bookR_add wr w5 g g k HBK.out B5.out (by omega) gl X n2 c OX5.out (by have := hnn.out; omega)).mono ?_
      rintro r w6 ⟨rfl, bk6, f6⟩
      have BK6 := Lib.hid bk6
      have hgw : Hid (g ≤ wr.heap.size) := by rw [← HG.out]; exact HBel.out.size
      have B6 : Hid (Below g w w6) := (HBel.out.trans (B5.out.mono hgw.out)).trans (f6.below_of (Nat.le_trans hgw.out B5.out.size) (fun k hk => hk.1))
      have RM7 := Lib.hid (RM6.out.fr f6 (fun i hi hF => by have := RN.out i hi; omega))
      have OX6 := Lib.hid (Rd.of_own (own_fr OX5.out f6 (fun i hi hF => by have := (OX5.out.lt i hi).1; omega)))
      have OY6 := Lib.hid (Rd.of_own (own_fr OY.out f6 (fun i hi hF => by have := (OY.out.lt i hi).1; omega)))
      have HA6 : Hid (Rd w6 7 A na (rcells la)) := Ra.out.below (by have := B6.out; rwa [HG.out])
      clear bk6 f6 RM6 OX5 OY
      go_wp2_with fail
      refine (samerecs_eq gl X n2 c Y c2 w6 OX6.out OY6.out (by have := hnn.out; omega)).mono ?_
      rintro r w7 ⟨rfl, b7⟩
      have B7 := Lib.hid (B6.out.trans (b7.mono (by rw [← HG.out]; exact B6.out.size)))
      have RM8 := Lib.hid (RM7.out.fr0 (Fr.b0 b7))
      have HA7 := Lib.hid (HA6.out.fr0 (Fr.b0 b7))
      have BK7 := Lib.hid (BK6.out.fr b7)
      clear b7 OX6 OY6 RM7 HA6
      go_wp2_with fail
      refine (staysR_any la M na d A ca w7 RM8.out HA7.out HD.out.1 HD.out.2 (by have := hqn.out; omega)).mono ?_
      rintro r w8 ⟨rfl, b8⟩
      have B8 := Lib.hid (B7.out.trans (b8.mono (by rw [← HG.out]; exact B7.out.size)))
      have BK8 := Lib.hid (BK7.out.fr b8)
      clear b8
      go_wp2
      go_roundw
      case rel => exact ⟨k + 1, by omega, by go_num, BK8.out, B8.out⟩
      case measure => simp [intOf]; omega
    · have hk2 : Hid (k = 2) := by show _ = _; omega
      go_wp2_with fail
      go_loopw [16] (fun i wr => ∃ j : Nat, j ≤ na ∧ i = .int .i64 j ∧ BookR wr g g k ∧ Below g w wr) (fun i _ => na - (intOf i).toNat)
      case atStart => exact ⟨0, Nat.zero_le _, rfl, HBK.out, HBel.out⟩
      clear HBK HBel HA
      case round =>
        obtain ⟨j, hj, rfl, hbk, hbel⟩ := hrel
        have HBK := Lib.hid hbk
        have HBel := Lib.hid hbel
        have HA : Hid (Rd wr 7 A na (rcells la)) := Ra.out.below (by have := HBel.out; rwa [HG.out])
        clear hbk hbel
        by_cases hltj : j < na
        · have hkb : (j : Int) < 9223372036854775807 := by have := hqn.out; omega
          obtain ⟨ad, ⟨nm, st, ⟨c, h, lo, m, x⟩⟩, rfl, hx, d0, d1, d2, d3, d4, d5, d6⟩ := HA.out.rec_ hltj
          simp only at d0 d1 d2 d3 d4 d5 d6
          have hwx := hwl.out _ (mem_of_get hx)
          have hF0 : Fr (fun _ => False) wr wr.drew := (Fr.refl _ wr).drew
          have HC : Hid (∀ W, Fr (fun _ => False) wr W → HeldR (ad.add (j * 7)) nm st c h lo m x W) := fun W f => ⟨f.cell d0 (fun h => h), f.cell d1 (fun h => h), f.cell d2 (fun h => h), f.cell d3 (fun h => h), f.cell d4 (fun h => h), f.cell d5 (fun h => h), f.cell d6 (fun h => h)⟩
          obtain ⟨V, hV⟩ : ∃ V, recOk ⟨nm, st, ⟨c, h, lo, m, x⟩⟩ = V := ⟨_, rfl⟩
          have H1 : Hid (∀ W, Fr (fun _ => False) wr W → Calls Tryz.prog 29 #[.agg #[.string nm, .int .i64 st, .int .i64 c, .int .i64 h, .int .u64 lo, .int .i64 m, .int .i64 x]] W fun r w'' => r = .returned (.bool V) ∧ Fr (fun _ => False) wr w'') := fun W hf => by
            refine (recvalid_any ⟨nm, st, ⟨c, h, lo, m, x⟩⟩ hwx.2.2 W).mono ?_
            rintro r w'' ⟨e, b⟩
            rw [← hV]
            exact ⟨e, hf.trans (Fr.b0 b) (fun _ h => h.elim)⟩
          have H2 : Hid (∀ W, Fr (fun _ => False) wr W → Calls Tryz.prog 30 #[.agg #[.string nm, .int .i64 st, .int .i64 c, .int .i64 h, .int .u64 lo, .int .i64 m, .int .i64 x]] W fun r w'' => r = .returned (.bool V) ∧ Fr (fun _ => False) wr w'') := fun W hf => by
            refine (rvalidR_any ⟨nm, st, ⟨c, h, lo, m, x⟩⟩ hwx.2.2 W).mono ?_
            rintro r w'' ⟨e, b⟩
            rw [← hV]
            exact ⟨e, hf.trans (Fr.b0 b) (fun _ h => h.elim)⟩
          have HBK2 : Hid (∀ W, Fr (fun _ => False) wr W → BookR W g g k ∧ Below g w W) := fun W f => ⟨HBK.out.fr (f.below (fun _ h => h.elim)), HBel.out.trans ((f.below (fun _ h => h.elim)).mono (by rw [← HG.out]; exact HBel.out.size))⟩
          clear hV hwx hx
          have hvv : (V != V) = false := bne_self_eq_false V
          have hk7 : ((j : Int) * 7).toNat = j * 7 := by omega
          go_wp2_with fail
          obtain ⟨x0, x1, x2, x3, x4, x5, x6⟩ := HC.out wr.drew hF0
          clear d0 d1 d2 d3 d4 d5 d6
          go_region_with (first | (go_at_call 29; refine (H1.out _ (by assumption)).mono ?_; rintro r w5 ⟨rfl, f5⟩; obtain ⟨y0, y1, y2, y3, y4, y5, y6⟩ := HC.out w5 f5) | (go_at_call 30; refine (H2.out _ (by assumption)).mono ?_; rintro r w6 ⟨rfl, f6⟩; obtain ⟨z0, z1, z2, z3, z4, z5, z6⟩ := HC.out w6 f6))
          all_goals
            clear x0 x1 x2 x3 x4 x5 x6 y0 y1 y2 y3 y4 y5 y6 z0 z1 z2 z3 z4 z5 z6 hkb hk7 hF0
            go_wp2
            go_roundw
            case rel => exact ⟨j + 1, by omega, by go_num, (HBK2.out _ (by assumption)).1, (HBK2.out _ (by assumption)).2⟩
            case measure => simp [intOf]; omega
        · obtain rfl : j = na := by omega
          go_wp2_with fail
          refine (AL.out _).mono ?_
          rintro r w7 ⟨rfl, b7⟩
          have B7 := Lib.hid (HBel.out.trans (b7.mono (by rw [← HG.out]; exact HBel.out.size)))
          have BK7 := Lib.hid (HBK.out.fr b7)
          clear b7
          go_wp2_with fail
          refine (bookR_apart w7 g g k BK7.out (by omega)).mono ?_
          rintro r w8 ⟨rfl, f8⟩
          have B8 : Hid (Below g w w8) := B7.out.trans (f8.below_of (by rw [← HG.out]; exact B7.out.size) (fun k hk => hk))
          clear f8
          go_wp2_with fail
          go_ret
          exact ⟨rfl, by have := B8.out; rwa [← HG.out] at this⟩
end Go.Proofs.YtkickdmiilmkoaaGreatDoor
