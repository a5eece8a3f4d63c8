/- The statement RecBack: the walk. -/
import Derived.Test.YtkickdmiilmkoaaDoorAlive16
import Derived.Test.YtkickdmiilmkoaaDoorGetS
import Derived.Test.YtkickdmiilmkoaaDoorSame
namespace Go.Proofs.YtkickdmiilmkoaaDoor
open Go.RowKit

/-- rec.Get of what was put. -/
theorem recget_back (l : List RecV) (hw : ∀ r ∈ l, r.wf) (hok : l.all recOk = true) (hn : l.length ≤ 1000000) (w : World) :
    Calls Tryd.prog 18 #[.string (bstr (l.flatMap recB))] w fun r w' => ∃ A c, r = .returned (.tuple #[.slice A l.length c, .int .i64 0]) ∧ Rd w' 7 A l.length (rcells l) ∧ Below w.heap.size w w' :=
  (recget_any (l.flatMap recB) l.length (recsB_len hok) (by rw [recsB_len hok]; omega) w).mono fun r w' ⟨h1, _, h3⟩ => by
    obtain ⟨A, c, e, _, hr, _⟩ := h1 (recsOk_back hw hok)
    rw [recsRd_back hw hok] at hr
    exact ⟨A, c, e, hr, h3⟩
theorem sampget_back (l : List SampV) (hw : ∀ r ∈ l, r.wf) (hok : l.all sampOk = true) (hn : l.length ≤ 1000000) (w : World) :
    Calls Tryd.prog 20 #[.string (bstr (l.flatMap sampB))] w fun r w' => ∃ A c, r = .returned (.tuple #[.slice A l.length c, .int .i64 0]) ∧ Rd w' 3 A l.length (scells l) ∧ Below w.heap.size w w' :=
  (samplesget_any (l.flatMap sampB) l.length (sampsB_len hok) (by rw [sampsB_len hok]; omega) w).mono fun r w' ⟨h1, _, h3⟩ => by
    obtain ⟨A, c, e, hr⟩ := h1 (sampsOk_back hw hok)
    rw [sampsRd_back hw hok] at hr
    exact ⟨A, c, e, Rd.of_own hr, h3⟩
theorem samerecs_eq (l : List RecV) (A : Option Addr) (n c : Nat) (B : Option Addr) (d : Nat) (w : World) (ha : Rd w 7 A n (rcells l)) (hb : Rd w 7 B n (rcells l)) (hn : n ≤ 1000000) :
    Calls Tryd.prog 19 #[.slice A n c, .slice B n d] w fun r w' => r = .returned (.bool true) ∧ Below w.heap.size w w' :=
  (samerecs_any l l A n c B n d w ha hb (by omega) (by omega)).mono fun r w' ⟨e, b⟩ => ⟨by rw [e, decide_eq_true rfl], b⟩
theorem samesamps_eq (l : List SampV) (A : Option Addr) (n c : Nat) (B : Option Addr) (d : Nat) (w : World) (ha : Rd w 3 A n (scells l)) (hb : Rd w 3 B n (scells l)) (hn : n ≤ 1000000) :
    Calls Tryd.prog 21 #[.slice A n c, .slice B n d] w fun r w' => r = .returned (.bool true) ∧ Below w.heap.size w w' :=
  (samesamps_any l l A n c B n d w ha hb (by omega) (by omega)).mono fun r w' ⟨e, b⟩ => ⟨by rw [e, decide_eq_true rfl], b⟩

set_option maxRecDepth 100000 in
set_option maxHeartbeats 16000000 in
theorem rback_walk (la : List RecV) (ls : List SampV) (A C : Option Addr) (na ca ns cs : Nat) (cut : Int) (w : World)
    (ha : Rd w 7 A na (rcells la)) (hs : Rd w 3 C ns (scells ls)) (wa : ∀ r ∈ la, r.wf) (ws : ∀ r ∈ ls, r.wf)
    (h1 : na ≤ 9223372036854775807) (h3 : ns ≤ 9223372036854775807) (hc : in64 cut) :
    Calls Tryd.prog 5 #[.slice A na ca, .slice C ns cs, .int .i64 cut] w fun r w' => r = .returned (.bool true) ∧ Below w.heap.size w w' := by
  have F1 := Lib.hid (few_any 30 (by decide) la (fun r h => (wa r h).2.2) A na ca w ha h1)
  have F3 := Lib.hid (some_any 30 (by decide) ls (fun r h => (ws r h).2.2) C ns cs w hs h3)
  have AL := Lib.hid (fun w' => alive16_any w')
  have Ra := Lib.hid ha
  have Rs := Lib.hid hs
  have Na := Lib.hid ha.recs_len
  have Ns := Lib.hid hs.samps_len
  have P1 : Hid (na ≤ 30 → ∀ w', Fr (fun _ => False) w w' → Calls Tryd.prog 16 #[.slice A na ca] w' fun e w'' => e = .returned (bif la.all recOk then .tuple #[.string (bstr (la.flatMap recB)), .int .i64 0] else .tuple #[.string { data := #[] }, .int .i64 1]) ∧ Below w'.heap.size w' w'') := fun q w' f => recput_any la wa A na ca w' (Ra.out.fr0 f) (by omega)
  have P3 : Hid (ns ≤ 30 → ∀ w', Fr (fun _ => False) w w' → Calls Tryd.prog 17 #[.slice C ns cs] w' fun e w'' => e = .returned (bif ls.all sampOk then .tuple #[.string (bstr (ls.flatMap sampB)), .int .i64 0] else .tuple #[.string { data := #[] }, .int .i64 1]) ∧ Below w'.heap.size w' w'') := fun q w' f => sampsput_any ls ws C ns cs w' (Rs.out.fr0 f) (by omega)
  have G1 : Hid (na ≤ 30 → la.all recOk = true → ∀ w', Calls Tryd.prog 18 #[.string (bstr (la.flatMap recB))] w' fun r w'' => ∃ A c, r = .returned (.tuple #[.slice A na c, .int .i64 0]) ∧ Rd w'' 7 A na (rcells la) ∧ Below w'.heap.size w' w'') := fun q h w' => by
    have := recget_back la wa h (by rw [Na.out]; omega) w'
    rwa [Na.out] at this
  have G3 : Hid (ns ≤ 30 → ls.all sampOk = true → ∀ w', Calls Tryd.prog 20 #[.string (bstr (ls.flatMap sampB))] w' fun r w'' => ∃ A c, r = .returned (.tuple #[.slice A ns c, .int .i64 0]) ∧ Rd w'' 3 A ns (scells ls) ∧ Below w'.heap.size w' w'') := fun q h w' => by
    have := sampget_back ls ws h (by rw [Ns.out]; omega) w'
    rwa [Ns.out] at this
  have La : Hid (la.all recOk = true → (bstr (la.flatMap recB)).size = 64 * na) := fun h' => by rw [bstr_size, recsB_len h', Na.out]
  have Ls : Hid (ls.all sampOk = true → (bstr (ls.flatMap sampB)).size = 32 * ns) := fun h' => by rw [bstr_size, sampsB_len h', Ns.out]
  obtain ⟨X, hX⟩ : ∃ X, bstr (la.flatMap recB) = X := ⟨_, rfl⟩
  obtain ⟨U, hU⟩ : ∃ U, bstr (ls.flatMap sampB) = U := ⟨_, rfl⟩
  rw [hX] at P1 G1 La
  rw [hU] at P3 G3 Ls
  obtain ⟨pa, hpa⟩ : ∃ p, la.all recOk = p := ⟨_, rfl⟩
  obtain ⟨ps, hps⟩ : ∃ p, ls.all sampOk = p := ⟨_, rfl⟩
  rw [hpa] at P1 G1 La
  rw [hps] at P3 G3 Ls
  have SH : Hid (∀ w', 0 < cut → cut < (X.size : Int) → X.size ≤ 1920 → cut % 64 ≠ 0 → Calls Tryd.prog 18 #[.string (X.extract 0 cut.toNat)] w' fun r w'' => r = .returned (.tuple #[.slice none 0 0, .int .i64 5]) ∧ w' = w'') := fun w' k1 k2 k3 k4 => by
    have hz : (X.extract 0 cut.toNat).size = cut.toNat := by rw [ByteArray.size_extract]; omega
    exact recget_short _ (by rw [hz]; omega) (by rw [hz]; omega) w'
  obtain ⟨hc1, hc2⟩ := hc
  clear ha hs wa ws hX hU hpa hps
  go_enter Tryd.func5, Tryd.ntmps5
  go_wp2_with fail
  refine (F1.out).mono ?_
  rintro r w1 ⟨⟨b, rfl, q1⟩, rfl⟩
  cases b
  · clear q1
    go_wp2_with fail
    refine (AL.out _).mono ?_
    rintro r w2 ⟨rfl, b2⟩
    have B2 := Lib.hid b2
    clear b2
    go_wp2_with fail
    go_ret
    exact ⟨rfl, B2.out⟩
  replace q1 := q1 rfl
  go_wp2_with fail
  refine (F3.out).mono ?_
  rintro r w1 ⟨⟨b, rfl, q3⟩, rfl⟩
  cases b
  · clear q3
    go_wp2_with fail
    refine (AL.out _).mono ?_
    rintro r w2 ⟨rfl, b2⟩
    have B2 := Lib.hid b2
    clear b2
    go_wp2_with fail
    go_ret
    exact ⟨rfl, B2.out⟩
  replace q3 := q3 rfl
  replace P1 := Lib.hid (P1.out q1)
  replace P3 := Lib.hid (P3.out q3)
  replace G1 := Lib.hid (G1.out q1)
  replace G3 := Lib.hid (G3.out q3)
  clear F1 F3
  go_wp2_with fail
  refine (P1.out w (Fr.refl _ _)).mono ?_
  rintro r w1 ⟨rfl, b1⟩
  have O1 := Lib.hid ((Own.start w).below b1)
  clear b1
  have hq1 : Hid (na ≤ 30) := q1
  have hq3 : Hid (ns ≤ 30) := q3
  cases pa
  · go_wp2_with fail
    refine (P3.out w1 (Fr.b0 O1.out.bel)).mono ?_
    rintro r w2 ⟨rfl, b2⟩
    have O2 := Lib.hid (O1.out.below b2)
    clear b2
    cases ps
    · go_wp2_with fail
      refine (AL.out _).mono ?_
      rintro r w3 ⟨rfl, b3⟩
      have O3 := Lib.hid (O2.out.below b3)
      clear b3
      go_wp2_with fail
      go_ret
      exact ⟨rfl, O3.out.bel⟩
    · have hUz := Ls.out (by simp)
      have hUi : (U.size : Int) = 32 * (ns : Int) := by omega
      have hUn : ((U.size : Int) != 32 * (ns : Int)) = false := by simpa using hUi
      have hUc := Lib.hid hUi
      clear hUz hUi hUn
      go_wp2_with fail
      refine (G3.out (by simp) w2).mono ?_
      rintro r w3 ⟨D, d, rfl, rd, b3⟩
      have O3 := Lib.hid (O2.out.below b3)
      have Rd3 := Lib.hid rd
      clear b3 rd
      go_wp2_with fail
      refine (samesamps_eq ls _ _ _ _ _ w3 Rd3.out (Rs.out.fr0 (Fr.b0 O3.out.bel)) (by omega)).mono ?_
      rintro r w4 ⟨rfl, b4⟩
      have O4 := Lib.hid (O3.out.below b4)
      clear b4
      have hUn : ((U.size : Int) != 32 * (ns : Int)) = false := by simpa using hUc.out
      go_wp2_with fail
      refine (AL.out _).mono ?_
      rintro r w5 ⟨rfl, b5⟩
      have O5 := Lib.hid (O4.out.below b5)
      clear b5
      go_wp2_with fail
      go_ret
      exact ⟨rfl, O5.out.bel⟩
  · have hXz := La.out (by simp)
    have hXi : (X.size : Int) = 64 * (na : Int) := by omega
    have hXc := Lib.hid hXi
    have hXm := Lib.hid (show X.size ≤ 1920 by have := hq1.out; omega)
    have hXm2 : (X.size : Int) ≤ 1920 := by have := hq1.out; omega
    clear hXz hXi
    go_wp2_with fail
    refine (P3.out w1 (Fr.b0 O1.out.bel)).mono ?_
    rintro r w2 ⟨rfl, b2⟩
    have O2 := Lib.hid (O1.out.below b2)
    clear b2
    cases ps
    · skip
      go_wp2_with fail
      refine (G1.out (by simp) w2).mono ?_
      rintro r w3 ⟨D, d, rfl, rd, b3⟩
      have O3 := Lib.hid (O2.out.below b3)
      have Rd3 := Lib.hid rd
      clear b3 rd
      go_wp2_with fail
      refine (samerecs_eq la _ _ _ _ _ w3 Rd3.out (Ra.out.fr0 (Fr.b0 O3.out.bel)) (by have := hq1.out; omega)).mono ?_
      rintro r w4 ⟨rfl, b4⟩
      have O4 := Lib.hid (O3.out.below b4)
      clear b4
      have hXn : ((X.size : Int) != 64 * (na : Int)) = false := by simpa using hXc.out
      by_cases k1 : 0 < cut
      · by_cases k2 : cut < (X.size : Int)
        · have k5 : cut.toNat ≤ X.size := by omega
          have k6 : ((cut.toNat : Nat) : Int) = cut := by omega
          by_cases k3 : cut % 64 = 0
          · have k4 : (cut % 64 != 0) = false := by simpa using k3
            clear k3 k5 k6
            go_wp2_with fail
            refine (AL.out _).mono ?_
            rintro r w8 ⟨rfl, b8⟩
            have O8 := Lib.hid (O4.out.below b8)
            clear b8
            go_wp2_with fail
            go_ret
            exact ⟨rfl, O8.out.bel⟩
          · have k4 : (cut % 64 != 0) = true := by simpa using k3
            have K3 := Lib.hid (SH.out w4 k1 k2 hXm.out k3)
            clear k3
            go_wp2_with fail
            refine (K3.out).mono ?_
            rintro r w9 ⟨rfl, rfl⟩
            clear k4 k5 k6
            go_wp2_with fail
            refine (AL.out _).mono ?_
            rintro r w8 ⟨rfl, b8⟩
            have O8 := Lib.hid (O4.out.below b8)
            clear b8
            go_wp2_with fail
            go_ret
            exact ⟨rfl, O8.out.bel⟩
        · have k2' : decide (cut < (X.size : Int)) = false := decide_eq_false k2
          go_wp2_with fail
          refine (AL.out _).mono ?_
          rintro r w8 ⟨rfl, b8⟩
          have O8 := Lib.hid (O4.out.below b8)
          clear b8
          go_wp2_with fail
          go_ret
          exact ⟨rfl, O8.out.bel⟩
      · have k1' : decide (0 < cut) = false := decide_eq_false k1
        go_wp2_with fail
        refine (AL.out _).mono ?_
        rintro r w8 ⟨rfl, b8⟩
        have O8 := Lib.hid (O4.out.below b8)
        clear b8
        go_wp2_with fail
        go_ret
        exact ⟨rfl, O8.out.bel⟩
    · skip
      have hUz := Ls.out (by simp)
      have hUc := Lib.hid (show (U.size : Int) = 32 * (ns : Int) by omega)
      clear hUz
      go_wp2_with fail
      refine (G1.out (by simp) w2).mono ?_
      rintro r w3 ⟨D, d, rfl, rd, b3⟩
      have O3 := Lib.hid (O2.out.below b3)
      have Rd3 := Lib.hid rd
      clear b3 rd
      go_wp2_with fail
      refine (samerecs_eq la _ _ _ _ _ w3 Rd3.out (Ra.out.fr0 (Fr.b0 O3.out.bel)) (by have := hq1.out; omega)).mono ?_
      rintro r w4 ⟨rfl, b4⟩
      have O4 := Lib.hid (O3.out.below b4)
      clear b4
      have hXn : ((X.size : Int) != 64 * (na : Int)) = false := by simpa using hXc.out
      by_cases k1 : 0 < cut
      · by_cases k2 : cut < (X.size : Int)
        · have k5 : cut.toNat ≤ X.size := by omega
          have k6 : ((cut.toNat : Nat) : Int) = cut := by omega
          by_cases k3 : cut % 64 = 0
          · have k4 : (cut % 64 != 0) = false := by simpa using k3
            clear k3 k5 k6
            go_wp2_with fail
            refine (G3.out (by simp) _).mono ?_
            rintro r w5 ⟨D, d, rfl, rd, b5⟩
            have O5 := Lib.hid (O4.out.below b5)
            have Rd5 := Lib.hid rd
            clear b5 rd
            go_wp2_with fail
            refine (samesamps_eq ls _ _ _ _ _ w5 Rd5.out (Rs.out.fr0 (Fr.b0 O5.out.bel)) (by have := hq3.out; omega)).mono ?_
            rintro r w6 ⟨rfl, b6⟩
            have O6 := Lib.hid (O5.out.below b6)
            clear b6
            have hUn : ((U.size : Int) != 32 * (ns : Int)) = false := by simpa using hUc.out
            go_wp2_with fail
            refine (AL.out _).mono ?_
            rintro r w8 ⟨rfl, b8⟩
            have O8 := Lib.hid (O6.out.below b8)
            clear b8
            go_wp2_with fail
            go_ret
            exact ⟨rfl, O8.out.bel⟩
          · have k4 : (cut % 64 != 0) = true := by simpa using k3
            have K3 := Lib.hid (SH.out w4 k1 k2 hXm.out k3)
            clear k3
            go_wp2_with fail
            refine (K3.out).mono ?_
            rintro r w9 ⟨rfl, rfl⟩
            clear k4 k5 k6
            go_wp2_with fail
            refine (G3.out (by simp) _).mono ?_
            rintro r w5 ⟨D, d, rfl, rd, b5⟩
            have O5 := Lib.hid (O4.out.below b5)
            have Rd5 := Lib.hid rd
            clear b5 rd
            go_wp2_with fail
            refine (samesamps_eq ls _ _ _ _ _ w5 Rd5.out (Rs.out.fr0 (Fr.b0 O5.out.bel)) (by have := hq3.out; omega)).mono ?_
            rintro r w6 ⟨rfl, b6⟩
            have O6 := Lib.hid (O5.out.below b6)
            clear b6
            have hUn : ((U.size : Int) != 32 * (ns : Int)) = false := by simpa using hUc.out
            go_wp2_with fail
            refine (AL.out _).mono ?_
            rintro r w8 ⟨rfl, b8⟩
            have O8 := Lib.hid (O6.out.below b8)
            clear b8
            go_wp2_with fail
            go_ret
            exact ⟨rfl, O8.out.bel⟩
        · have k2' : decide (cut < (X.size : Int)) = false := decide_eq_false k2
          go_wp2_with fail
          refine (G3.out (by simp) _).mono ?_
          rintro r w5 ⟨D, d, rfl, rd, b5⟩
          have O5 := Lib.hid (O4.out.below b5)
          have Rd5 := Lib.hid rd
          clear b5 rd
          go_wp2_with fail
          refine (samesamps_eq ls _ _ _ _ _ w5 Rd5.out (Rs.out.fr0 (Fr.b0 O5.out.bel)) (by have := hq3.out; omega)).mono ?_
          rintro r w6 ⟨rfl, b6⟩
          have O6 := Lib.hid (O5.out.below b6)
          clear b6
          have hUn : ((U.size : Int) != 32 * (ns : Int)) = false := by simpa using hUc.out
          go_wp2_with fail
          refine (AL.out _).mono ?_
          rintro r w8 ⟨rfl, b8⟩
          have O8 := Lib.hid (O6.out.below b8)
          clear b8
          go_wp2_with fail
          go_ret
          exact ⟨rfl, O8.out.bel⟩
      · have k1' : decide (0 < cut) = false := decide_eq_false k1
        go_wp2_with fail
        refine (G3.out (by simp) _).mono ?_
        rintro r w5 ⟨D, d, rfl, rd, b5⟩
        have O5 := Lib.hid (O4.out.below b5)
        have Rd5 := Lib.hid rd
        clear b5 rd
        go_wp2_with fail
        refine (samesamps_eq ls _ _ _ _ _ w5 Rd5.out (Rs.out.fr0 (Fr.b0 O5.out.bel)) (by have := hq3.out; omega)).mono ?_
        rintro r w6 ⟨rfl, b6⟩
        have O6 := Lib.hid (O5.out.below b6)
        clear b6
        have hUn : ((U.size : Int) != 32 * (ns : Int)) = false := by simpa using hUc.out
        go_wp2_with fail
        refine (AL.out _).mono ?_
        rintro r w8 ⟨rfl, b8⟩
        have O8 := Lib.hid (O6.out.below b8)
        clear b8
        go_wp2_with fail
        go_ret
        exact ⟨rfl, O8.out.bel⟩
end Go.Proofs.YtkickdmiilmkoaaDoor
