/- The statement RecParts: the walk. -/
import Derived.Test.YtkickdmiilmkoaaDoorAlive16
namespace Go.Proofs.YtkickdmiilmkoaaDoor
open Go.RowKit

set_option maxRecDepth 100000 in
set_option maxHeartbeats 16000000 in
theorem parts_walk (la lb : List RecV) (ls lt : List SampV) (A B C D : Option Addr) (na ca nb cb ns cs nt ct : Nat) (w : World)
    (ha : Rd w 7 A na (rcells la)) (hb : Rd w 7 B nb (rcells lb)) (hs : Rd w 3 C ns (scells ls)) (ht : Rd w 3 D nt (scells lt))
    (wa : ∀ r ∈ la, r.wf) (wb : ∀ r ∈ lb, r.wf) (ws : ∀ r ∈ ls, r.wf) (wt : ∀ r ∈ lt, r.wf)
    (h1 : na ≤ 9223372036854775807) (h2 : nb ≤ 9223372036854775807) (h3 : ns ≤ 9223372036854775807) (h4 : nt ≤ 9223372036854775807) :
    Calls Tryd.prog 4 #[.slice A na ca, .slice B nb cb, .slice C ns cs, .slice D nt ct] w fun r w' => r = .returned (.bool true) ∧ Below w.heap.size w w' := by
  have F1 := Lib.hid (few_any 20 (by decide) la (fun r h => (wa r h).2.2) A na ca w ha h1)
  have F2 := Lib.hid (few_any 20 (by decide) lb (fun r h => (wb r h).2.2) B nb cb w hb h2)
  have F3 := Lib.hid (some_any 20 (by decide) ls (fun r h => (ws r h).2.2) C ns cs w hs h3)
  have F4 := Lib.hid (some_any 20 (by decide) lt (fun r h => (wt r h).2.2) D nt ct w ht h4)
  have AL := Lib.hid (alive16_any w)
  have P1 : Hid (na ≤ 20 → ∀ w', Fr (fun _ => False) w w' → Calls Tryd.prog 16 #[.slice A na ca] w' fun e w'' => e = .returned (bif la.all recOk then .tuple #[.string (bstr (la.flatMap recB)), .int .i64 0] else .tuple #[.string { data := #[] }, .int .i64 1]) ∧ Below w'.heap.size w' w'') := fun h w' hf => recput_any la wa A na ca w' (ha.fr0 hf) (by omega)
  have P2 : Hid (nb ≤ 20 → ∀ w', Fr (fun _ => False) w w' → Calls Tryd.prog 16 #[.slice B nb cb] w' fun e w'' => e = .returned (bif lb.all recOk then .tuple #[.string (bstr (lb.flatMap recB)), .int .i64 0] else .tuple #[.string { data := #[] }, .int .i64 1]) ∧ Below w'.heap.size w' w'') := fun h w' hf => recput_any lb wb B nb cb w' (hb.fr0 hf) (by omega)
  have P3 : Hid (ns ≤ 20 → ∀ w', Fr (fun _ => False) w w' → Calls Tryd.prog 17 #[.slice C ns cs] w' fun e w'' => e = .returned (bif ls.all sampOk then .tuple #[.string (bstr (ls.flatMap sampB)), .int .i64 0] else .tuple #[.string { data := #[] }, .int .i64 1]) ∧ Below w'.heap.size w' w'') := fun h w' hf => sampsput_any ls ws C ns cs w' (hs.fr0 hf) (by omega)
  have P4 : Hid (nt ≤ 20 → ∀ w', Fr (fun _ => False) w w' → Calls Tryd.prog 17 #[.slice D nt ct] w' fun e w'' => e = .returned (bif lt.all sampOk then .tuple #[.string (bstr (lt.flatMap sampB)), .int .i64 0] else .tuple #[.string { data := #[] }, .int .i64 1]) ∧ Below w'.heap.size w' w'') := fun h w' hf => sampsput_any lt wt D nt ct w' (ht.fr0 hf) (by omega)
  have P5 : Hid (na ≤ 20 → nb ≤ 20 → ∀ E ce w', Rd w' 7 E (na + nb) (rcells (la ++ lb)) → Calls Tryd.prog 16 #[.slice E (na + nb) ce] w' fun e w'' => e = .returned (bif la.all recOk && lb.all recOk then .tuple #[.string (bstr (la.flatMap recB) ++ bstr (lb.flatMap recB)), .int .i64 0] else .tuple #[.string { data := #[] }, .int .i64 1]) ∧ Below w'.heap.size w' w'') := fun h h' E ce w' hr => by
    have := recput_any (la ++ lb) (fun r hr => (List.mem_append.1 hr).elim (wa r) (wb r)) E (na + nb) ce w' hr (by omega)
    rwa [List.all_append, List.flatMap_append, ← bstr_append] at this
  have P6 : Hid (ns ≤ 20 → nt ≤ 20 → ∀ E ce w', Rd w' 3 E (ns + nt) (scells (ls ++ lt)) → Calls Tryd.prog 17 #[.slice E (ns + nt) ce] w' fun e w'' => e = .returned (bif ls.all sampOk && lt.all sampOk then .tuple #[.string (bstr (ls.flatMap sampB) ++ bstr (lt.flatMap sampB)), .int .i64 0] else .tuple #[.string { data := #[] }, .int .i64 1]) ∧ Below w'.heap.size w' w'') := fun h h' E ce w' hr => by
    have := sampsput_any (ls ++ lt) (fun r hr => (List.mem_append.1 hr).elim (ws r) (wt r)) E (ns + nt) ce w' hr (by omega)
    rwa [List.all_append, List.flatMap_append, ← bstr_append] at this
  have Ra := Lib.hid ha
  have Rb := Lib.hid hb
  have Rs := Lib.hid hs
  have Rt := Lib.hid ht
  have La : Hid (na ≤ 20 → la.all recOk = true → (bstr (la.flatMap recB)).size ≤ 1280) := fun h h' => by rw [bstr_size, recsB_len h', ha.recs_len]; omega
  have Lb : Hid (nb ≤ 20 → lb.all recOk = true → (bstr (lb.flatMap recB)).size ≤ 1280) := fun h h' => by rw [bstr_size, recsB_len h', hb.recs_len]; omega
  have Ls : Hid (ns ≤ 20 → ls.all sampOk = true → (bstr (ls.flatMap sampB)).size ≤ 1280) := fun h h' => by rw [bstr_size, sampsB_len h', hs.samps_len]; omega
  have Lt : Hid (nt ≤ 20 → lt.all sampOk = true → (bstr (lt.flatMap sampB)).size ≤ 1280) := fun h h' => by rw [bstr_size, sampsB_len h', ht.samps_len]; omega
  obtain ⟨X, hX⟩ : ∃ X, bstr (la.flatMap recB) = X := ⟨_, rfl⟩
  obtain ⟨Y, hY⟩ : ∃ Y, bstr (lb.flatMap recB) = Y := ⟨_, rfl⟩
  obtain ⟨U, hU⟩ : ∃ U, bstr (ls.flatMap sampB) = U := ⟨_, rfl⟩
  obtain ⟨V, hV⟩ : ∃ V, bstr (lt.flatMap sampB) = V := ⟨_, rfl⟩
  rw [hX] at P1 P5 La
  rw [hY] at P2 P5 Lb
  rw [hU] at P3 P6 Ls
  rw [hV] at P4 P6 Lt
  obtain ⟨Z, hZ⟩ : ∃ Z, X ++ Y = Z := ⟨_, rfl⟩
  obtain ⟨T, hT⟩ : ∃ T, U ++ V = T := ⟨_, rfl⟩
  rw [hZ] at P5
  rw [hT] at P6
  have HZ := Lib.hid hZ
  have HT := Lib.hid hT
  clear hZ hT
  obtain ⟨pa, hpa⟩ : ∃ p, la.all recOk = p := ⟨_, rfl⟩
  obtain ⟨pb, hpb⟩ : ∃ p, lb.all recOk = p := ⟨_, rfl⟩
  obtain ⟨ps, hps⟩ : ∃ p, ls.all sampOk = p := ⟨_, rfl⟩
  obtain ⟨pt, hpt⟩ : ∃ p, lt.all sampOk = p := ⟨_, rfl⟩
  rw [hpa] at P1 P5 La
  rw [hpb] at P2 P5 Lb
  rw [hps] at P3 P6 Ls
  rw [hpt] at P4 P6 Lt
  obtain ⟨i7, hi7, hz70, hz71, hz72⟩ := info_parts info_rec
  obtain ⟨i3, hi3, hz30, hz31, hz32⟩ := info_parts info_samp
  clear ha hb hs ht wa wb ws wt hX hY hU hV hpa hpb hps hpt
  go_enter Tryd.func4, Tryd.ntmps4
  go_wp2_with fail
  refine (F1.out).mono ?_
  rintro r w1 ⟨⟨b, rfl, q1⟩, rfl⟩
  cases b
  · clear q1
    go_wp2_with fail
    refine (AL.out).mono ?_
    rintro r w2 ⟨rfl, b2⟩
    have B2 := Lib.hid b2
    clear b2
    go_wp2_with fail
    go_ret
    exact ⟨rfl, B2.out⟩
  replace q1 := q1 rfl
  go_wp2_with fail
  refine (F2.out).mono ?_
  rintro r w1 ⟨⟨b, rfl, q2⟩, rfl⟩
  cases b
  · clear q2
    go_wp2_with fail
    refine (AL.out).mono ?_
    rintro r w2 ⟨rfl, b2⟩
    have B2 := Lib.hid b2
    clear b2
    go_wp2_with fail
    go_ret
    exact ⟨rfl, B2.out⟩
  replace q2 := q2 rfl
  go_wp2_with fail
  refine (F3.out).mono ?_
  rintro r w1 ⟨⟨b, rfl, q3⟩, rfl⟩
  cases b
  · clear q3
    go_wp2_with fail
    refine (AL.out).mono ?_
    rintro r w2 ⟨rfl, b2⟩
    have B2 := Lib.hid b2
    clear b2
    go_wp2_with fail
    go_ret
    exact ⟨rfl, B2.out⟩
  replace q3 := q3 rfl
  go_wp2_with fail
  refine (F4.out).mono ?_
  rintro r w1 ⟨⟨b, rfl, q4⟩, rfl⟩
  cases b
  · clear q4
    go_wp2_with fail
    refine (AL.out).mono ?_
    rintro r w2 ⟨rfl, b2⟩
    have B2 := Lib.hid b2
    clear b2
    go_wp2_with fail
    go_ret
    exact ⟨rfl, B2.out⟩
  replace q4 := q4 rfl
  replace P1 := Lib.hid (P1.out q1)
  replace P2 := Lib.hid (P2.out q2)
  replace P3 := Lib.hid (P3.out q3)
  replace P4 := Lib.hid (P4.out q4)
  replace P5 := Lib.hid (P5.out q1 q2)
  replace P6 := Lib.hid (P6.out q3 q4)
  replace La := Lib.hid (La.out q1)
  replace Lb := Lib.hid (Lb.out q2)
  replace Ls := Lib.hid (Ls.out q3)
  replace Lt := Lib.hid (Lt.out q4)
  clear F1 F2 F3 F4 AL h1 h2 h3 h4
  go_wp2_with fail
  refine (P1.out w (Fr.refl _ _)).mono ?_
  rintro r w1 ⟨rfl, b1⟩
  have O1 := Lib.hid ((Own.start w).below b1)
  clear b1
  cases pa
  all_goals
    go_wp2_with fail
    refine (P2.out w1 (Fr.b0 O1.out.bel)).mono ?_
    rintro r w2 ⟨rfl, b2⟩
    have O2 := Lib.hid (O1.out.below b2)
    clear b2
    cases pb
    all_goals
      have la0 := La.out
      have lb0 := Lb.out
      try simp only [forall_const] at la0
      try simp only [forall_const] at lb0
      go_wp2_with (at_builtin; refine wpList_app rfl _ _ 34 rfl 80 i7 _ 7 64 Tryd.underlying34 hi7 hz70 hz71 hz72 rfl (by decide) (.slice none 0 0) 0 [] rfl (World.ownsRow_nil _ _ _ _) A na ca (rcells la) rfl (Ra.out.fr0 (Fr.b0 O2.out.bel)) (rcells_one la) ?_ ?_ ?_)
      · unfold maxLen; omega
      · omega
      intro E1 d1 w3 ho hm
      (try simp only [Nat.zero_add, List.nil_append] at ho)
      (try simp only [Nat.zero_add] at hm)
      (try rw [Nat.zero_add])
      have R3 := Lib.hid ho
      have O3 := Lib.hid ((O2.out.also (G := rowF (.slice none 0 0)) (fun k hk => by cases hk)).mv hm)
      clear ho hm
      go_wp2_with (at_builtin; refine wpList_app rfl _ _ 34 rfl 80 i7 _ 7 64 Tryd.underlying34 hi7 hz70 hz71 hz72 rfl (by decide) (.slice E1 na d1) na (rcells la) rfl R3.out B nb cb (rcells lb) rfl (Rb.out.fr0 (Fr.b0 O3.out.bel)) (rcells_one lb) ?_ ?_ ?_)
      · unfold maxLen; omega
      · omega
      intro E2 d2 w4 ho hm
      have R4 := Lib.hid ho
      have O4 := Lib.hid ((O3.out).mv hm)
      clear ho hm
      have R5 := Lib.hid (show Rd w4 7 E2 (na + nb) (rcells (la ++ lb)) by have := Rd.of_own R4.out; rw [rcells_append]; exact this)
      clear R3 R4 O3
      go_wp2_with fail
      refine (P5.out _ _ w4 R5.out).mono ?_
      rintro r w5 ⟨rfl, b5⟩
      have O5 := Lib.hid (O4.out.below b5)
      clear b5 R5 O4
      simp only [Bool.and_true, Bool.and_false, Bool.true_and, Bool.false_and, cond_true, cond_false]
      have hZ := HZ.out
      go_wp2_with fail
      clear hZ
      refine (P3.out w5 (Fr.b0 O5.out.bel)).mono ?_
      rintro r w6 ⟨rfl, b6⟩
      have O6 := Lib.hid (O5.out.below b6)
      clear b6
      clear Ra Rb La Lb P1 P2 P5
      clear la0 lb0
      cases ps
      all_goals
        go_wp2_with fail
        refine (P4.out w6 (Fr.b0 O6.out.bel)).mono ?_
        rintro r w7 ⟨rfl, b7⟩
        have O7 := Lib.hid (O6.out.below b7)
        clear b7 O5
        cases pt
        all_goals
          have ls0 := Ls.out
          have lt0 := Lt.out
          try simp only [forall_const] at ls0
          try simp only [forall_const] at lt0
          go_wp2_with (at_builtin; refine wpList_app rfl _ _ 22 rfl 62 i3 _ 3 32 Tryd.underlying22 hi3 hz30 hz31 hz32 rfl (by decide) (.slice none 0 0) 0 [] rfl (World.ownsRow_nil _ _ _ _) C ns cs (scells ls) rfl (Rs.out.fr0 (Fr.b0 O7.out.bel)) (scells_one ls) ?_ ?_ ?_)
          · unfold maxLen; omega
          · omega
          intro E3 d3 w8 ho hm
          (try simp only [Nat.zero_add, List.nil_append] at ho)
          (try simp only [Nat.zero_add] at hm)
          (try rw [Nat.zero_add])
          have R8 := Lib.hid ho
          have O8 := Lib.hid ((O7.out.also (G := rowF (.slice none 0 0)) (fun k hk => by cases hk)).mv hm)
          clear ho hm
          go_wp2_with (at_builtin; refine wpList_app rfl _ _ 22 rfl 62 i3 _ 3 32 Tryd.underlying22 hi3 hz30 hz31 hz32 rfl (by decide) (.slice E3 ns d3) ns (scells ls) rfl R8.out D nt ct (scells lt) rfl (Rt.out.fr0 (Fr.b0 O8.out.bel)) (scells_one lt) ?_ ?_ ?_)
          · unfold maxLen; omega
          · omega
          intro E4 d4 w9 ho hm
          have R9 := Lib.hid ho
          have O9 := Lib.hid ((O8.out).mv hm)
          clear ho hm
          have R10 := Lib.hid (show Rd w9 3 E4 (ns + nt) (scells (ls ++ lt)) by have := Rd.of_own R9.out; rw [scells_append]; exact this)
          clear R8 R9 O8
          go_wp2_with fail
          refine (P6.out _ _ w9 R10.out).mono ?_
          rintro r w10 ⟨rfl, b10⟩
          have O10 := Lib.hid (O9.out.below b10)
          clear b10 R10 O9
          simp only [Bool.and_true, Bool.and_false, Bool.true_and, Bool.false_and, cond_true, cond_false]
          go_wp2_with fail
          refine (alive16_any w10).mono ?_
          rintro r w11 ⟨rfl, b11⟩
          have O11 := Lib.hid (O10.out.below b11)
          have hT := HT.out
          clear b11
          go_wp2_with fail
          go_ret
          exact ⟨by first | rfl | simp, O11.out.bel⟩
end Go.Proofs.YtkickdmiilmkoaaDoor
