/- Walks of state: right, none, add, Room, Pending, Tiers, Shadow, Abort, Ask; of a nil one. -/
import Derived.Test.YtkfdgodngbinlaaGreatDoorShNote
import Derived.Test.YtkfdgodngbinlaaGreatDoorTiersSame
namespace Go.Proofs.YtkfdgodngbinlaaGreatDoor
set_option linter.all false
open Go.RowKit

theorem stright_any (room : Int) (w : World) : Calls Tryz.prog 40 #[.int .i64 room] w fun r w' => r = .returned (.bool (decide (0 ≤ room) && decide (room ≤ 4096))) ∧ w = w' := by
 have go : ∀ b1 b2 : Bool, decide (0 ≤ room) = b1 → decide (room ≤ 4096) = b2 → Calls Tryz.prog 40 #[.int .i64 room] w fun r w' => r = .returned (.bool (b1 && b2)) ∧ w = w' := by
  intro b1 b2 e1 e2
  cases b1 <;> cases b2 <;> (
   go_enter Tryz.func40, Tryz.ntmps40
   go_wp2_with fail
   go_ret
   exact ⟨by first | rfl | simp [*], rfl⟩)
 exact go _ _ rfl rfl
theorem stadd_any (a b : Int) (w : World) (h0 : 0 ≤ a) (h1 : 0 ≤ b) (h2 : a + b ≤ 9223372036854775807) : Calls Tryz.prog 48 #[.int .i64 a, .int .i64 b] w fun r w' => r = .returned (.int .i64 (a + b)) ∧ w = w' := by
 have e1 : IntKind.i64.wrap (9223372036854775807 - b) = 9223372036854775807 - b := IntWalk.i64_in _ (by omega)
 have e2 : decide (9223372036854775807 - b < a) = false := decide_eq_false (by omega)
 have e2' : ¬ 9223372036854775807 - b < a := by omega
 have e3 : IntKind.i64.wrap (a + b) = a + b := IntWalk.i64_in _ (by omega)
 go_enter Tryz.func48, Tryz.ntmps48
 go_wp2_with fail
 go_ret
 exact ⟨by first | rfl | simp [*], rfl⟩
section
variable {W : World} {g lo : Nat} {Q : StX} {c t : Nat} {Ft Fs F : Nat → Prop} {v : Value}
theorem StIn.cells (h : StIn W g lo Q c t Ft Fs v) {G : Nat → Prop} {W' : World} (f : Fr G W W') (hg : ¬ G g) : W'.cell? ⟨g, 0, none⟩ = some (.int .i64 Q.room) ∧ W'.cell? ⟨g, 1, none⟩ = some (.pointer (some ⟨t, 0, none⟩)) ∧ W'.cell? ⟨g, 2, none⟩ = some v := by
 have b := h.blk.fr f hg
 exact ⟨b.cell 0, b.cell 1, b.cell 2⟩
theorem StIn.cells0 (h : StIn W g lo Q c t Ft Fs v) : W.cell? ⟨g, 0, none⟩ = some (.int .i64 Q.room) ∧ W.cell? ⟨g, 1, none⟩ = some (.pointer (some ⟨t, 0, none⟩)) ∧ W.cell? ⟨g, 2, none⟩ = some v := h.cells (Fr.refl (fun _ => False) W) (fun h => h)
theorem ChOn.val {o : Option ShX} (h : ChOn W lo o v Fs) : (o = none → v = .pointer none) ∧ (∀ S, o = some S → ∃ s, v = .pointer (some ⟨s, 0, none⟩)) := by
 cases o with
 | none => exact ⟨fun _ => h.1, (fun _ e => by cases e)⟩
 | some S =>
  obtain ⟨s, base, _, hv, _⟩ := h
  exact ⟨(fun e => by cases e), fun _ _ => ⟨s, hv⟩⟩
theorem stnone_any (h : StIn W g lo Q c t Ft Fs v) : Calls Tryz.prog 43 #[.pointer (some ⟨g, 0, none⟩)] W fun r w' => r = .returned (.bool false) ∧ W = w' := by
 obtain ⟨_, c1, _⟩ := h.cells0
 clear h
 go_enter Tryz.func43, Tryz.ntmps43
 go_wp2_with fail
 go_ret
 exact ⟨by first | rfl | simp [*], rfl⟩
theorem stroom_any (h : StOn W g lo Q c F) : Calls Tryz.prog 20 #[.pointer (some ⟨g, 0, none⟩)] W fun r w' => r = .returned (.int .i64 Q.room) ∧ W = w' := by
 obtain ⟨t, Ft, Fs, v, hi, _⟩ := h
 obtain ⟨c0, _, _⟩ := hi.cells0
 clear hi
 go_enter Tryz.func20, Tryz.ntmps20
 go_wp2_with fail
 go_ret
 exact ⟨rfl, rfl⟩
theorem stpend_any (h : StOn W g lo Q c F) : Calls Tryz.prog 21 #[.pointer (some ⟨g, 0, none⟩)] W fun r w' => r = .returned (.bool Q.ch.isSome) ∧ W = w' := by
 obtain ⟨t, Ft, Fs, v, hi, _⟩ := h
 obtain ⟨_, _, c2⟩ := hi.cells0
 have hv := hi.ch.val
 clear hi
 cases hc : Q.ch with
 | none =>
  obtain rfl := hv.1 hc
  clear hv hc
  go_enter Tryz.func21, Tryz.ntmps21
  go_wp2_with fail
  go_ret
  exact ⟨by first | rfl | simp [*], rfl⟩
 | some S =>
  obtain ⟨s, rfl⟩ := hv.2 S hc
  clear hv hc
  go_enter Tryz.func21, Tryz.ntmps21
  go_wp2_with fail
  go_ret
  exact ⟨by first | rfl | simp [*], rfl⟩
theorem chcopy_any (hg : StGood Q c) (h : ChOn W lo Q.ch v Fs) (lo2 : Nat) (hlo : lo2 ≤ W.heap.size) : Calls Tryz.prog 58 #[v] W fun r w' => (∃ v F', r = .returned v ∧ ChOn w' lo2 Q.ch v F' ∧ ∀ j, F' j → W.heap.size ≤ j) ∧ Below W.heap.size W w' := by
 cases hc : Q.ch with
 | none =>
  rw [hc] at h
  obtain ⟨rfl, _⟩ := h
  refine (scopy_nil W).mono ?_
  rintro r w' ⟨rfl, rfl⟩
  exact ⟨⟨.pointer none, fun _ => False, rfl, ⟨rfl, rfl⟩, fun _ h => h.elim⟩, Below.refl _ _⟩
 | some S =>
  rw [hc] at h
  obtain ⟨s, base, _, rfl, hs⟩ := h
  have hk := hg.ch S hc
  obtain ⟨o, ho⟩ := hk.ok
  have hst := steps_in hk.pol
  refine (scopy_any s base S Fs W hs hk.pol.pos (by have := hk.pol.five; omega) (by rw [ho.src]; unfold srcs; rw [List.length_map]; have := hk.pol.five; omega) (fun x hx => (check_mem hk.pol.ck hx).2.2.2.2.2) (fun x hx => (check_mem hk.pol.ck hx).1) hk.b0 (by omega)).mono ?_
  rintro r w' ⟨⟨o', F', rfl, h1⟩, hb⟩
  exact ⟨⟨_, F', rfl, ⟨o', W.heap.size, hlo, rfl, h1⟩, fun j hj => (h1.ge j hj).1⟩, hb⟩
theorem sttiers_any (hg : StGood Q c) (h : StOn W g lo Q c F) (lo2 : Nat) (hlo : lo2 ≤ W.heap.size) : Calls Tryz.prog 14 #[.pointer (some ⟨g, 0, none⟩)] W fun r w' => (∃ t' F', r = .returned (.pointer (some ⟨t', 0, none⟩)) ∧ Tio Q.X.name Q.X.tiers Q.X.floors lo2 w' t' Q.X F' c ∧ ∀ j, F' j → W.heap.size ≤ j) ∧ Below W.heap.size W w' := by
 obtain ⟨t, Ft, Fs, v, hi, _⟩ := h
 have HC := Lib.hid (tio_copy hg.pol hi.tio (Nat.le_trans hg.flen (by decide)) lo2 hlo)
 obtain ⟨_, c1, _⟩ := hi.cells0
 clear hi
 go_enter Tryz.func14, Tryz.ntmps14
 go_wp2_with fail
 refine HC.out.mono ?_
 rintro r w1 ⟨⟨t', F', rfl, h1, h2⟩, hb⟩
 have H1 := Lib.hid h1
 have H2 := Lib.hid h2
 have HB := Lib.hid hb
 clear h1 h2 hb
 go_wp2_with fail
 go_ret
 exact ⟨⟨t', F', rfl, H1.out, H2.out⟩, HB.out⟩
theorem stshadow_any (hg : StGood Q c) (h : StOn W g lo Q c F) (lo2 : Nat) (hlo : lo2 ≤ W.heap.size) : Calls Tryz.prog 25 #[.pointer (some ⟨g, 0, none⟩)] W fun r w' => (∃ v F', r = .returned v ∧ ChOn w' lo2 Q.ch v F' ∧ ∀ j, F' j → W.heap.size ≤ j) ∧ Below W.heap.size W w' := by
 obtain ⟨t, Ft, Fs, v, hi, _⟩ := h
 obtain ⟨_, _, c2⟩ := hi.cells0
 have HC : Hid (Calls Tryz.prog 58 #[v] W fun r w' => (∃ v F', r = .returned v ∧ ChOn w' lo2 Q.ch v F' ∧ ∀ j, F' j → W.heap.size ≤ j) ∧ Below W.heap.size W w') := chcopy_any hg hi.ch lo2 hlo
 clear hi
 go_enter Tryz.func25, Tryz.ntmps25
 go_wp2_with fail
 refine HC.out.mono ?_
 rintro r w1 ⟨⟨v', F', rfl, h1, h2⟩, hb⟩
 have H1 := Lib.hid h1
 have H2 := Lib.hid h2
 have HB := Lib.hid hb
 clear h1 h2 hb
 go_wp2_with fail
 go_ret
 exact ⟨⟨v', F', rfl, H1.out, H2.out⟩, HB.out⟩
theorem stabort_any (h : StOn W g lo Q c F) : Calls Tryz.prog 24 #[.pointer (some ⟨g, 0, none⟩)] W fun r w' => r = .returned (.int .i64 (stAbortE Q)) ∧ (∃ F', StOn w' g lo (stAbort Q) c F' ∧ Onto W F F') ∧ Fr F W w' := by
 obtain ⟨t, Ft, Fs, v, hi, rfl⟩ := h
 have HN := Lib.hid (stnone_any hi)
 obtain ⟨_, _, c2⟩ := hi.cells0
 have hv := hi.ch.val
 have z2 := hi.blk.frozen 2
 have Hi := Lib.hid hi
 clear hi
 cases hc : Q.ch with
 | none =>
  obtain rfl := hv.1 hc
  have hE : stAbortE Q = 8 := by unfold stAbortE; rw [hc]
  have hQ : stAbort Q = Q := by obtain ⟨a, b, d⟩ := Q; subst hc; rfl
  rw [hE, hQ]
  clear hv hc hE hQ
  go_enter Tryz.func24, Tryz.ntmps24
  go_wp2_with fail
  refine HN.out.mono ?_
  rintro r w1 ⟨rfl, rfl⟩
  go_wp2_with fail
  go_ret
  exact ⟨rfl, ⟨_, ⟨t, Ft, Fs, _, Hi.out, rfl⟩, fun _ h => .inl h⟩, Fr.refl _ _⟩
 | some S =>
  obtain ⟨s, rfl⟩ := hv.2 S hc
  have hE : stAbortE Q = 0 := by unfold stAbortE; rw [hc]
  rw [hE]
  clear hv hc hE
  go_enter Tryz.func24, Tryz.ntmps24
  go_wp2_with fail
  refine HN.out.mono ?_
  rintro r w1 ⟨rfl, rfl⟩
  go_wp2_with fail
  go_ret
  have hst : Fr (fun j => j = g) W (W.setCell ⟨g, 2, none⟩ (.pointer none)) := (Fr.refl (fun j => j = g) W).setCell (p := ⟨g, 2, none⟩) (.inl rfl) _
  have hk : Kind2 W (fun j => j = g) := fun j hj => Hi.out.kind2 j (.inl hj)
  have hne := Hi.out.tio.blk_ne Hi.out.blk
  refine ⟨rfl, ⟨stF g Ft (fun _ => False), ⟨t, Ft, fun _ => False, .pointer none, ⟨Hi.out.blk.set_ 2 _, Hi.out.glo, Hi.out.tio.frK2 hst hk (fun j hj e => hne (e ▸ hj)), ⟨rfl, rfl⟩, fun _ _ h => h⟩, rfl⟩, fun j hj => .inl ?_⟩, hst.mono (fun j hj => .inl (.inl hj))⟩
  rcases hj with hj | hj | hj
  ·exact .inl hj
  ·exact .inr (.inl hj)
  ·exact hj.elim
theorem stask_own (hg : StGood Q c) (hc : c ≤ 1000000) (h : StOn W g lo Q c F) (s : ByteArray) (hs : s.size ≤ maxLen) (fr tt : Int) :
  Calls Tryz.prog 33 #[.pointer (some ⟨g, 0, none⟩), .string s, .int .i64 fr, .int .i64 tt] W fun r w' => ((askB s fr tt = true → ∃ A c, r = .returned (.tuple #[.agg #[.int .i64 (askT Q.X fr), .slice A (askL Q.X s fr tt).length c], .int .i64 0]) ∧ w'.ownsRow W.heap.size 115 7 (.slice A (askL Q.X s fr tt).length c) (askL Q.X s fr tt).length (rcells (askL Q.X s fr tt))) ∧ (askB s fr tt = false → r = .returned (.tuple #[.agg #[.int .i64 0, .slice none 0 0], .int .i64 1]))) ∧ Below W.heap.size W w' := by
 obtain ⟨t, Ft, Fs, v, hi, rfl⟩ := h
 have F0 : Hid (Fr (fun _ => False) W (W.alloc (.cells #[.int .i64 0, .slice none 0 0] 71))) := Fr.none_alloc _ _
 have B0 : Hid (Blk (W.alloc (.cells #[.int .i64 0, .slice none 0 0] 71)) W.heap.size 71 #[.int .i64 0, .slice none 0 0]) := Blk.new _ _ _
 have HN := Lib.hid (stnone_any (hi.fr0 F0.out))
 have HA := Lib.hid (tio_ask hg.pol (hi.fr0 F0.out).tio hc s hs fr tt)
 obtain ⟨_, c1, _⟩ := (hi.fr0 F0.out).cells0
 clear hi
 cases hb : askB s fr tt
 ·rw [hb] at HA
  go_enter Tryz.func33, Tryz.ntmps33
  go_wp2_with fail
  refine HN.out.mono ?_
  rintro r w1 ⟨rfl, rfl⟩
  go_wp2_with fail
  refine HA.out.mono ?_
  rintro r w2 ⟨⟨_, h2⟩, b2⟩
  obtain rfl := h2 (by trivial)
  have B2 := Lib.hid (B0.out.below b2)
  have F2 := Lib.hid (F0.out.trans (Fr.b0 b2) (fun _ h => h.elim))
  have y0 := B2.out.cell 0
  have y1 := B2.out.cell 1
  have z0 := B2.out.frozen 0
  have z1 := B2.out.frozen 1
  simp only [List.getElem?_toArray, List.getElem?_cons_succ, List.getElem?_cons_zero] at y0 y1
  clear b2 h2
  go_wp2_with fail
  refine bodyPost_ret (v := .tuple #[.agg #[.int .i64 0, .slice none 0 0], .int .i64 1]) ?_ rfl ⟨⟨(fun h => by cases h), fun _ => rfl⟩, ?_⟩
  ·simp [results, Tryz.results33, go_sem, *]
  ·exact (F2.out.below (fun _ h => h.elim)).trans ((((Fr.refl (fun j => j = W.heap.size) w2).setCell (p := ⟨W.heap.size, 0, none⟩) (.inl rfl) _).setCell (p := ⟨W.heap.size, 1, none⟩) (.inl rfl) _).below_of F2.out.size (fun j hj => by omega))
 ·rw [hb] at HA
  obtain ⟨L, hL⟩ : ∃ L, askL Q.X s fr tt = L := ⟨_, rfl⟩
  obtain ⟨T, hT⟩ : ∃ T, askT Q.X fr = T := ⟨_, rfl⟩
  rw [hL, hT] at HA ⊢
  obtain ⟨n, hn⟩ : ∃ n, L.length = n := ⟨_, rfl⟩
  rw [hn] at HA ⊢
  go_enter Tryz.func33, Tryz.ntmps33
  go_wp2_with fail
  refine HN.out.mono ?_
  rintro r w1 ⟨rfl, rfl⟩
  go_wp2_with fail
  refine HA.out.mono ?_
  rintro r w2 ⟨⟨h1, _⟩, b2⟩
  obtain ⟨A, d, rfl, ho⟩ := h1 (by trivial)
  have B2 := Lib.hid (B0.out.below b2)
  have F2 := Lib.hid (F0.out.trans (Fr.b0 b2) (fun _ h => h.elim))
  have HO := Lib.hid ho
  have y0 := B2.out.cell 0
  have y1 := B2.out.cell 1
  have z0 := B2.out.frozen 0
  have z1 := B2.out.frozen 1
  simp only [List.getElem?_toArray, List.getElem?_cons_succ, List.getElem?_cons_zero] at y0 y1
  clear b2 h1 ho
  go_wp2_with fail
  have hst := ((Fr.refl (fun j => j = W.heap.size) w2).setCell (p := ⟨W.heap.size, 0, none⟩) (.inl rfl) (.int .i64 T)).setCell (p := ⟨W.heap.size, 1, none⟩) (.inl rfl) (.slice A n d)
  refine bodyPost_ret (v := .tuple #[.agg #[.int .i64 T, .slice A n d], .int .i64 0]) ?_ rfl ⟨⟨fun _ => ⟨A, d, rfl, ?_⟩, (fun h => by cases h)⟩, ?_⟩
  ·simp [results, Tryz.results33, go_sem, *]
  ·exact own_fr (own_le HO.out (by simp)) hst (fun j hj e => by
    have := (HO.out.lt j hj).1
    simp at this
    omega)
  ·exact (F2.out.below (fun _ h => h.elim)).trans (hst.below_of F2.out.size (fun j hj => by omega))
theorem stask_any (hg : StGood Q c) (hc : c ≤ 1000000) (h : StOn W g lo Q c F) (s : ByteArray) (hs : s.size ≤ maxLen) (fr tt : Int) :
  Calls Tryz.prog 33 #[.pointer (some ⟨g, 0, none⟩), .string s, .int .i64 fr, .int .i64 tt] W fun r w' => ((askB s fr tt = true → ∃ A c, r = .returned (.tuple #[.agg #[.int .i64 (askT Q.X fr), .slice A (askL Q.X s fr tt).length c], .int .i64 0]) ∧ Rd w' 7 A (askL Q.X s fr tt).length (rcells (askL Q.X s fr tt))) ∧ (askB s fr tt = false → r = .returned (.tuple #[.agg #[.int .i64 0, .slice none 0 0], .int .i64 1]))) ∧ Below W.heap.size W w' := by
 refine (stask_own hg hc h s hs fr tt).mono ?_
 rintro r w' ⟨⟨h1, h2⟩, h3⟩
 refine ⟨⟨fun h => ?_, h2⟩, h3⟩
 obtain ⟨A, c, hr, ho⟩ := h1 h
 exact ⟨A, c, hr, Rd.of_own ho⟩
end
end Go.Proofs.YtkfdgodngbinlaaGreatDoor
