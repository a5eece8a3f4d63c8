/- Walks of state: right, none, add, Room, Pending, Tiers, Shadow, Abort, Ask; of a nil one. -/
import Derived.Test.YtaakghjbbkgbdaaGreatDoorShRight
import Derived.Test.YtaakghjbbkgbdaaGreatDoorPolSame
namespace Go.Proofs.YtaakghjbbkgbdaaGreatDoor
set_option linter.all false
open Go.RowKit

theorem stright_any (room : Int) (w : World) : Calls Tryz.prog 133 #[.int .i64 room] w fun r w' => r = .returned (.bool (decide (0 ≤ room) && decide (room ≤ 4096))) ∧ w = w' := by
 have go : ∀ b1 b2 : Bool, decide (0 ≤ room) = b1 → decide (room ≤ 4096) = b2 → Calls Tryz.prog 133 #[.int .i64 room] w fun r w' => r = .returned (.bool (b1 && b2)) ∧ w = w' := by
  intro b1 b2 e1 e2
  cases b1 <;> cases b2 <;> (
   go_enter Tryz.func133, Tryz.ntmps133
   go_wp2_with fail
   go_ret
   exact ⟨by first | rfl | simp [*], rfl⟩)
 exact go _ _ rfl rfl
theorem stadd_any (a b : Int) (w : World) (h0 : 0 ≤ a) (h1 : 0 ≤ b) (h2 : a + b ≤ 9223372036854775807) : Calls Tryz.prog 139 #[.int .i64 a, .int .i64 b] w fun r w' => r = .returned (.int .i64 (a + b)) ∧ w = w' := by
 have e1 : IntKind.i64.wrap (9223372036854775807 - b) = 9223372036854775807 - b := IntWalk.i64_in _ (by omega)
 have e2 : decide (9223372036854775807 - b < a) = false := decide_eq_false (by omega)
 have e2' : ¬ 9223372036854775807 - b < a := by omega
 have e3 : IntKind.i64.wrap (a + b) = a + b := IntWalk.i64_in _ (by omega)
 go_enter Tryz.func139, Tryz.ntmps139
 go_wp2_with fail
 go_ret
 exact ⟨by first | rfl | simp [*], rfl⟩
section
variable {W : World} {g lo : Nat} {Q : StX} {c t : Nat} {Ft Fs F : Nat → Prop} {v : Value}
theorem StIn.cells (h : StIn W g lo Q c t Ft Fs v) {G : Nat → Prop} {W' : World} (f : Fr G W W') (hg : ¬ G g) : W'.cell? ⟨g, 0, none⟩ = some (.int .i64 Q.room) ∧ W'.cell? ⟨g, 1, none⟩ = some (.pointer (some ⟨t, 0, none⟩)) ∧ W'.cell? ⟨g, 2, none⟩ = some v := by
 have b := h.blk.fr f hg
 exact ⟨b.cell 0, b.cell 1, b.cell 2⟩
theorem StIn.cells0 (h : StIn W g lo Q c t Ft Fs v) : W.cell? ⟨g, 0, none⟩ = some (.int .i64 Q.room) ∧ W.cell? ⟨g, 1, none⟩ = some (.pointer (some ⟨t, 0, none⟩)) ∧ W.cell? ⟨g, 2, none⟩ = some v := h.cells (Fr.refl (fun _ => False) W) (fun h => h)
theorem ChOn.val {o : Option ShX} (h : ChOn W lo o v Fs) : (o = none → v = .pointer none) ∧ (∀ S, o = some S → ∃ s, v = .pointer (some ⟨s, 0, none⟩)) := by
 cases o with
 | none => exact ⟨fun _ => h.1, (fun _ e => by cases e)⟩
 | some S =>
  obtain ⟨s, base, _, hv, _⟩ := h
  exact ⟨(fun e => by cases e), fun _ _ => ⟨s, hv⟩⟩
theorem stnone_any (h : StIn W g lo Q c t Ft Fs v) : Calls Tryz.prog 136 #[.pointer (some ⟨g, 0, none⟩)] W fun r w' => r = .returned (.bool false) ∧ W = w' := by
 obtain ⟨_, c1, _⟩ := h.cells0
 clear h
 go_enter Tryz.func136, Tryz.ntmps136
 go_wp2_with fail
 go_ret
 exact ⟨by first | rfl | simp [*], rfl⟩
theorem stnone_zero (W : World) (h : W.cell? ⟨g, 1, none⟩ = some (.pointer none)) : Calls Tryz.prog 136 #[.pointer (some ⟨g, 0, none⟩)] W fun r w' => r = .returned (.bool true) ∧ W = w' := by
 go_enter Tryz.func136, Tryz.ntmps136
 go_wp2_with fail
 go_ret
 exact ⟨by first | rfl | simp [*], rfl⟩
theorem stnone_nil (W : World) : Calls Tryz.prog 136 #[.pointer none] W fun r w' => r = .returned (.bool true) ∧ W = w' := by
 go_enter Tryz.func136, Tryz.ntmps136
 go_wp2_with fail
 go_ret
 exact ⟨by first | rfl | simp [*], rfl⟩
theorem stroom_any (h : StOn W g lo Q c F) : Calls Tryz.prog 41 #[.pointer (some ⟨g, 0, none⟩)] W fun r w' => r = .returned (.int .i64 Q.room) ∧ W = w' := by
 obtain ⟨t, Ft, Fs, v, hi, _⟩ := h
 obtain ⟨c0, _, _⟩ := hi.cells0
 clear hi
 go_enter Tryz.func41, Tryz.ntmps41
 go_wp2_with fail
 go_ret
 exact ⟨rfl, rfl⟩
theorem stpend_any (h : StOn W g lo Q c F) : Calls Tryz.prog 49 #[.pointer (some ⟨g, 0, none⟩)] W fun r w' => r = .returned (.bool Q.ch.isSome) ∧ W = w' := by
 obtain ⟨t, Ft, Fs, v, hi, _⟩ := h
 obtain ⟨_, _, c2⟩ := hi.cells0
 have hv := hi.ch.val
 clear hi
 cases hc : Q.ch with
 | none =>
  obtain rfl := hv.1 hc
  clear hv hc
  go_enter Tryz.func49, Tryz.ntmps49
  go_wp2_with fail
  go_ret
  exact ⟨by first | rfl | simp [*], rfl⟩
 | some S =>
  obtain ⟨s, rfl⟩ := hv.2 S hc
  clear hv hc
  go_enter Tryz.func49, Tryz.ntmps49
  go_wp2_with fail
  go_ret
  exact ⟨by first | rfl | simp [*], rfl⟩
theorem stask_any (hg : StGood Q c) (hc : c ≤ 1000000) (h : StOn W g lo Q c F) (s : ByteArray) (hs : s.size ≤ maxLen) (fr tt : Int) :
  Calls Tryz.prog 55 #[.pointer (some ⟨g, 0, none⟩), .string s, .int .i64 fr, .int .i64 tt] W fun r w' => ((askB s fr tt = true → ∃ A c, r = .returned (.tuple #[.agg #[.int .i64 (askT Q.X fr), .slice A (askL Q.X s fr tt).length c], .int .i64 0]) ∧ Rd w' 7 A (askL Q.X s fr tt).length (rcells (askL Q.X s fr tt))) ∧ (askB s fr tt = false → r = .returned (.tuple #[.agg #[.int .i64 0, .slice none 0 0], .int .i64 1]))) ∧ Below W.heap.size W w' := by
 obtain ⟨t, Ft, Fs, v, hi, rfl⟩ := h
 have F0 : Hid (Fr (fun _ => False) W (W.alloc (.cells #[.int .i64 0, .slice none 0 0] 114))) := Fr.none_alloc _ _
 have B0 : Hid (Blk (W.alloc (.cells #[.int .i64 0, .slice none 0 0] 114)) W.heap.size 114 #[.int .i64 0, .slice none 0 0]) := Blk.new _ _ _
 have HN := Lib.hid (stnone_any (hi.fr0 F0.out))
 have HA := Lib.hid (tio_ask hg.pol (hi.fr0 F0.out).tio hc s hs fr tt)
 obtain ⟨_, c1, _⟩ := (hi.fr0 F0.out).cells0
 clear hi
 cases hb : askB s fr tt
 ·rw [hb] at HA
  go_enter Tryz.func55, Tryz.ntmps55
  go_wp2_with fail
  refine HN.out.mono ?_
  rintro r w1 ⟨rfl, rfl⟩
  go_wp2_with fail
  refine HA.out.mono ?_
  rintro r w2 ⟨⟨_, h2⟩, b2⟩
  obtain rfl := h2 (by trivial)
  have B2 := Lib.hid (B0.out.below b2)
  have F2 := Lib.hid (F0.out.trans (Fr.b0 b2) (fun _ h => h.elim))
  have y0 := B2.out.cell 0
  have y1 := B2.out.cell 1
  have z0 := B2.out.frozen 0
  have z1 := B2.out.frozen 1
  simp only [List.getElem?_toArray, List.getElem?_cons_succ, List.getElem?_cons_zero] at y0 y1
  clear b2 h2
  go_wp2_with fail
  refine bodyPost_ret (v := .tuple #[.agg #[.int .i64 0, .slice none 0 0], .int .i64 1]) ?_ rfl ⟨⟨(fun h => by cases h), fun _ => rfl⟩, ?_⟩
  ·simp [results, Tryz.results55, go_sem, *]
  ·exact (F2.out.below (fun _ h => h.elim)).trans ((((Fr.refl (fun j => j = W.heap.size) w2).setCell (p := ⟨W.heap.size, 0, none⟩) (.inl rfl) _).setCell (p := ⟨W.heap.size, 1, none⟩) (.inl rfl) _).below_of F2.out.size (fun j hj => by omega))
 ·rw [hb] at HA
  obtain ⟨L, hL⟩ : ∃ L, askL Q.X s fr tt = L := ⟨_, rfl⟩
  obtain ⟨T, hT⟩ : ∃ T, askT Q.X fr = T := ⟨_, rfl⟩
  rw [hL, hT] at HA ⊢
  obtain ⟨n, hn⟩ : ∃ n, L.length = n := ⟨_, rfl⟩
  rw [hn] at HA ⊢
  go_enter Tryz.func55, Tryz.ntmps55
  go_wp2_with fail
  refine HN.out.mono ?_
  rintro r w1 ⟨rfl, rfl⟩
  go_wp2_with fail
  refine HA.out.mono ?_
  rintro r w2 ⟨⟨h1, _⟩, b2⟩
  obtain ⟨A, d, rfl, ho⟩ := h1 (by trivial)
  have B2 := Lib.hid (B0.out.below b2)
  have F2 := Lib.hid (F0.out.trans (Fr.b0 b2) (fun _ h => h.elim))
  have HO := Lib.hid ho
  have y0 := B2.out.cell 0
  have y1 := B2.out.cell 1
  have z0 := B2.out.frozen 0
  have z1 := B2.out.frozen 1
  simp only [List.getElem?_toArray, List.getElem?_cons_succ, List.getElem?_cons_zero] at y0 y1
  clear b2 h1 ho
  go_wp2_with fail
  have hst := ((Fr.refl (fun j => j = W.heap.size) w2).setCell (p := ⟨W.heap.size, 0, none⟩) (.inl rfl) (.int .i64 T)).setCell (p := ⟨W.heap.size, 1, none⟩) (.inl rfl) (.slice A n d)
  refine bodyPost_ret (v := .tuple #[.agg #[.int .i64 T, .slice A n d], .int .i64 0]) ?_ rfl ⟨⟨fun _ => ⟨A, d, rfl, ?_⟩, (fun h => by cases h)⟩, ?_⟩
  ·simp [results, Tryz.results55, go_sem, *]
  ·exact (Rd.of_own HO.out).fr hst (fun j hj e => by
    obtain ⟨h0, ad, e1, h3⟩ := hj
    obtain ⟨g', e2⟩ := own_addr HO.out h0
    have e3 := e2
    rw [e1] at e3
    cases e3
    have := (HO.out.lt j (by rw [e2, ← h3]; rfl)).1
    simp at this
    omega)
  ·exact (F2.out.below (fun _ h => h.elim)).trans (hst.below_of F2.out.size (fun j hj => by omega))
end
end Go.Proofs.YtaakghjbbkgbdaaGreatDoor
