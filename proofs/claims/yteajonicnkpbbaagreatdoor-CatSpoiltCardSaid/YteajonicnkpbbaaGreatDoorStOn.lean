/- The state in memory; frames; its small calls. -/
import Derived.Test.YteajonicnkpbbaaGreatDoorShNote
import Derived.Test.YteajonicnkpbbaaGreatDoorTiersSame
namespace Go.Proofs.YteajonicnkpbbaaGreatDoor
set_option linter.all false
open Go.RowKit

def ChOn (W : World) (lo : Nat) : Option ShX → Value → (Nat → Prop) → Prop
 | none, v, F => v = .pointer none ∧ F = fun _ => False
 | some S, v, F => ∃ s base, lo ≤ base ∧ v = .pointer (some ⟨s, 0, none⟩) ∧ ShOn W s base S F
structure StIn (W : World) (g lo : Nat) (Q : StX) (c t : Nat) (Ft Fs : Nat → Prop) (v : Value) : Prop where
 blk : Blk W g 148 #[.int .i64 Q.room, .pointer (some ⟨t, 0, none⟩), v]
 glo : lo ≤ g
 tio : Tio Q.X.name Q.X.tiers Q.X.floors lo W t Q.X Ft c
 ch : ChOn W lo Q.ch v Fs
 apart : ∀ j, Ft j → ¬ Fs j
def stF (g : Nat) (Ft Fs : Nat → Prop) : Nat → Prop := fun j => j = g ∨ Ft j ∨ Fs j
def StOn (W : World) (g lo : Nat) (Q : StX) (c : Nat) (F : Nat → Prop) : Prop := ∃ t Ft Fs v, StIn W g lo Q c t Ft Fs v ∧ F = stF g Ft Fs
def Kind2 (W : World) (G : Nat → Prop) : Prop := ∀ j, G j → (∃ es ck, W.heap[j]? = some (.map es ck)) ∨ (∃ cs fz ty, W.heap[j]? = some (.cells cs ty fz) ∧ ty ≠ 99 ∧ ty ≠ 3 ∧ ty ≠ 208 ∧ ty ≠ 244)
section
variable {W W' : World} {g lo : Nat} {Q : StX} {c t : Nat} {Ft Fs F G : Nat → Prop} {v : Value}
theorem ChOn.fr {o : Option ShX} (h : ChOn W lo o v Fs) (hf : Fr G W W') (hG : Kind2 W G) (hd : ∀ j, Fs j → ¬ G j) : ChOn W' lo o v Fs := by
 cases o with
 | none => exact h
 | some S =>
  obtain ⟨s, base, hb, hv, hs⟩ := h
  exact ⟨s, base, hb, hv, hs.fr hf hG hd⟩
theorem ChOn.kind2 {o : Option ShX} (h : ChOn W lo o v Fs) : Kind2 W Fs := by
 cases o with
 | none => obtain ⟨_, rfl⟩ := h; exact fun _ h => h.elim
 | some S =>
  obtain ⟨s, base, hb, hv, hs⟩ := h
  exact hs.kind2
theorem ChOn.ge {o : Option ShX} (h : ChOn W lo o v Fs) : ∀ j, Fs j → lo ≤ j ∧ j < W.heap.size := by
 cases o with
 | none => obtain ⟨_, rfl⟩ := h; exact fun _ h => h.elim
 | some S =>
  obtain ⟨s, base, hb, hv, hs⟩ := h
  intro j hj
  have := hs.ge j hj
  omega
theorem Tio.kind2 {nm : ByteArray} {l : List TierV} {fl : List Int} {X : TiersX} (h : Tio nm l fl lo W t X Ft c) : Kind2 W Ft := by
 obtain ⟨b, hb, ho⟩ := h.on
 exact ho.kind2
theorem Tio.frK2 {nm : ByteArray} {l : List TierV} {fl : List Int} {X : TiersX} (h : Tio nm l fl lo W t X Ft c) (hf : Fr G W W') (hG : Kind2 W G) (hd : ∀ j, Ft j → ¬ G j) : Tio nm l fl lo W' t X Ft c := by
 obtain ⟨b, hb, ho⟩ := h.on
 exact ⟨⟨b, hb, ho.frSh hf hG hd⟩, h.good⟩
theorem StIn.fr (h : StIn W g lo Q c t Ft Fs v) (hf : Fr G W W') (hG : Kind2 W G) (hd : ∀ j, stF g Ft Fs j → ¬ G j) : StIn W' g lo Q c t Ft Fs v :=
 ⟨h.blk.fr hf (hd g (.inl rfl)), h.glo, h.tio.frK2 hf hG (fun j hj => hd j (.inr (.inl hj))), h.ch.fr hf hG (fun j hj => hd j (.inr (.inr hj))), h.apart⟩
theorem kind2_none : Kind2 W (fun _ => False) := fun _ h => h.elim
theorem StIn.fr0 (h : StIn W g lo Q c t Ft Fs v) (hf : Fr (fun _ => False) W W') : StIn W' g lo Q c t Ft Fs v := h.fr hf kind2_none (fun _ _ h => h)
theorem StIn.kind2 (h : StIn W g lo Q c t Ft Fs v) : Kind2 W (stF g Ft Fs) := by
 rintro j (rfl | hj | hj)
 ·exact .inr ⟨_, _, _, h.blk, by decide, by decide, by decide, by decide⟩
 ·exact h.tio.kind2 j hj
 ·exact h.ch.kind2 j hj
theorem StIn.ge (h : StIn W g lo Q c t Ft Fs v) : ∀ j, stF g Ft Fs j → lo ≤ j ∧ j < W.heap.size := by
 rintro j (rfl | hj | hj)
 ·exact ⟨h.glo, h.blk.lt⟩
 ·exact h.tio.ge j hj
 ·exact h.ch.ge j hj
theorem StOn.fr (h : StOn W g lo Q c F) (hf : Fr G W W') (hG : Kind2 W G) (hd : ∀ j, F j → ¬ G j) : StOn W' g lo Q c F := by
 obtain ⟨t, Ft, Fs, v, hi, rfl⟩ := h
 exact ⟨t, Ft, Fs, v, hi.fr hf hG hd, rfl⟩
theorem StOn.fr0 (h : StOn W g lo Q c F) (hf : Fr (fun _ => False) W W') : StOn W' g lo Q c F := h.fr hf kind2_none (fun _ _ h => h)
theorem StOn.kind2 (h : StOn W g lo Q c F) : Kind2 W F := by
 obtain ⟨t, Ft, Fs, v, hi, rfl⟩ := h
 exact hi.kind2
theorem StOn.ge (h : StOn W g lo Q c F) : ∀ j, F j → lo ≤ j ∧ j < W.heap.size := by
 obtain ⟨t, Ft, Fs, v, hi, rfl⟩ := h
 exact hi.ge
theorem StOn.apart {g2 lo2 c2 : Nat} {Q2 : StX} {F2 : Nat → Prop} (h : StOn W g lo Q c F) (h2 : StOn W g2 lo2 Q2 c2 F2) (hf : Fr F2 W W') (hd : ∀ j, F j → ¬ F2 j) : StOn W' g lo Q c F := h.fr hf h2.kind2 hd
def Onto (W : World) (F F' : Nat → Prop) : Prop := ∀ j, F' j → F j ∨ W.heap.size ≤ j
end
end Go.Proofs.YteajonicnkpbbaaGreatDoor
namespace Go.Proofs.YteajonicnkpbbaaGreatDoor
set_option linter.all false
open Go.RowKit

theorem stright_any (room : Int) (w : World) : Calls Tryz.prog 94 #[.int .i64 room] w fun r w' => r = .returned (.bool (decide (0 ≤ room) && decide (room ≤ 4096))) ∧ w = w' := by
 have go : ∀ b1 b2 : Bool, decide (0 ≤ room) = b1 → decide (room ≤ 4096) = b2 → Calls Tryz.prog 94 #[.int .i64 room] w fun r w' => r = .returned (.bool (b1 && b2)) ∧ w = w' := by
  intro b1 b2 e1 e2
  cases b1 <;> cases b2 <;> (
   go_enter Tryz.func94, Tryz.ntmps94
   go_wp2_with fail
   go_ret
   exact ⟨by first | rfl | simp [*], rfl⟩)
 exact go _ _ rfl rfl
section
variable {W : World} {g lo : Nat} {Q : StX} {c t : Nat} {Ft Fs F : Nat → Prop} {v : Value}
theorem StIn.cells (h : StIn W g lo Q c t Ft Fs v) {G : Nat → Prop} {W' : World} (f : Fr G W W') (hg : ¬ G g) : W'.cell? ⟨g, 0, none⟩ = some (.int .i64 Q.room) ∧ W'.cell? ⟨g, 1, none⟩ = some (.pointer (some ⟨t, 0, none⟩)) ∧ W'.cell? ⟨g, 2, none⟩ = some v := by
 have b := h.blk.fr f hg
 exact ⟨b.cell 0, b.cell 1, b.cell 2⟩
theorem StIn.cells0 (h : StIn W g lo Q c t Ft Fs v) : W.cell? ⟨g, 0, none⟩ = some (.int .i64 Q.room) ∧ W.cell? ⟨g, 1, none⟩ = some (.pointer (some ⟨t, 0, none⟩)) ∧ W.cell? ⟨g, 2, none⟩ = some v := h.cells (Fr.refl (fun _ => False) W) (fun h => h)
theorem ChOn.val {o : Option ShX} (h : ChOn W lo o v Fs) : (o = none → v = .pointer none) ∧ (∀ S, o = some S → ∃ s, v = .pointer (some ⟨s, 0, none⟩)) := by
 cases o with
 | none => exact ⟨fun _ => h.1, (fun _ e => by cases e)⟩
 | some S =>
  obtain ⟨s, base, _, hv, _⟩ := h
  exact ⟨(fun e => by cases e), fun _ _ => ⟨s, hv⟩⟩
theorem chcopy_any (hg : StGood Q c) (h : ChOn W lo Q.ch v Fs) (lo2 : Nat) (hlo : lo2 ≤ W.heap.size) : Calls Tryz.prog 109 #[v] W fun r w' => (∃ v F', r = .returned v ∧ ChOn w' lo2 Q.ch v F' ∧ ∀ j, F' j → W.heap.size ≤ j) ∧ Below W.heap.size W w' := by
 cases hc : Q.ch with
 | none =>
  rw [hc] at h
  obtain ⟨rfl, _⟩ := h
  refine (scopy_nil W).mono ?_
  rintro r w' ⟨rfl, rfl⟩
  exact ⟨⟨.pointer none, fun _ => False, rfl, ⟨rfl, rfl⟩, fun _ h => h.elim⟩, Below.refl _ _⟩
 | some S =>
  rw [hc] at h
  obtain ⟨s, base, _, rfl, hs⟩ := h
  have hk := hg.ch S hc
  obtain ⟨o, ho⟩ := hk.ok
  have hst := steps_in hk.pol
  refine (scopy_any s base S Fs W hs hk.pol.pos (by have := hk.pol.five; omega) (by rw [ho.src]; unfold srcs; rw [List.length_map]; have := hk.pol.five; omega) (fun x hx => (check_mem hk.pol.ck hx).2.2.2.2.2) (fun x hx => (check_mem hk.pol.ck hx).1) hk.b0 (by omega)).mono ?_
  rintro r w' ⟨⟨o', F', rfl, h1⟩, hb⟩
  exact ⟨⟨_, F', rfl, ⟨o', W.heap.size, hlo, rfl, h1⟩, fun j hj => (h1.ge j hj).1⟩, hb⟩
theorem sttiers_any (hg : StGood Q c) (h : StOn W g lo Q c F) (lo2 : Nat) (hlo : lo2 ≤ W.heap.size) : Calls Tryz.prog 29 #[.pointer (some ⟨g, 0, none⟩)] W fun r w' => (∃ t' F', r = .returned (.pointer (some ⟨t', 0, none⟩)) ∧ Tio Q.X.name Q.X.tiers Q.X.floors lo2 w' t' Q.X F' c ∧ ∀ j, F' j → W.heap.size ≤ j) ∧ Below W.heap.size W w' := by
 obtain ⟨t, Ft, Fs, v, hi, _⟩ := h
 have HC := Lib.hid (tio_copy hg.pol hi.tio (Nat.le_trans hg.flen (by decide)) lo2 hlo)
 obtain ⟨_, c1, _⟩ := hi.cells0
 clear hi
 go_enter Tryz.func29, Tryz.ntmps29
 go_wp2_with fail
 refine HC.out.mono ?_
 rintro r w1 ⟨⟨t', F', rfl, h1, h2⟩, hb⟩
 have H1 := Lib.hid h1
 have H2 := Lib.hid h2
 have HB := Lib.hid hb
 clear h1 h2 hb
 go_wp2_with fail
 go_ret
 exact ⟨⟨t', F', rfl, H1.out, H2.out⟩, HB.out⟩
theorem stshadow_any (hg : StGood Q c) (h : StOn W g lo Q c F) (lo2 : Nat) (hlo : lo2 ≤ W.heap.size) : Calls Tryz.prog 30 #[.pointer (some ⟨g, 0, none⟩)] W fun r w' => (∃ v F', r = .returned v ∧ ChOn w' lo2 Q.ch v F' ∧ ∀ j, F' j → W.heap.size ≤ j) ∧ Below W.heap.size W w' := by
 obtain ⟨t, Ft, Fs, v, hi, _⟩ := h
 obtain ⟨_, _, c2⟩ := hi.cells0
 have HC : Hid (Calls Tryz.prog 109 #[v] W fun r w' => (∃ v F', r = .returned v ∧ ChOn w' lo2 Q.ch v F' ∧ ∀ j, F' j → W.heap.size ≤ j) ∧ Below W.heap.size W w') := chcopy_any hg hi.ch lo2 hlo
 clear hi
 go_enter Tryz.func30, Tryz.ntmps30
 go_wp2_with fail
 refine HC.out.mono ?_
 rintro r w1 ⟨⟨v', F', rfl, h1, h2⟩, hb⟩
 have H1 := Lib.hid h1
 have H2 := Lib.hid h2
 have HB := Lib.hid hb
 clear h1 h2 hb
 go_wp2_with fail
 go_ret
 exact ⟨⟨v', F', rfl, H1.out, H2.out⟩, HB.out⟩
end
end Go.Proofs.YteajonicnkpbbaaGreatDoor
