/- A state, and a copy of its change beside it that stands. -/
import Derived.Test.YtkfdgodngbinlaaGreatDoorStM
import Derived.Test.YtkfdgodngbinlaaGreatDoorShStepU
namespace Go.Proofs.YtkfdgodngbinlaaGreatDoor
set_option linter.all false
open Go.RowKit

def StSh (W : World) (g lo : Nat) (Q : StX) (c s base : Nat) (S : ShX) : Prop := ∃ F F', StOn W g lo Q c F ∧ ShOn W s base S F' ∧ ∀ j, F' j → ¬ F j
section
variable {W W' : World} {g lo : Nat} {Q : StX} {c s base : Nat} {S : ShX}
theorem StSh.p (h : StSh W g lo Q c s base S) : StP W g lo Q c := by
 obtain ⟨F, F', h1, _, _⟩ := h
 exact ⟨F, h1⟩
theorem StSh.sh (h : StSh W g lo Q c s base S) : ShAt W s base S := by
 obtain ⟨F, F', _, h2, _⟩ := h
 exact h2.at_
theorem StSh.fr0 (h : StSh W g lo Q c s base S) (f : Fr (fun _ => False) W W') : StSh W' g lo Q c s base S := by
 obtain ⟨F, F', h1, h2, h3⟩ := h
 exact ⟨F, F', h1.fr0 f, h2.fr0 f, h3⟩
theorem StSh.more (h : StSh W g lo Q c s base S) {d : Nat} (hd : c ≤ d) : StSh W g lo Q d s base S := by
 obtain ⟨F, F', h1, h2, h3⟩ := h
 exact ⟨F, F', h1.more hd, h2, h3⟩
theorem StSh.lo_le (h : StSh W g lo Q c s base S) : lo ≤ W.heap.size := by have := h.p.lt; omega
theorem StSh.turn (h : StSh W g lo Q c s base S) : ∃ F, StOn W g lo Q c F ∧ ∀ W' Q' d, StR W g lo Q' d F W' → StSh W' g lo Q' d s base S ∧ Below lo W W' := by
 have hlo := h.lo_le
 obtain ⟨F, F', h1, h2, h3⟩ := h
 refine ⟨F, h1, ?_⟩
 rintro W' Q' d ⟨⟨F2, a1, a2⟩, a3⟩
 refine ⟨⟨F2, F', a1, h2.fr a3 h1.kind2 h3, fun j hj hF => ?_⟩, a3.below_of hlo (fun j hj => (h1.ge j hj).1)⟩
 rcases a2 j hF with h4 | h4
 ·exact h3 j hj h4
 ·have := (h2.ge j hj).2; omega
theorem StSh.step (hg : StGood Q c) (hc : c ≤ 1000000) (h : StSh W g lo Q c s base S) :
  Calls Tryz.prog 23 #[.pointer (some ⟨g, 0, none⟩)] W fun r w' => r = .returned (.tuple #[stepVal (stStepR Q).1, .int .i64 (stStepR Q).2]) ∧ StSh w' g lo (stStep Q) c s base S ∧ Below lo W w' := by
 obtain ⟨F, h1, ht⟩ := h.turn
 refine (ststep_any hg hc h1 h.lo_le).mono ?_
 rintro r w' ⟨rfl, h2⟩
 exact ⟨rfl, ht w' _ _ h2⟩
theorem StSh.put1 (hg : StGood Q c) (hc : c + 8 ≤ 1000000) (h : StSh W g lo Q c s base S) (x : SampV) (d : Nat) (hx : x.wf) :
  Calls Tryz.prog 15 #[.pointer (some ⟨g, 0, none⟩), .slice (some ⟨W.heap.size, 0, none⟩) 1 d] (W.alloc (.cells #[.string x.name, .int .i64 x.time, .int .i64 x.value] 44)) fun r w' => (∃ v, r = .returned v) ∧ StSh w' g lo (stPut Q [x]) (c + 8) s base S ∧ Below lo W w' := by
 have hlo := h.lo_le
 have hf : Fr (fun _ => False) W (W.alloc (.cells #[.string x.name, .int .i64 x.time, .int .i64 x.value] 44)) := Fr.none_alloc _ _
 obtain ⟨F, F', h1, h2, h3⟩ := h
 have h1' := h1.fr0 hf
 have hs := hf.size
 refine (stput_any hg hc h1' (by omega) [x] _ 1 d (Rd.newS rfl [.string x.name, .int .i64 x.time, .int .i64 x.value] _ 1 3 rfl) (fun y hy => by rw [List.mem_singleton] at hy; rw [hy]; exact hx) (fun j hj hF => by
  obtain ⟨_, ad, e, h3⟩ := hj
  cases e
  have := (h1.ge j hF).2
  simp only at h3
  omega)).mono ?_
 rintro r w' ⟨rfl, ⟨F2, a1, a2⟩, a3⟩
 refine ⟨⟨_, rfl⟩, ⟨F2, F', a1, (h2.fr0 hf).fr a3 h1'.kind2 h3, fun j hj hF => ?_⟩, (hf.below_of hlo (fun _ h => h.elim)).trans (a3.below_of (by omega) (fun j hj => (h1.ge j hj).1))⟩
 rcases a2 j hF with h4 | h4
 ·exact h3 j hj h4
 ·have := (h2.ge j hj).2; omega
theorem sp_shadow2 (hg : StGood Q c) (h : StP W g lo Q c) :
  Calls Tryz.prog 25 #[.pointer (some ⟨g, 0, none⟩)] W fun r w' => ((Q.ch = none → r = .returned (.pointer none)) ∧ (∀ S, Q.ch = some S → ∃ s base, r = .returned (.pointer (some ⟨s, 0, none⟩)) ∧ StSh w' g lo Q c s base S)) ∧ Below W.heap.size W w' := by
 obtain ⟨F, h⟩ := h
 refine (stshadow_any hg h 0 (by omega)).mono ?_
 rintro r w' ⟨⟨v, F', rfl, h1, h2⟩, hb⟩
 refine ⟨⟨fun he => ?_, fun S he => ?_⟩, hb⟩
 ·rw [he] at h1
  obtain ⟨rfl, _⟩ := h1
  rfl
 ·rw [he] at h1
  obtain ⟨s, base, _, rfl, h3⟩ := h1
  exact ⟨s, base, rfl, F, F', h.fr0 (Fr.b0 hb), h3, fun j hj hF => by have := h2 j hj; have := (h.ge j hF).2; omega⟩
theorem ShAt.plan {W : World} {s base : Nat} {S : ShX} (h : ShAt W s base S) : ∃ A c B d, W.cell? ⟨s, 0, none⟩ = some (.string S.name) ∧ W.cell? ⟨s, 1, none⟩ = some (.slice A S.tiers.length c) ∧ W.cell? ⟨s, 2, none⟩ = some (.slice B S.srcs.length d) ∧ Rd W 4 A S.tiers.length (tcells S.tiers) ∧ s < W.heap.size := by
 obtain ⟨A, c, B, d, T, ct, tb, hi⟩ := h
 exact ⟨A, c, B, d, hi.blk.cell 0, hi.blk.cell 1, hi.blk.cell 2, (own_any hi.tiers).2.2.1, hi.blk.lt⟩
end
def StTi (W : World) (g lo : Nat) (Q : StX) (c t : Nat) (Y : TiersX) (d : Nat) : Prop := ∃ F F', StOn W g lo Q c F ∧ Tio Y.name Y.tiers Y.floors lo W t Y F' d ∧ ∀ j, F' j → ¬ F j
section
variable {W W' : World} {g lo : Nat} {Q : StX} {c t d : Nat} {Y : TiersX}
theorem StTi.p (h : StTi W g lo Q c t Y d) : StP W g lo Q c := by
 obtain ⟨F, F', h1, _, _⟩ := h
 exact ⟨F, h1⟩
theorem StTi.ti (h : StTi W g lo Q c t Y d) : ∃ F, Tio Y.name Y.tiers Y.floors lo W t Y F d := by
 obtain ⟨F, F', _, h2, _⟩ := h
 exact ⟨F', h2⟩
theorem StTi.fr0 (h : StTi W g lo Q c t Y d) (f : Fr (fun _ => False) W W') : StTi W' g lo Q c t Y d := by
 obtain ⟨F, F', h1, h2, h3⟩ := h
 exact ⟨F, F', h1.fr0 f, h2.fr0 f, h3⟩
theorem StTi.more (h : StTi W g lo Q c t Y d) {e : Nat} (he : c ≤ e) : StTi W g lo Q e t Y d := by
 obtain ⟨F, F', h1, h2, h3⟩ := h
 exact ⟨F, F', h1.more he, h2, h3⟩
theorem StTi.lo_le (h : StTi W g lo Q c t Y d) : lo ≤ W.heap.size := by have := h.p.lt; omega
theorem StTi.turn (h : StTi W g lo Q c t Y d) : ∃ F, StOn W g lo Q c F ∧ ∀ W' Q' e, StR W g lo Q' e F W' → StTi W' g lo Q' e t Y d ∧ Below lo W W' := by
 have hlo := h.lo_le
 obtain ⟨F, F', h1, h2, h3⟩ := h
 refine ⟨F, h1, ?_⟩
 rintro W' Q' e ⟨⟨F2, a1, a2⟩, a3⟩
 refine ⟨⟨F2, F', a1, h2.frK2 a3 h1.kind2 h3, fun j hj hF => ?_⟩, a3.below_of hlo (fun j hj => (h1.ge j hj).1)⟩
 rcases a2 j hF with h4 | h4
 ·exact h3 j hj h4
 ·have := (h2.ge j hj).2; omega
theorem sp_tiers2 (hg : StGood Q c) (h : StP W g lo Q c) :
  Calls Tryz.prog 14 #[.pointer (some ⟨g, 0, none⟩)] W fun r w' => (∃ t, r = .returned (.pointer (some ⟨t, 0, none⟩)) ∧ StTi w' g lo Q c t Q.X c) ∧ Below W.heap.size W w' := by
 have hlt := h.lt
 obtain ⟨F, h⟩ := h
 refine (sttiers_any hg h lo (by omega)).mono ?_
 rintro r w' ⟨⟨t, F', rfl, h1, h2⟩, hb⟩
 exact ⟨⟨t, rfl, F, F', h.fr0 (Fr.b0 hb), h1, fun j hj hF => by have := h2 j hj; have := (h.ge j hF).2; omega⟩, hb⟩
theorem StTi.put (hg : StGood Q c) (hc : c + 8 ≤ 1000000) (h : StTi W g lo Q c t Y d) (s : List SampV) (A : Option Addr) (n e : Nat) (hr : Rd W 3 A n (scells s)) (hsw : ∀ x ∈ s, x.wf) (hA : ∀ j, adF A n j → j < lo) :
  Calls Tryz.prog 15 #[.pointer (some ⟨g, 0, none⟩), .slice A n e] W fun r w' => r = .returned (.int .i64 (stPutE Q s)) ∧ StTi w' g lo (stPut Q s) (c + 8) t Y d ∧ Below lo W w' := by
 obtain ⟨F, h1, ht⟩ := h.turn
 refine (stput_any hg hc h1 h.lo_le s A n e hr hsw (fun j hj hF => by have h3 := hA j hj; have h2 := (h1.ge j hF).1; omega)).mono ?_
 rintro r w' ⟨rfl, h2⟩
 exact ⟨rfl, ht w' _ _ h2⟩
theorem StTi.reach (h : StTi W g lo Q c t Y d) : ∃ tA tc tB td, ReachIn W t Y.now Y.name Y.tiers Y.floors tA tc tB td := by
 obtain ⟨F, h⟩ := h.ti
 exact h.reach
end
end Go.Proofs.YtkfdgodngbinlaaGreatDoor
