/- A shadow that is as it should be stays so: Note; what its tables hold; a shadow taken up again. -/
import Derived.Test.YtfhhepfkjndkgaaGreatShNote
import Derived.Test.YtfhhepfkjndkgaaGreatShChk
import Derived.Test.YtfhhepfkjndkgaaGreatTioA
import Derived.Test.YtfhhepfkjndkgaaGreatRollLaw
namespace Go.Proofs.YtfhhepfkjndkgaaGreat
set_option linter.all false
open Go.RowKit

section
variable {nm nm2 : ByteArray} {l lt : List TierV} {fl : List Int} {lo : Nat} {W : World} {t s base : Nat} {X : TiersX} {S : ShX} {Ft F : Nat → Prop} {cc : Nat}
theorem put_takes {z : SampV} (hE : putE X [z] = 0) : 0 ≤ z.time := by
 have h : firstE X [z] = 0 := hE
 unfold firstE at h
 by_cases hz : takesV X.now X.tiers X.floors z = 0
 ·unfold takesV at hz
  split at hz
  ·rename_i h2; exact h2.2
  ·cases hz
 ·rw [List.find?_cons_of_pos (by simp [hz])] at h
  exact absurd h hz
theorem ShOk.tab (h : ShOk nm2 l lt fl X S) (p : PolOk nm l) (p2 : PolOk nm2 lt) (hg : GoodX nm l fl X cc) (hfl : ∀ f ∈ fl, 0 ≤ f ∧ f ≤ 2199023255552) {j : Nat} {y : TierV} (hy : lt[j]? = some y) :
  Sorted (S.tabs.getD j []) ∧ ∀ r ∈ S.tabs.getD j [], rightR y.every r = true := by
 have hj := (List.getElem?_eq_some_iff.1 hy).1
 obtain ⟨h1, h2⟩ := build_right p p2 hg hfl hy
 rw [h.tabs, shT_getD hj]
 unfold shL
 refine ⟨?_, fun r hr => (h2 r (List.mem_filter.1 hr).1).1⟩
 exact List.Pairwise.sublist List.filter_sublist h1.1
set_option maxHeartbeats 1000000 in
theorem snote_ok (p : PolOk nm l) (p2 : PolOk nm2 lt) (hnm2 : nm2.size ≤ maxLen) {z : SampV} {c0 : Nat} (hg : GoodX nm l fl X c0) (hE : putE X [z] = 0) (hz : z.wf) (h : Tio nm l fl lo W t (putX X [z]) Ft cc) (hc : cc ≤ 1000000) (hc0 : c0 ≤ 1000000) (hfl : ∀ f ∈ fl, 0 ≤ f ∧ f ≤ 2199023255552) (hs : ShOn W s base S F) (hk : ShOk nm2 l lt fl X S) (A1 : Option Addr) (c1 : Nat) (hr : Rd W 3 A1 1 (scells [z])) (hA : ∀ j, adF A1 1 j → ¬ F j) :
  Calls Tryz.prog 25 #[.pointer (some ⟨s, 0, none⟩), .pointer (some ⟨t, 0, none⟩), .slice A1 1 c1] W fun r w' => r = .returned (.tuple #[]) ∧ ShOn w' s base { S with tabs := shT lt S.done (buildX (putX X [z]) nm2 lt (srcs X.now l fl lt)).tabs } F ∧ Fr F W w' := by
 have hX : putX X [z] = { X with tabs := addT X X.tabs z } := by unfold putX; rw [if_pos hE]; rfl
 have hnow : (putX X [z]).now = X.now := by rw [hX]
 have hst := steps_in p2
 have h2 := snote_any p p2 hnm2 h hc hfl hs hk.name hk.tiers (by rw [hnow]; exact hk.src) ⟨hk.d0, by have := hk.d1; omega⟩ (fun m hm => Nat.le_trans (hk.lens p p2 hg hfl m hm) hc0) [z] A1 1 c1 hr (fun y hy => by rw [List.mem_singleton] at hy; rw [hy]; exact hz) (by decide) hA
 refine h2.mono ?_
 rintro r w' ⟨rfl, h3, h4⟩
 refine ⟨rfl, ?_, h4⟩
 have e := shT_note (done := S.done) p.ck hg hfl p2.ck hE (put_takes hE)
 have e2 : notesT (buildX (putX X [z]) nm2 lt (srcs (putX X [z]).now l fl lt)) S.done S.tabs [z] = noteT (buildX (putX X [z]) nm2 lt (srcs X.now l fl lt)) S.done S.tabs z := by rw [hnow]; rfl
 rw [e2, hk.tabs, e] at h3
 exact h3
theorem ShOk.noted (h : ShOk nm2 l lt fl X S) {z : SampV} : ShOk nm2 l lt fl (putX X [z]) { S with tabs := shT lt S.done (buildX (putX X [z]) nm2 lt (srcs X.now l fl lt)).tabs } := by
 have hnow : (putX X [z]).now = X.now := by unfold putX; split <;> rfl
 refine ⟨h.name, h.tiers, ?_, ?_, h.d0, h.d1⟩
 ·rw [hnow]; exact h.src
 ·rw [hnow]
theorem ShOk.eq (h : ShOk nm2 l lt fl X S) {bd q : Int} (hb : S.bound = bd) (hd : S.done = q) : (⟨nm2, lt, srcs X.now l fl lt, bd, q, S.tabs⟩ : ShX) = S := by
 have h1 := h.name
 have h2 := h.tiers
 have h3 := h.src
 obtain ⟨a, b, c, d, e, f⟩ := S
 simp only at h1 h2 h3 hb hd
 rw [h1, h2, h3, hb, hd]
theorem ShOn.recs_wf (h : ShOn W s base S F) {j : Nat} (hj : j < S.tiers.length) : ∀ r ∈ S.tabs.getD j [], r.wf := by
 obtain ⟨A, c, B, d, T, ct, tb, hi, _⟩ := h
 obtain ⟨g, b, x, L, _, _, t3, hT⟩ := hi.tabAt (k := j) hj
 rw [List.getD_eq_getElem?_getD, t3]
 exact hT.own.wf
theorem recI_nat (tabs : List (List RecV)) (j : Nat) : recI tabs (j : Int) = tabs.getD j [] := by
 unfold recI
 rw [if_pos (by omega)]
 simp
theorem ShOn.lo_size (h : ShOn W s base S F) : base < W.heap.size := by
 obtain ⟨A, c, B, d, T, ct, tb, hi, _⟩ := h
 exact Nat.lt_of_le_of_lt hi.tge hi.blk.lt
theorem adF_one {b n j : Nat} (h : adF (some ⟨b, 0, none⟩) n j) : j = b := by
 obtain ⟨_, ad, e, h⟩ := h
 cases e
 exact h.symm
theorem ShOn.cell4 (h : ShOn W s base S F) : W.cell? ⟨s, 4, none⟩ = some (.int .i64 S.done) := by
 obtain ⟨A, c, B, d, T, ct, tb, hi, _⟩ := h
 exact (hi.cells (Fr.refl (fun _ => False) W) (fun h => h)).2.2.2.2.1
theorem Blk.alloc' {w w' : World} {g : Nat} {t : TypeId} {cs : Array Value} (h : Blk w g t cs) (f : Fr (fun _ => False) w w') : Blk w' g t cs := h.fr f (fun h => h)
theorem ShOk.unput (h : ShOk nm2 l lt fl X S) {z : SampV} (hE : putE X [z] ≠ 0) : ShOk nm2 l lt fl (putX X [z]) S := by
 have hX : putX X [z] = X := by unfold putX; rw [if_neg hE]
 rw [hX]
 exact h
end
end Go.Proofs.YtfhhepfkjndkgaaGreat
