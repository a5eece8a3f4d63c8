/- A shadow that is as it should be stays so: Note; what its tables hold; a shadow taken up again. -/
import Derived.Test.YtaakghjbbkgbdaaGreatDoorShNote
import Derived.Test.YtaakghjbbkgbdaaGreatDoorShChk
import Derived.Test.YtaakghjbbkgbdaaGreatDoorTioA
import Derived.Test.YtaakghjbbkgbdaaGreatDoorRollLaw
import Derived.Test.YtaakghjbbkgbdaaGreatDoorShA
import Derived.Test.YtaakghjbbkgbdaaGreatDoorPlanBuild
import Derived.Test.YtaakghjbbkgbdaaGreatDoorRTAdd
import Derived.Test.YtaakghjbbkgbdaaGreatDoorTiersCopy
import Derived.Test.YtaakghjbbkgbdaaGreatDoorShBegin
import Derived.Test.YtaakghjbbkgbdaaGreatDoorShCopy
namespace Go.Proofs.YtaakghjbbkgbdaaGreatDoor
set_option linter.all false
open Go.RowKit

section
variable {nm nm2 : ByteArray} {l lt : List TierV} {fl : List Int} {o : Int} {lo : Nat} {W : World} {t s base : Nat} {X : TiersX} {S : ShX} {Ft F : Nat → Prop} {cc : Nat}
theorem ShOk.tab (h : ShOk nm2 l lt fl o X S) (p : PolOk nm l) (p2 : PolOk nm2 lt) (hg : GoodX nm l fl X cc) (hfl : ∀ f ∈ fl, 0 ≤ f ∧ f ≤ 2199023255552) {j : Nat} {y : TierV} (hy : lt[j]? = some y) :
  Sorted (S.tabs.getD j []) ∧ ∀ r ∈ S.tabs.getD j [], rightR y.every r = true := by
 have hj := (List.getElem?_eq_some_iff.1 hy).1
 obtain ⟨h1, h2⟩ := build_right (o := o) p p2 hg hfl hy
 rw [h.tabs, shT_getD hj]
 unfold shL
 refine ⟨?_, fun r hr => (h2 r (List.mem_filter.1 hr).1).1⟩
 exact List.Pairwise.sublist List.filter_sublist h1.1
theorem ShOk.noted (h : ShOk nm2 l lt fl o X S) {z : SampV} : ShOk nm2 l lt fl o (putX X [z]) { S with tabs := shT lt S.done (buildX (putX X [z]) nm2 lt (srcs o l fl lt)).tabs } :=
 ⟨h.name, h.tiers, h.src, rfl, h.d0, h.d1⟩
end
end Go.Proofs.YtaakghjbbkgbdaaGreatDoor
namespace Go.Proofs.YtaakghjbbkgbdaaGreatDoor
set_option linter.all false
open Go.RowKit

def trimX (Y : TiersX) (S : ShX) : ShX := { S with tabs := (List.range Y.tiers.length).map fun j => keepT (startBelow (fromV Y.now Y.tiers Y.floors j)) (S.tabs.getD j []) }
end Go.Proofs.YtaakghjbbkgbdaaGreatDoor
namespace Go.Proofs.YtaakghjbbkgbdaaGreatDoor
set_option linter.all false
open Go.RowKit

end Go.Proofs.YtaakghjbbkgbdaaGreatDoor
namespace Go.Proofs.YtaakghjbbkgbdaaGreatDoor
set_option linter.all false
open Go.RowKit

section
variable {nm nm2 : ByteArray} {l lt : List TierV} {fl : List Int} {o : Int} {X : TiersX} {S : ShX} {c : Nat}
theorem noteT_eq {Y Z : TiersX} {done : Int} (h1 : Y.now = Z.now) (h2 : Y.tiers = Z.tiers) (h3 : Y.floors = Z.floors) : noteT Y done = noteT Z done := by
 funext tabs s
 unfold noteT noteL
 rw [h1, h2, h3]
theorem takes_pos {now : Int} {l : List TierV} {fl : List Int} {z : SampV} (h : takesV now l fl z = 0) : 0 ≤ z.time := by
 unfold takesV at h
 split at h
 ·rename_i h2; exact h2.2
 ·cases h
theorem putE_one {z : SampV} (h : takesV X.now X.tiers X.floors z = 0) : putE X [z] = 0 := by
 show firstE X [z] = 0
 exact firstE_zero (fun s hs => by rw [List.mem_singleton] at hs; rw [hs]; exact h)
theorem shT_notes (p : checkB nm l = true) (hfl : ∀ f ∈ fl, 0 ≤ f ∧ f ≤ 2199023255552) (p2 : checkB nm2 lt = true) (done : Int) : ∀ (s : List SampV) (X : TiersX) (c : Nat), GoodX nm l fl X c → (∀ a ∈ s, takesV X.now X.tiers X.floors a = 0) →
  notesT (buildX { X with tabs := putsT X X.tabs s } nm2 lt (srcs o l fl lt)) done (shT lt done (buildX X nm2 lt (srcs o l fl lt)).tabs) s = shT lt done (buildX { X with tabs := putsT X X.tabs s } nm2 lt (srcs o l fl lt)).tabs
 | [], X, c, _, _ => rfl
 | a :: s, X, c, hg, h => by
  have ha := h a (by simp)
  have hE := putE_one ha
  have hX : putX X [a] = { X with tabs := addT X X.tabs a } := by unfold putX; rw [if_pos hE]; rfl
  have hg2 := hg.put [a]
  have ih := shT_notes p hfl p2 done s (putX X [a]) (c + 8) hg2 (fun b hb => by rw [hX]; exact h b (List.mem_cons_of_mem _ hb))
  have e2 := shT_note (o := o) (done := done) p hg hfl p2 hE (takes_pos ha)
  have e3 : ({ putX X [a] with tabs := putsT (putX X [a]) (putX X [a]).tabs s } : TiersX) = { X with tabs := putsT X X.tabs (a :: s) } := by rw [hX]; rfl
  rw [e3] at ih
  have e4 : noteT (buildX { X with tabs := putsT X X.tabs (a :: s) } nm2 lt (srcs o l fl lt)) done = noteT (buildX (putX X [a]) nm2 lt (srcs o l fl lt)) done := noteT_eq (by rw [hX]; first | done | rfl) rfl (by rw [hX]; first | done | rfl)
  rw [← ih, ← e2]
  show notesT _ done (noteT _ done _ a) s = _
  rw [e4]
theorem shT_put (p : checkB nm l = true) (hg : GoodX nm l fl X c) (hfl : ∀ f ∈ fl, 0 ≤ f ∧ f ≤ 2199023255552) (p2 : checkB nm2 lt = true) {s : List SampV} (hE : putE X s = 0) (done : Int) :
  notesT (buildX (putX X s) nm2 lt (srcs o l fl lt)) done (shT lt done (buildX X nm2 lt (srcs o l fl lt)).tabs) s = shT lt done (buildX (putX X s) nm2 lt (srcs o l fl lt)).tabs := by
 have hX : putX X s = { X with tabs := putsT X X.tabs s } := by unfold putX; rw [if_pos hE]
 rw [hX]
 refine shT_notes p hfl p2 done s X c hg (fun a ha => ?_)
 have h : firstE X s = 0 := by
  unfold putE at hE
  split at hE
  ·cases hE
  ·split at hE
   ·cases hE
   ·exact hE
 unfold firstE at h
 split at h
 ·rename_i z hz
  have := List.find?_some hz
  simp only [decide_eq_true_eq] at this
  exact absurd h this
 ·rename_i hz
  have := List.find?_eq_none.1 hz a ha
  simpa using this
theorem roll_keep {e F F' G : Int} (he : 1 ≤ e) (hF : F ≤ F') (hG : G ≤ F') : ∀ {L acc : List RecV}, goodL acc → (∀ r ∈ L, 0 ≤ r.start) →
  keepT (startBelow F') (rollsR e F acc L) = rollsR e F' (keepT (startBelow F') acc) (keepT (startBelow G) L)
 | [], _, _, _ => rfl
 | r :: L, acc, hg, hr => by
  have h0 := hr r (by simp)
  obtain ⟨_, f2, _⟩ := floor_on h0 he
  show keepT (startBelow F') (rollsR e F (rollR e F acc r) L) = _
  rw [roll_keep he hF hG (rollR_good hg r) (fun y hy => hr y (List.mem_cons_of_mem _ hy))]
  have hcons : keepT (startBelow G) (r :: L) = if r.start < G then keepT (startBelow G) L else r :: keepT (startBelow G) L := by
   unfold keepT
   by_cases h : r.start < G
   ·rw [if_pos h, List.filter_cons_of_neg (by unfold startBelow; simp [h])]
   ·rw [if_neg h, List.filter_cons_of_pos (by unfold startBelow; simp [h])]
  have hlow : floorV r.start e < F' → keepT (startBelow F') (rollR e F acc r) = keepT (startBelow F') acc := fun h => by
   unfold rollR
   split
   ·exact keep_add_lo (startBelow_key F') hg.1 (by unfold startBelow; simpa using h)
   ·rfl
  rw [hcons]
  by_cases h1 : r.start < G
  ·rw [if_pos h1, hlow (by omega)]
  ·rw [if_neg h1]
   show _ = rollsR e F' (rollR e F' (keepT (startBelow F') acc) r) (keepT (startBelow G) L)
   congr 1
   by_cases h2 : F' ≤ floorV r.start e
   ·unfold rollR
    rw [if_pos h2, if_pos (by omega)]
    exact keep_add_hi (startBelow_key F') hg.1 (by unfold startBelow; simp; omega)
   ·rw [hlow (by omega)]
    unfold rollR
    rw [if_neg h2]
theorem ceil_mono {a b e : Int} (h0 : 0 ≤ a) (hab : a ≤ b) (h1 : b ≤ 4398046511104) (he : 1 ≤ e) (he2 : e ≤ 1000000) : ceilV a e ≤ ceilV b e := by
 obtain ⟨a1, a2, a3, a4, _⟩ := ceil_law (t := a) (e := e) h0 (by omega) he he2
 obtain ⟨b1, b2, b3, b4, _⟩ := ceil_law (t := b) (e := e) (by omega) h1 he he2
 rw [Int.tmod_eq_emod_of_nonneg a4] at a1
 rw [Int.tmod_eq_emod_of_nonneg b4] at b1
 obtain ⟨x, hx⟩ := Int.dvd_of_emod_eq_zero a1
 obtain ⟨y, hy⟩ := Int.dvd_of_emod_eq_zero b1
 rw [hx] at a3
 rw [hy] at b2
 rw [hx, hy]
 rcases Int.lt_or_le y x with h | h
 ·have h4 : e * (y + 1) ≤ e * x := Int.mul_le_mul_of_nonneg_left (by omega) (by omega)
  rw [Int.mul_add] at h4
  omega
 ·exact Int.mul_le_mul_of_nonneg_left h (by omega)
theorem from_mono2 {a b : Int} {l : List TierV} {fl fl' : List Int} {k : Nat} {f f' : Int} (hl : ∀ t ∈ l, t.keep ≤ 1000000 ∧ t.every ≤ 1000000) (ha : 0 ≤ a) (hab : a ≤ b) (hf : fl[k]? = some f) (hf' : fl'[k]? = some f') (hff : f ≤ f') : fromV a l fl k ≤ fromV b l fl' k := by
 unfold fromV
 rw [hf, hf']
 split
 ·rename_i x y hx hy
  have hb := back_mono (keep := x.keep) (e := y.every) ha (hl x (mem_of_get hx)).1 (hl y (mem_of_get hy)).2 hab
  simp only
  omega
 ·exact Int.le_refl _
theorem build_tick (p : checkB nm l = true) (hg : GoodX nm l fl X c) (hfl : ∀ f ∈ fl, 0 ≤ f ∧ f ≤ 2199023255552) (p2 : checkB nm2 lt = true) {n : Int} (hE : tickE X n = 0) {j : Nat} (hj : j < lt.length) :
  (buildX (tickX X n) nm2 lt (srcs o l fl lt)).tabs.getD j [] = keepT (startBelow (fromV (tickX X n).now lt (basesV (tickX X n).now l fl (srcs o l fl lt) lt) j)) ((buildX X nm2 lt (srcs o l fl lt)).tabs.getD j []) := by
 have hg2 := hg.tick n
 have hX := tickX_ok hE
 have hn0 : 0 ≤ n := by unfold tickE at hE; split at hE <;> omega
 have hy : lt[j]? = some lt[j] := List.getElem?_eq_getElem hj
 obtain ⟨i, x, hx, hs, hd, hf, hb⟩ := build_src (o := o) (X := X) p hg.now hfl p2 hy
 obtain ⟨i2, x2, hx2, hs2, hd2, hf2, hb2⟩ := build_src (o := o) (X := tickX X n) p hg2.now hfl p2 hy
 rw [hs] at hs2
 have hi2 : i2 = i := by injection hs2 with h; omega
 subst hi2
 have hi := (List.getElem?_eq_some_iff.1 hx).1
 have hxX : X.tiers[i2]? = some x := by rw [hg.tiers]; exact hx
 have hxX2 : (tickX X n).tiers[i2]? = some x := by rw [hg2.tiers]; exact hx
 have hy1 := check_mem p2 (mem_of_get hy)
 have hnow : (tickX X n).now = X.now + n := by rw [hX]
 have hle : ∀ {l : List TierV} {nm : ByteArray}, checkB nm l = true → ∀ t ∈ l, t.keep ≤ 1000000 ∧ t.every ≤ 1000000 := fun h t ht => by have := check_mem h ht; omega
 have hm1 := from_mono (a := X.now) (b := (tickX X n).now) (l := l) (fl := fl) (hle p) hg.now.1 (by omega) i2
 have hbd := from_bd p hg.now.1 hg.now.2 hfl i2
 have hbd2 := from_bd p hg2.now.1 hg2.now.2 hfl i2
 have hm2 := from_mono2 (hle p2) hg.now.1 (show X.now ≤ (tickX X n).now by omega) hb hb2 (ceil_mono hbd.1 hm1 (by omega) hy1.1 hy1.2.1)
 rw [build_tab hj, build_tab hj]
 unfold buildL
 rw [hs, hy]
 simp only [Int.toNat_natCast]
 rw [hxX, hxX2]
 simp only
 rw [hg.tiers, hg.floors, hg2.tiers, hg2.floors]
 unfold rollV
 simp only [if_pos hd, rolls_eq]
 have ht : (tickX X n).tabs.getD i2 [] = keepT (startBelow (fromV (X.now + n) l fl i2)) (X.tabs.getD i2 []) := by
  rw [hX]
  show (dropL (X.now + n) X).getD i2 [] = _
  rw [dropL_getD _ _ _ (by rw [hg.tiers]; exact hi), hg.tiers, hg.floors]
 rw [ht]
 rw [hnow] at hm2 hf2 ⊢
 exact (roll_keep hy1.1 hm2 hf2 good_nil (fun r hr => (hg.grid i2 x hx r hr).2.1)).symm
theorem shT_tick (p : checkB nm l = true) (hg : GoodX nm l fl X c) (hfl : ∀ f ∈ fl, 0 ≤ f ∧ f ≤ 2199023255552) (p2 : checkB nm2 lt = true) {n : Int} (hE : tickE X n = 0) (done : Int) :
  (List.range lt.length).map (fun j => keepT (startBelow (fromV (tickX X n).now lt (basesV (tickX X n).now l fl (srcs o l fl lt) lt) j)) ((shT lt done (buildX X nm2 lt (srcs o l fl lt)).tabs).getD j [])) = shT lt done (buildX (tickX X n) nm2 lt (srcs o l fl lt)).tabs := by
 conv => rhs; unfold shT
 refine List.map_congr_left (fun j hj => ?_)
 have hj := List.mem_range.1 hj
 rw [shT_getD hj]
 unfold shL
 rw [build_tick p hg hfl p2 hE hj]
 unfold keepT
 rw [List.filter_filter, List.filter_filter]
 refine List.filter_congr fun r _ => ?_
 rw [Bool.and_comm]
theorem sum_le_sum : ∀ {a b : List Nat}, a.length = b.length → (∀ (i : Nat) x y, a[i]? = some x → b[i]? = some y → x ≤ y) → a.sum ≤ b.sum
 | [], [], _, _ => Nat.le_refl _
 | x :: a, y :: b, hl, h => by
  have h1 := h 0 x y rfl rfl
  have h2 := sum_le_sum (a := a) (b := b) (by simpa using hl) (fun i x y hx hy => h (i + 1) x y hx hy)
  simp only [List.sum_cons]
  omega
 | [], _ :: _, hl, _ => by simp at hl
 | _ :: _, [], hl, _ => by simp at hl
theorem needV_keep (M : Int) (so : RecV → Bool) (m : List RecV) : needV M (keepT so m) ≤ needV M m := by
 unfold needV
 refine sum_le_sum (by simp) (fun i x y hx hy => ?_)
 rw [List.getElem?_map] at hx hy
 cases hr : (List.range M.toNat)[i]? with
 | none => rw [hr] at hx; cases hx
 | some k =>
  rw [hr] at hx hy
  simp only [Option.map_some, Option.some.injEq] at hx hy
  subst hx
  subst hy
  have h : cntS M (keepT so m) k ≤ cntS M m k := by
   unfold cntS keepT
   rw [List.filter_filter, ← List.countP_eq_length_filter, ← List.countP_eq_length_filter]
   exact List.countP_mono_left (fun r _ h => by simp only [Bool.and_eq_true] at h; exact h.1)
  omega
theorem ShOk.put (h : ShOk nm2 l lt fl o X S) (p : checkB nm l = true) (hg : GoodX nm l fl X c) (hfl : ∀ f ∈ fl, 0 ≤ f ∧ f ≤ 2199023255552) (p2 : checkB nm2 lt = true) {s : List SampV} (hE : putE X s = 0) :
  ShOk nm2 l lt fl o (putX X s) { S with tabs := notesT (buildX (putX X s) nm2 lt (srcs o l fl lt)) S.done S.tabs s } :=
 ⟨h.name, h.tiers, h.src, by show notesT _ S.done S.tabs s = _; rw [h.tabs]; exact shT_put p hg hfl p2 hE S.done, h.d0, h.d1⟩
theorem ShOk.tick (h : ShOk nm2 l lt fl o X S) (p : checkB nm l = true) (hg : GoodX nm l fl X c) (hfl : ∀ f ∈ fl, 0 ≤ f ∧ f ≤ 2199023255552) (p2 : checkB nm2 lt = true) {n : Int} (hE : tickE X n = 0) :
  ShOk nm2 l lt fl o (tickX X n) (trimX (buildX (tickX X n) nm2 lt (srcs o l fl lt)) S) := by
 have hg2 := hg.tick n
 refine ⟨h.name, h.tiers, h.src, ?_, h.d0, h.d1⟩
 have := shT_tick (o := o) p hg hfl p2 hE S.done
 show _ = shT lt S.done (buildX (tickX X n) nm2 lt (srcs o l fl lt)).tabs
 rw [← this, ← h.tabs]
 show (List.range lt.length).map (fun j => keepT (startBelow (fromV (tickX X n).now lt (basesV (tickX X n).now (tickX X n).tiers (tickX X n).floors (srcs o l fl lt) lt) j)) (S.tabs.getD j [])) = _
 rw [hg2.tiers, hg2.floors]
end
section
variable {nm nm2 : ByteArray} {l lt : List TierV} {fl : List Int} {o : Int} {lo : Nat} {W : World} {t s base : Nat} {X : TiersX} {S : ShX} {Ft F : Nat → Prop} {cc c0 : Nat}
theorem snotes_ok (p : PolOk nm l) (p2 : PolOk nm2 lt) (hnm2 : nm2.size ≤ maxLen) (hg : GoodX nm l fl X c0) {sl : List SampV} (hE : putE X sl = 0) (hz : ∀ z ∈ sl, z.wf) (h : Tio nm l fl lo W t (putX X sl) Ft cc) (hc : cc ≤ 1000000) (hc0 : c0 ≤ 1000000) (hfl : ∀ f ∈ fl, 0 ≤ f ∧ f ≤ 2199023255552) (hs : ShOn W s base S F) (hk : ShOk nm2 l lt fl o X S) (A1 : Option Addr) (n1 c1 : Nat) (hr : Rd W 3 A1 n1 (scells sl)) (hn1 : n1 ≤ 1000) (hA : ∀ j, adF A1 n1 j → ¬ F j) :
  Calls Tryz.prog 142 #[.pointer (some ⟨s, 0, none⟩), .pointer (some ⟨t, 0, none⟩), .slice A1 n1 c1] W fun r w' => r = .returned (.tuple #[]) ∧ ShOn w' s base { S with tabs := notesT (buildX (putX X sl) nm2 lt (srcs o l fl lt)) S.done S.tabs sl } F ∧ ShOk nm2 l lt fl o (putX X sl) { S with tabs := notesT (buildX (putX X sl) nm2 lt (srcs o l fl lt)) S.done S.tabs sl } ∧ Fr F W w' := by
 have hst := steps_in p2
 refine (snote_any p p2 hnm2 h hc hfl hs hk.name hk.tiers hk.src ⟨hk.d0, by have := hk.d1; omega⟩ (fun m hm => Nat.le_trans (hk.lens p p2 hg hfl m hm) hc0) sl A1 n1 c1 hr hz hn1 hA).mono ?_
 rintro r w' ⟨rfl, h3, h4⟩
 exact ⟨rfl, h3, hk.put p.ck hg hfl p2.ck hE, h4⟩
end
end Go.Proofs.YtaakghjbbkgbdaaGreatDoor
namespace Go.Proofs.YtaakghjbbkgbdaaGreatDoor
set_option linter.all false
open Go.RowKit

structure StX where
 room : Int
 X : TiersX
 ch : Option ShX
def boundO : Option ShX → Int
 | none => 0
 | some S => S.bound
def ShX.built (S : ShX) (X : TiersX) : TiersX := buildX X S.name S.tiers S.srcs
def fitsO : Option ShX → TiersX → Bool
 | none, _ => true
 | some S, X => decide (((needX (S.built X) : Nat) : Int) ≤ S.bound)
def roomB (Q : StX) (X : TiersX) : Bool := decide (((needX X : Nat) : Int) + boundO Q.ch ≤ Q.room) && fitsO Q.ch X
def stPutE (Q : StX) (s : List SampV) : Int := if putE Q.X s = 0 then (if roomB Q (putX Q.X s) then 0 else 20) else putE Q.X s
def ShX.noted (S : ShX) (X : TiersX) (s : List SampV) : ShX := { S with tabs := notesT (S.built X) S.done S.tabs s }
def stPut (Q : StX) (s : List SampV) : StX := if stPutE Q s = 0 then { Q with X := putX Q.X s, ch := Q.ch.map fun S => S.noted (putX Q.X s) s } else Q
def stTick (Q : StX) (n : Int) : StX := if tickE Q.X n = 0 then { Q with X := tickX Q.X n, ch := Q.ch.map fun S => trimX (S.built (tickX Q.X n)) S } else Q
def beginS (X : TiersX) (nm2 : ByteArray) (lt : List TierV) : ShX :=
 ⟨nm2, lt, srcs X.now X.tiers X.floors lt, 2 * ((needX (buildX X nm2 lt (srcs X.now X.tiers X.floors lt)) : Nat) : Int) + fillsV lt, 0, lt.map fun _ => []⟩
def stChangeE (Q : StX) (R : Int × ByteArray × List TierV) : Int :=
 match Q.ch with
 | some _ => 21
 | none => if R.1 = 0 then (if ((needX Q.X : Nat) : Int) + (beginS Q.X R.2.1 R.2.2).bound ≤ Q.room then 0 else 20) else R.1
def stChange (Q : StX) (R : Int × ByteArray × List TierV) : StX := if stChangeE Q R = 0 then { Q with ch := some (beginS Q.X R.2.1 R.2.2) } else Q
def stStepR (Q : StX) : (Int × Int × Int) × Int :=
 match Q.ch with
 | none => ((0, 0, 0), 8)
 | some S => ((atV S.tiers S.done).1, 0)
def stStep (Q : StX) : StX :=
 match Q.ch with
 | none => Q
 | some S => if S.done = stepsV S.tiers - 1 then { Q with X := S.built Q.X, ch := none } else { Q with ch := some (S.go S.name S.tiers (S.built Q.X)) }
def stAbort (Q : StX) : StX := { Q with ch := none }

structure ChGood (X : TiersX) (S : ShX) : Prop where
 pol : PolOk S.name S.tiers
 nm : S.name.size ≤ maxLen
 ok : ∃ o, ShOk S.name X.tiers S.tiers X.floors o X S
 done : S.done < stepsV S.tiers
 b0 : 0 ≤ S.bound
 fits : ((needX (S.built X) : Nat) : Int) ≤ S.bound
structure StGood (Q : StX) (c : Nat) : Prop where
 pol : PolOk Q.X.name Q.X.tiers
 nm : Q.X.name.size ≤ maxLen
 good : GoodX Q.X.name Q.X.tiers Q.X.floors Q.X c
 fl : ∀ f ∈ Q.X.floors, 0 ≤ f ∧ f ≤ 1099511627776 + 1000000 * (c : Int)
 flen : Q.X.floors.length ≤ 5
 room : 0 ≤ Q.room ∧ Q.room ≤ 4096
 need : ((needX Q.X : Nat) : Int) + boundO Q.ch ≤ Q.room
 ch : ∀ S, Q.ch = some S → ChGood Q.X S
section
variable {Q : StX} {c : Nat}
theorem StGood.hfl (h : StGood Q c) (hc : c ≤ 1000000) : ∀ f ∈ Q.X.floors, 0 ≤ f ∧ f ≤ 2199023255552 := fun f hf => by
 have := h.fl f hf
 omega
theorem StGood.more (h : StGood Q c) {d : Nat} (hd : c ≤ d) : StGood Q d :=
 ⟨h.pol, h.nm, h.good.more hd, fun f hf => by have := h.fl f hf; omega, h.flen, h.room, h.need, h.ch⟩
theorem putX_parts (X : TiersX) (s : List SampV) : (putX X s).name = X.name ∧ (putX X s).tiers = X.tiers ∧ (putX X s).floors = X.floors ∧ (putX X s).now = X.now := by
 unfold putX
 split <;> exact ⟨rfl, rfl, rfl, rfl⟩
theorem tickX_parts (X : TiersX) (n : Int) : (tickX X n).name = X.name ∧ (tickX X n).tiers = X.tiers ∧ (tickX X n).floors = X.floors := by
 unfold tickX
 split <;> exact ⟨rfl, rfl, rfl⟩
theorem roomB_parts {X : TiersX} (h : roomB Q X = true) : ((needX X : Nat) : Int) + boundO Q.ch ≤ Q.room ∧ fitsO Q.ch X = true := by
 unfold roomB at h
 rw [Bool.and_eq_true, decide_eq_true_eq] at h
 exact h
theorem StGood.put (h : StGood Q c) (hc : c ≤ 1000000) (s : List SampV) : StGood (stPut Q s) (c + 8) := by
 unfold stPut
 split
 ·rename_i hE
  unfold stPutE at hE
  have hP : putE Q.X s = 0 := by
   by_cases hp : putE Q.X s = 0
   ·exact hp
   ·rw [if_neg hp] at hE; exact absurd hE hp
  rw [if_pos hP] at hE
  have hR : roomB Q (putX Q.X s) = true := by
   cases hr : roomB Q (putX Q.X s)
   ·rw [hr] at hE; cases hE
   ·rfl
  obtain ⟨r1, r2⟩ := roomB_parts hR
  obtain ⟨e1, e2, e3, e4⟩ := putX_parts Q.X s
  have hg := h.good.put s
  refine ⟨?_, ?_, ?_, ?_, ?_, h.room, ?_, ?_⟩
  ·show PolOk (putX Q.X s).name (putX Q.X s).tiers
   rw [e1, e2]; exact h.pol
  ·show (putX Q.X s).name.size ≤ _
   rw [e1]; exact h.nm
  ·show GoodX (putX Q.X s).name (putX Q.X s).tiers (putX Q.X s).floors (putX Q.X s) (c + 8)
   rw [e1, e2, e3]; exact hg
  ·show ∀ f ∈ (putX Q.X s).floors, _
   rw [e3]
   intro f hf
   have := h.fl f hf
   omega
  ·show (putX Q.X s).floors.length ≤ 5
   rw [e3]; exact h.flen
  ·show ((needX (putX Q.X s) : Nat) : Int) + boundO (Q.ch.map fun S => S.noted (putX Q.X s) s) ≤ Q.room
   have : boundO (Q.ch.map fun S => S.noted (putX Q.X s) s) = boundO Q.ch := by cases Q.ch <;> rfl
   rw [this]; exact r1
  ·intro S' hS'
   have hS0 : (Q.ch.map fun S => S.noted (putX Q.X s) s) = some S' := hS'
   cases hch : Q.ch with
   | none => rw [hch] at hS0; cases hS0
   | some S =>
    rw [hch] at hS0
    injection hS0 with hS0
    have hk := h.ch S hch
    obtain ⟨o, ho⟩ := hk.ok
    subst hS0
    have hb : (S.noted (putX Q.X s) s).built (putX Q.X s) = S.built (putX Q.X s) := rfl
    refine ⟨hk.pol, hk.nm, ⟨o, ?_⟩, hk.done, hk.b0, ?_⟩
    ·have := ho.put h.pol.ck h.good (h.hfl hc) hk.pol.ck hP
     show ShOk S.name (putX Q.X s).tiers S.tiers (putX Q.X s).floors o (putX Q.X s) (S.noted (putX Q.X s) s)
     rw [e2, e3]
     have e5 : S.noted (putX Q.X s) s = { S with tabs := notesT (buildX (putX Q.X s) S.name S.tiers (srcs o Q.X.tiers Q.X.floors S.tiers)) S.done S.tabs s } := by
      unfold ShX.noted ShX.built
      rw [ho.src]
     rw [e5]
     exact this
    ·show ((needX (S.built (putX Q.X s)) : Nat) : Int) ≤ S.bound
     rw [hch] at r2
     exact of_decide_eq_true r2
 ·exact h.more (by omega)
theorem need_sum {Y Z : TiersX} (ht : Y.tiers = Z.tiers) (hl : Y.tabs.length = Z.tabs.length) (h : ∀ (j : Nat) (m m' : List RecV), Y.tabs[j]? = some m → Z.tabs[j]? = some m' → ∀ M, needV M m ≤ needV M m') : needX Y ≤ needX Z := by
 unfold needX needsX
 rw [ht]
 refine sum_le_sum (by simp [hl]) (fun i x y hx hy => ?_)
 rw [List.getElem?_zipWith] at hx hy
 cases h1 : Z.tiers[i]? with
 | none => rw [h1] at hx; cases hx
 | some t =>
  rw [h1] at hx hy
  cases h2 : Y.tabs[i]? with
  | none => rw [h2] at hx; cases hx
  | some m =>
   cases h3 : Z.tabs[i]? with
   | none => rw [h3] at hy; cases hy
   | some m' =>
    rw [h2] at hx
    rw [h3] at hy
    cases hx
    cases hy
    exact h i m m' h2 h3 _
theorem tick_need {nm : ByteArray} {l : List TierV} {fl : List Int} {X : TiersX} (hg : GoodX nm l fl X c) (n : Int) : needX (tickX X n) ≤ needX X := by
 unfold tickX
 split
 ·refine need_sum rfl (by show (dropL _ X).length = _; unfold dropL; rw [List.length_map, List.length_range, hg.tlen, hg.tiers]) (fun j m m' h1 h2 M => ?_)
  have hj : j < X.tiers.length := by
   have h3 : j < (dropL (X.now + n) X).length := (List.getElem?_eq_some_iff.1 h1).1
   unfold dropL at h3
   simpa using h3
  have h1 : (dropL (X.now + n) X)[j]? = some m := h1
  unfold dropL at h1
  rw [List.getElem?_map, List.getElem?_range hj] at h1
  simp only [Option.map_some, Option.some.injEq] at h1
  subst h1
  have e : X.tabs.getD j [] = m' := by rw [List.getD_eq_getElem?_getD, h2]; rfl
  rw [e]
  exact needV_keep M _ m'
 ·exact Nat.le_refl _
theorem build_tlen' {nm2 : ByteArray} {lt : List TierV} {X : TiersX} {ss : List Int} : (buildX X nm2 lt ss).tabs.length = lt.length := by unfold buildX; simp
theorem tick_built {nm nm2 : ByteArray} {l lt : List TierV} {fl : List Int} {X : TiersX} {o : Int} (p : checkB nm l = true) (hg : GoodX nm l fl X c) (hfl : ∀ f ∈ fl, 0 ≤ f ∧ f ≤ 2199023255552) (p2 : checkB nm2 lt = true) {n : Int} (hE : tickE X n = 0) :
  needX (buildX (tickX X n) nm2 lt (srcs o l fl lt)) ≤ needX (buildX X nm2 lt (srcs o l fl lt)) := by
 refine need_sum rfl (by rw [build_tlen', build_tlen']) (fun j m m' h1 h2 M => ?_)
 have hj : j < lt.length := by
  have := (List.getElem?_eq_some_iff.1 h1).1
  rwa [build_tlen'] at this
 have e1 : (buildX (tickX X n) nm2 lt (srcs o l fl lt)).tabs.getD j [] = m := by rw [List.getD_eq_getElem?_getD, h1]; rfl
 have e2 : (buildX X nm2 lt (srcs o l fl lt)).tabs.getD j [] = m' := by rw [List.getD_eq_getElem?_getD, h2]; rfl
 have := build_tick (o := o) p hg hfl p2 hE hj
 rw [e1, e2] at this
 rw [this]
 exact needV_keep M _ m'
theorem StGood.tick (h : StGood Q c) (hc : c ≤ 1000000) (n : Int) : StGood (stTick Q n) c := by
 unfold stTick
 split
 ·rename_i hE
  obtain ⟨e1, e2, e3⟩ := tickX_parts Q.X n
  have hg := h.good.tick n
  have hnd := tick_need h.good n
  have hneed := h.need
  refine ⟨?_, ?_, ?_, ?_, ?_, h.room, ?_, ?_⟩
  ·show PolOk (tickX Q.X n).name (tickX Q.X n).tiers
   rw [e1, e2]; exact h.pol
  ·show (tickX Q.X n).name.size ≤ _
   rw [e1]; exact h.nm
  ·show GoodX (tickX Q.X n).name (tickX Q.X n).tiers (tickX Q.X n).floors (tickX Q.X n) c
   rw [e1, e2, e3]; exact hg
  ·show ∀ f ∈ (tickX Q.X n).floors, _
   rw [e3]; exact h.fl
  ·show (tickX Q.X n).floors.length ≤ 5
   rw [e3]; exact h.flen
  ·show ((needX (tickX Q.X n) : Nat) : Int) + boundO (Q.ch.map fun S => trimX (S.built (tickX Q.X n)) S) ≤ Q.room
   have : boundO (Q.ch.map fun S => trimX (S.built (tickX Q.X n)) S) = boundO Q.ch := by cases Q.ch <;> rfl
   rw [this]; omega
  ·intro S' hS'
   have hS0 : (Q.ch.map fun S => trimX (S.built (tickX Q.X n)) S) = some S' := hS'
   cases hch : Q.ch with
   | none => rw [hch] at hS0; cases hS0
   | some S =>
    rw [hch] at hS0
    injection hS0 with hS0
    have hk := h.ch S hch
    obtain ⟨o, ho⟩ := hk.ok
    subst hS0
    refine ⟨hk.pol, hk.nm, ⟨o, ?_⟩, hk.done, hk.b0, ?_⟩
    ·have := ho.tick h.pol.ck h.good (h.hfl hc) hk.pol.ck hE
     show ShOk S.name (tickX Q.X n).tiers S.tiers (tickX Q.X n).floors o (tickX Q.X n) (trimX (S.built (tickX Q.X n)) S)
     rw [e2, e3]
     have e5 : S.built (tickX Q.X n) = buildX (tickX Q.X n) S.name S.tiers (srcs o Q.X.tiers Q.X.floors S.tiers) := by
      unfold ShX.built
      rw [ho.src]
     rw [e5]
     exact this
    ·show ((needX (S.built (tickX Q.X n)) : Nat) : Int) ≤ S.bound
     have h1 := tick_built (o := o) h.pol.ck h.good (h.hfl hc) hk.pol.ck hE
     have h2 := hk.fits
     unfold ShX.built at h2 ⊢
     rw [ho.src] at h2 ⊢
     omega
 ·exact h
theorem begin_bound (X : TiersX) {nm2 : ByteArray} {lt : List TierV} (p2 : PolOk nm2 lt) : ((needX ((beginS X nm2 lt).built X) : Nat) : Int) ≤ (beginS X nm2 lt).bound ∧ 0 ≤ (beginS X nm2 lt).bound := by
 have h := (steps_in p2).1
 have e : (beginS X nm2 lt).bound = 2 * ((needX ((beginS X nm2 lt).built X) : Nat) : Int) + fillsV lt := rfl
 omega
theorem begin_ok (X : TiersX) {nm2 : ByteArray} {lt : List TierV} (p2 : PolOk nm2 lt) : ShOk nm2 X.tiers lt X.floors X.now X (beginS X nm2 lt) :=
 ⟨rfl, rfl, rfl, by show (lt.map fun _ => []) = shT lt 0 _; rw [shT_zero], Int.le_refl _, by have := steps_in p2; show (0 : Int) ≤ _; omega⟩
def ReadOk (R : Int × ByteArray × List TierV) : Prop := R.1 = 0 → PolOk R.2.1 R.2.2 ∧ R.2.1.size ≤ maxLen
theorem StGood.change (h : StGood Q c) {R : Int × ByteArray × List TierV} (hR : ReadOk R) : StGood (stChange Q R) c := by
 unfold stChange
 split
 ·rename_i hE
  unfold stChangeE at hE
  cases hch : Q.ch with
  | some S => rw [hch] at hE; cases hE
  | none =>
   rw [hch] at hE
   simp only at hE
   have hR0 : R.1 = 0 := by
    by_cases hr : R.1 = 0
    ·exact hr
    ·rw [if_neg hr] at hE; exact absurd hE hr
   rw [if_pos hR0] at hE
   have hroom : ((needX Q.X : Nat) : Int) + (beginS Q.X R.2.1 R.2.2).bound ≤ Q.room := by
    by_cases hr : ((needX Q.X : Nat) : Int) + (beginS Q.X R.2.1 R.2.2).bound ≤ Q.room
    ·exact hr
    ·rw [if_neg hr] at hE; cases hE
   obtain ⟨p2, hnm2⟩ := hR hR0
   refine ⟨h.pol, h.nm, h.good, h.fl, h.flen, h.room, hroom, ?_⟩
   intro S' hS'
   injection hS' with hS'
   subst hS'
   have hb := begin_bound Q.X p2
   have hst := steps_in p2
   exact ⟨p2, hnm2, ⟨Q.X.now, begin_ok Q.X p2⟩, by show (0 : Int) < stepsV R.2.2; omega, hb.2, hb.1⟩
 ·exact h
theorem from_high {now : Int} {l : List TierV} {fl : List Int} {B : Int} (hl : ∀ t ∈ l, t.keep ≤ 1000000 ∧ t.every ≤ 1000000) (hn : 0 ≤ now) (hnB : now ≤ B) (hfl : ∀ f ∈ fl, f ≤ B) (h0 : ∀ t ∈ l, 0 ≤ t.keep ∧ 1 ≤ t.every) (k : Nat) : fromV now l fl k ≤ B := by
 unfold fromV
 split
 ·rename_i a b ha hb
  have h1 : backV now a.keep b.every ≤ now := by
   have ha1 := hl a (mem_of_get ha)
   have hb1 := hl b (mem_of_get hb)
   have ha2 := h0 a (mem_of_get ha)
   have hb2 := h0 b (mem_of_get hb)
   unfold backV
   rw [if_neg (by omega)]
   have := floor_le (t := now - a.keep) (e := b.every) hb2.2 (by omega) hb1.2
   omega
  simp only
  split
  ·rename_i f hf
   have := hfl f (mem_of_get hf)
   omega
  ·omega
 ·omega
theorem StGood.step (h : StGood Q c) (hc : c ≤ 1000000) : StGood (stStep Q) (c + 8) := by
 unfold stStep
 cases hch : Q.ch with
 | none => exact h.more (by omega)
 | some S =>
  simp only
  have hk := h.ch S hch
  obtain ⟨o, ho⟩ := hk.ok
  have hneed := h.need
  rw [hch] at hneed
  have hneed : ((needX Q.X : Nat) : Int) + S.bound ≤ Q.room := hneed
  have hfits := hk.fits
  have eb : S.built Q.X = buildX Q.X S.name S.tiers (srcs o Q.X.tiers Q.X.floors S.tiers) := by unfold ShX.built; rw [ho.src]
  split
  ·have hg := build_goodX (o := o) h.pol.ck h.good (h.hfl hc) hk.pol.ck
   refine ⟨hk.pol, hk.nm, ?_, ?_, ?_, h.room, ?_, fun _ h => by cases h⟩
   ·show GoodX S.name S.tiers (S.built Q.X).floors (S.built Q.X) (c + 8)
    rw [eb]
    exact hg.more (by omega)
   ·show ∀ f ∈ (S.built Q.X).floors, _
    rw [eb]
    intro f hf
    obtain ⟨k, hkk⟩ := List.getElem?_of_mem (show f ∈ basesV Q.X.now Q.X.tiers Q.X.floors (srcs o Q.X.tiers Q.X.floors S.tiers) S.tiers from hf)
    have hkl : k < S.tiers.length := by
     have := (List.getElem?_eq_some_iff.1 hkk).1
     unfold basesV at this
     rw [List.length_zipWith] at this
     omega
    obtain ⟨i, x, hx, _, _, _, hb⟩ := build_src (o := o) (X := Q.X) h.pol.ck h.good.now (h.hfl hc) hk.pol.ck (List.getElem?_eq_getElem hkl)
    rw [hb] at hkk
    cases hkk
    have hn := h.good.now
    have hbd := from_bd h.pol.ck hn.1 hn.2 (h.hfl hc) i
    have hy1 := check_mem hk.pol.ck (mem_of_get (List.getElem?_eq_getElem hkl))
    have hcl := ceil_law (t := fromV Q.X.now Q.X.tiers Q.X.floors i) (e := S.tiers[k].every) hbd.1 (by omega) hy1.1 hy1.2.1
    have hhi := from_high (l := Q.X.tiers) (fl := Q.X.floors) (B := 1099511627776 + 1000000 * (c : Int)) (fun t ht => by have := check_mem h.pol.ck ht; omega) hn.1 (by omega) (fun f hf => (h.fl f hf).2) (fun t ht => by have := check_mem h.pol.ck ht; omega) i
    omega
   ·show (S.built Q.X).floors.length ≤ 5
    rw [eb]
    show (basesV Q.X.now Q.X.tiers Q.X.floors (srcs o Q.X.tiers Q.X.floors S.tiers) S.tiers).length ≤ 5
    unfold basesV
    rw [List.length_zipWith]
    have := hk.pol.five
    omega
   ·show ((needX (S.built Q.X) : Nat) : Int) + 0 ≤ Q.room
    omega
  ·rename_i hd
   have hdd := hk.done
   refine ⟨h.pol, h.nm, h.good.more (by omega), fun f hf => by have := h.fl f hf; omega, h.flen, h.room, hneed, ?_⟩
   intro S' hS'
   injection hS' with hS'
   subst hS'
   refine ⟨hk.pol, hk.nm, ⟨o, ?_⟩, by show S.done + 1 < stepsV S.tiers; omega, hk.b0, hfits⟩
   rw [eb]
   exact ho.next hk.done
theorem StGood.abort (h : StGood Q c) : StGood (stAbort Q) c := by
 refine ⟨h.pol, h.nm, h.good, h.fl, h.flen, h.room, ?_, fun _ h => by cases h⟩
 show ((needX Q.X : Nat) : Int) + 0 ≤ Q.room
 have hn := h.need
 cases hch : Q.ch with
 | none => rw [hch] at hn; exact hn
 | some S =>
  rw [hch] at hn
  have := (h.ch S hch).b0
  have hn : ((needX Q.X : Nat) : Int) + S.bound ≤ Q.room := hn
  omega
theorem newX_need (nm : ByteArray) (l : List TierV) (now : Int) (fl : List Int) : needX (newX nm l now fl) = 0 := by
 have hz : ∀ L : List TierV, (List.zipWith (fun (x : TierV) (m : List RecV) => needV (max x.shards 1) m) L (L.map fun _ => [])).sum = 0 := by
  intro L
  induction L with
  | nil => rfl
  | cons a L ih =>
   rw [List.map_cons, List.zipWith_cons_cons, List.sum_cons, ih]
   have hz : ∀ R : List Nat, (R.map fun k => (cntS (max a.shards 1) [] k + 2) / 3).sum = 0 := by
    intro R
    induction R with
    | nil => rfl
    | cons x R ihR => rw [List.map_cons, List.sum_cons, ihR, show cntS (max a.shards 1) [] x = 0 from rfl]
   unfold needV
   rw [hz]
 unfold needX needsX newX
 exact hz l
theorem newE_ok {nm : ByteArray} {l : List TierV} (p : PolOk nm l) : newE nm l 0 [] = 0 := by
 unfold newE
 rw [if_pos p.ck, if_neg (by simp), if_pos]
 unfold floorsB
 rw [List.all_eq_true]
 intro k _
 unfold floorOk
 simp
theorem StGood.new {nm : ByteArray} {l : List TierV} (p : PolOk nm l) (hnm : nm.size ≤ maxLen) {room : Int} (h0 : 0 ≤ room) (h1 : room ≤ 4096) : StGood ⟨room, newX nm l 0 [], none⟩ 0 := by
 refine ⟨p, hnm, GoodX.new (newE_ok p), (fun _ h => by cases h), Nat.zero_le _, ⟨h0, h1⟩, ?_, (fun _ h => by cases h)⟩
 show ((needX (newX nm l 0 []) : Nat) : Int) + 0 ≤ room
 rw [newX_need]
 omega
end
end Go.Proofs.YtaakghjbbkgbdaaGreatDoor
namespace Go.Proofs.YtaakghjbbkgbdaaGreatDoor
set_option linter.all false
open Go.RowKit

def ChOn (W : World) (lo : Nat) : Option ShX → Value → (Nat → Prop) → Prop
 | none, v, F => v = .pointer none ∧ F = fun _ => False
 | some S, v, F => ∃ s base, lo ≤ base ∧ v = .pointer (some ⟨s, 0, none⟩) ∧ ShOn W s base S F
structure StIn (W : World) (g lo : Nat) (Q : StX) (c t : Nat) (Ft Fs : Nat → Prop) (v : Value) : Prop where
 blk : Blk W g 112 #[.int .i64 Q.room, .pointer (some ⟨t, 0, none⟩), v]
 glo : lo ≤ g
 tio : Tio Q.X.name Q.X.tiers Q.X.floors lo W t Q.X Ft c
 ch : ChOn W lo Q.ch v Fs
 apart : ∀ j, Ft j → ¬ Fs j
def stF (g : Nat) (Ft Fs : Nat → Prop) : Nat → Prop := fun j => j = g ∨ Ft j ∨ Fs j
def StOn (W : World) (g lo : Nat) (Q : StX) (c : Nat) (F : Nat → Prop) : Prop := ∃ t Ft Fs v, StIn W g lo Q c t Ft Fs v ∧ F = stF g Ft Fs
def Kind2 (W : World) (G : Nat → Prop) : Prop := ∀ j, G j → (∃ es ck, W.heap[j]? = some (.map es ck)) ∨ (∃ cs fz ty, W.heap[j]? = some (.cells cs ty fz) ∧ ty ≠ 157 ∧ ty ≠ 3 ∧ ty ≠ 209 ∧ ty ≠ 305)
section
variable {W W' : World} {g lo : Nat} {Q : StX} {c t : Nat} {Ft Fs F G : Nat → Prop} {v : Value}
theorem ChOn.fr {o : Option ShX} (h : ChOn W lo o v Fs) (hf : Fr G W W') (hG : Kind2 W G) (hd : ∀ j, Fs j → ¬ G j) : ChOn W' lo o v Fs := by
 cases o with
 | none => exact h
 | some S =>
  obtain ⟨s, base, hb, hv, hs⟩ := h
  exact ⟨s, base, hb, hv, hs.fr hf hG hd⟩
theorem ChOn.kind2 {o : Option ShX} (h : ChOn W lo o v Fs) : Kind2 W Fs := by
 cases o with
 | none => obtain ⟨_, rfl⟩ := h; exact fun _ h => h.elim
 | some S =>
  obtain ⟨s, base, hb, hv, hs⟩ := h
  exact hs.kind2
theorem ChOn.ge {o : Option ShX} (h : ChOn W lo o v Fs) : ∀ j, Fs j → lo ≤ j ∧ j < W.heap.size := by
 cases o with
 | none => obtain ⟨_, rfl⟩ := h; exact fun _ h => h.elim
 | some S =>
  obtain ⟨s, base, hb, hv, hs⟩ := h
  intro j hj
  have := hs.ge j hj
  omega
theorem ChOn.blk_ne {o : Option ShX} (h : ChOn W lo o v Fs) {cs : Array Value} (hb : Blk W g 112 cs) : ¬ Fs g := by
 cases o with
 | none => obtain ⟨_, rfl⟩ := h; exact fun h => h
 | some S =>
  obtain ⟨s, base, _, _, hs⟩ := h
  intro hj
  have hb0 : W.heap[g]? = some (Obj.cells cs 112 (0, 0)) := hb
  rcases hs.kind g hj with ⟨es, ck, e⟩ | ⟨cs', fz, e⟩
  ·rw [hb0] at e; cases e
  ·rw [hb0] at e
   injection e with e
   injection e with _ e _
   exact absurd e (by decide)
theorem Tio.kind2 {nm : ByteArray} {l : List TierV} {fl : List Int} {X : TiersX} (h : Tio nm l fl lo W t X Ft c) : Kind2 W Ft := by
 obtain ⟨b, hb, ho⟩ := h.on
 exact ho.kind2
theorem Tio.blk_ne {nm : ByteArray} {l : List TierV} {fl : List Int} {X : TiersX} (h : Tio nm l fl lo W t X Ft c) {cs : Array Value} (hb : Blk W g 112 cs) : ¬ Ft g := by
 obtain ⟨b, _, ho⟩ := h.on
 intro hj
 have hb0 : W.heap[g]? = some (Obj.cells cs 112 (0, 0)) := hb
 rcases ho.kind g hj with ⟨es, ck, e⟩ | ⟨cs', fz, e⟩
 ·rw [hb0] at e; cases e
 ·rw [hb0] at e
  injection e with e
  injection e with _ e _
  exact absurd e (by decide)
theorem Tio.frK2 {nm : ByteArray} {l : List TierV} {fl : List Int} {X : TiersX} (h : Tio nm l fl lo W t X Ft c) (hf : Fr G W W') (hG : Kind2 W G) (hd : ∀ j, Ft j → ¬ G j) : Tio nm l fl lo W' t X Ft c := by
 obtain ⟨b, hb, ho⟩ := h.on
 exact ⟨⟨b, hb, ho.frSh hf hG hd⟩, h.good⟩
theorem StIn.fr (h : StIn W g lo Q c t Ft Fs v) (hf : Fr G W W') (hG : Kind2 W G) (hd : ∀ j, stF g Ft Fs j → ¬ G j) : StIn W' g lo Q c t Ft Fs v :=
 ⟨h.blk.fr hf (hd g (.inl rfl)), h.glo, h.tio.frK2 hf hG (fun j hj => hd j (.inr (.inl hj))), h.ch.fr hf hG (fun j hj => hd j (.inr (.inr hj))), h.apart⟩
theorem kind2_none : Kind2 W (fun _ => False) := fun _ h => h.elim
theorem StIn.fr0 (h : StIn W g lo Q c t Ft Fs v) (hf : Fr (fun _ => False) W W') : StIn W' g lo Q c t Ft Fs v := h.fr hf kind2_none (fun _ _ h => h)
theorem StIn.kind2 (h : StIn W g lo Q c t Ft Fs v) : Kind2 W (stF g Ft Fs) := by
 rintro j (rfl | hj | hj)
 ·exact .inr ⟨_, _, _, h.blk, by decide, by decide, by decide, by decide⟩
 ·exact h.tio.kind2 j hj
 ·exact h.ch.kind2 j hj
theorem StIn.ge (h : StIn W g lo Q c t Ft Fs v) : ∀ j, stF g Ft Fs j → lo ≤ j ∧ j < W.heap.size := by
 rintro j (rfl | hj | hj)
 ·exact ⟨h.glo, h.blk.lt⟩
 ·exact h.tio.ge j hj
 ·exact h.ch.ge j hj
theorem StIn.more (h : StIn W g lo Q c t Ft Fs v) {d : Nat} (hd : c ≤ d) : StIn W g lo Q d t Ft Fs v := ⟨h.blk, h.glo, h.tio.more hd, h.ch, h.apart⟩
theorem StOn.fr (h : StOn W g lo Q c F) (hf : Fr G W W') (hG : Kind2 W G) (hd : ∀ j, F j → ¬ G j) : StOn W' g lo Q c F := by
 obtain ⟨t, Ft, Fs, v, hi, rfl⟩ := h
 exact ⟨t, Ft, Fs, v, hi.fr hf hG hd, rfl⟩
theorem StOn.fr0 (h : StOn W g lo Q c F) (hf : Fr (fun _ => False) W W') : StOn W' g lo Q c F := h.fr hf kind2_none (fun _ _ h => h)
theorem StOn.kind2 (h : StOn W g lo Q c F) : Kind2 W F := by
 obtain ⟨t, Ft, Fs, v, hi, rfl⟩ := h
 exact hi.kind2
theorem StOn.ge (h : StOn W g lo Q c F) : ∀ j, F j → lo ≤ j ∧ j < W.heap.size := by
 obtain ⟨t, Ft, Fs, v, hi, rfl⟩ := h
 exact hi.ge
theorem StOn.more (h : StOn W g lo Q c F) {d : Nat} (hd : c ≤ d) : StOn W g lo Q d F := by
 obtain ⟨t, Ft, Fs, v, hi, rfl⟩ := h
 exact ⟨t, Ft, Fs, v, hi.more hd, rfl⟩
theorem StOn.apart {g2 lo2 c2 : Nat} {Q2 : StX} {F2 : Nat → Prop} (h : StOn W g lo Q c F) (h2 : StOn W g2 lo2 Q2 c2 F2) (hf : Fr F2 W W') (hd : ∀ j, F j → ¬ F2 j) : StOn W' g lo Q c F := h.fr hf h2.kind2 hd
def Onto (W : World) (F F' : Nat → Prop) : Prop := ∀ j, F' j → F j ∨ W.heap.size ≤ j
end
end Go.Proofs.YtaakghjbbkgbdaaGreatDoor
