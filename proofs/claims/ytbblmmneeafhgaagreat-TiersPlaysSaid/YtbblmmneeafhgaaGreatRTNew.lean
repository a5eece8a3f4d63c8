/- The document's tiers while they are made: k tables stand. -/
import Derived.Test.YtbblmmneeafhgaaGreatRTAdd
import Derived.Test.YtbblmmneeafhgaaGreatTiersCopy
import Derived.Test.YtbblmmneeafhgaaGreatRefPol
import Derived.Test.YtbblmmneeafhgaaGreatTk
namespace Go.Proofs.YtbblmmneeafhgaaGreat
set_option linter.all false
open Go.RowKit

theorem info_prtab : (Tryz.prog.info? 114).map (fun i => (i.zero, i.size, i.bytes)) = some (some (.pointer none), 1, 8) := by kernel_rfl
structure RTiersP (W : World) (g lo : Nat) (X : TiersX) (A : Option Addr) (c : Nat) (B : Option Addr) (d : Nat) (T : Option Addr) (ct : Nat) (P : List Nat) (k : Nat) : Prop where
 blk : Blk W g 113 #[.int .i64 X.now, .string X.name, .slice A X.tiers.length c, .slice B X.floors.length d, .slice T k ct]
 row : W.ownsRow lo 114 1 (.slice T k ct) k (rptrs P)
 tab : ∀ (i p : Nat) (x : TierV), P[i]? = some p → X.tiers[i]? = some x → RTabF W p lo (fun _ => False) x.every []
 inj : P.Nodup
 lt : ∀ p ∈ P, lo ≤ p ∧ p < W.heap.size
 ge : lo ≤ g
section
variable {W W' w5 w6 : World} {g lo : Nat} {X : TiersX} {A B T T6 : Option Addr} {c d ct c6 k : Nat} {P : List Nat}
theorem RTiersP.len (h : RTiersP W g lo X A c B d T ct P k) : P.length = k := by
 have := h.row.1
 unfold rptrs at this
 rw [List.length_map] at this
 omega
theorem RTiersP.fr0 (h : RTiersP W g lo X A c B d T ct P k) (f : Fr (fun _ => False) W W') : RTiersP W' g lo X A c B d T ct P k :=
 ⟨h.blk.fr f (fun h => h), own_fr0 h.row f, fun i p x h1 h2 => (h.tab i p x h1 h2).fr f (fun h => h) (fun _ h => h.elim), h.inj, fun p hp => ⟨(h.lt p hp).1, Nat.lt_of_lt_of_le (h.lt p hp).2 f.size⟩, h.ge⟩
theorem RTiersP.snoc (h : RTiersP W g lo X A c B d T ct P k) {q : Nat} {x : TierV} (hx : X.tiers[k]? = some x) (f5 : Fr (fun _ => False) W w5) (hq : W.heap.size ≤ q) (bq : Blk w5 q 116 #[.int .i64 x.every, .slice none 0 0])
  (ho : w6.ownsRow lo 114 1 (.slice T6 (k + 1) c6) (k + 1) (rptrs P ++ [.pointer (some ⟨q, 0, none⟩)])) (hm : Mv (rowF (.slice T k ct)) (rowF (.slice T6 (k + 1) c6)) w5 w6) (hlo : lo ≤ W.heap.size) :
  RTiersP (w6.setCell ⟨g, 4, none⟩ (.slice T6 (k + 1) c6)) g lo X A c B d T6 c6 (P ++ [q]) (k + 1) := by
 have h5 := h.fr0 f5
 have hgb : Blk w6 g 113 _ := h5.blk.fr hm.fr (own_blk_ne h5.row h5.blk (by decide))
 have fs : Fr (fun j => j = g) w6 (w6.setCell ⟨g, 4, none⟩ (.slice T6 (k + 1) c6)) := (Fr.refl (fun j => j = g) w6).setCell (p := ⟨g, 4, none⟩) (.inl rfl) _
 have sz : w5.heap.size ≤ (w6.setCell ⟨g, 4, none⟩ (.slice T6 (k + 1) c6)).heap.size := Nat.le_trans hm.fr.size fs.size
 have tabs : ∀ (p : Nat) (e : Int), RTabF w5 p lo (fun _ => False) e [] → RTabF (w6.setCell ⟨g, 4, none⟩ (.slice T6 (k + 1) c6)) p lo (fun _ => False) e [] := fun p e ht => by
  obtain ⟨⟨A1, c1, b1, h4, h5'⟩, h6, h7, h8⟩ := ht
  have b6 := b1.fr hm.fr (own_blk_ne h5.row b1 (by decide))
  exact ⟨⟨A1, c1, b6.fr fs (b6.ne_ hgb (by decide)), own_fr (own_fr h4 hm.fr (fun j hj _ => h5' j hj)) fs (fun j hj _ => h5' j hj), h5'⟩, h6, h7, h8⟩
 refine ⟨by simpa using hgb.set_ 4 (.slice T6 (k + 1) c6), ?_, fun i p y h1 h2 => ?_, ?_, fun p hp => ?_, h.ge⟩
 ·have e : rptrs (P ++ [q]) = rptrs P ++ [.pointer (some ⟨q, 0, none⟩)] := by unfold rptrs; rw [List.map_append]; rfl
  rw [e]
  exact own_fr ho fs (fun j hj e => own_blk_ne ho hgb (by decide) (by rw [← e]; exact hj))
 ·by_cases hi : i < P.length
  ·rw [List.getElem?_append_left hi] at h1
   exact tabs p _ (h5.tab i p y h1 h2)
  ·have hi2 : i = P.length := by
    have := (List.getElem?_eq_some_iff.1 h1).1
    rw [List.length_append, List.length_singleton] at this
    omega
   subst hi2
   rw [List.getElem?_append_right (Nat.le_refl _), Nat.sub_self] at h1
   obtain rfl : q = p := by simpa using h1
   rw [h.len, hx] at h2
   obtain rfl : x = y := Option.some.inj h2
   exact tabs q _ ⟨⟨none, 0, bq, World.ownsRow_nil _ _ _ _, fun j hj => by cases hj⟩, fun _ h => (by cases h), Sorted.nil, Nat.le_trans hlo hq⟩
 ·rw [List.nodup_append]
  refine ⟨h.inj, by simp, fun a ha b hb e => ?_⟩
  have hb2 : b = q := by simpa using hb
  have := (h.lt a ha).2
  omega
 ·have hqs := bq.lt
  rcases List.mem_append.1 hp with hp | hp
  ·have := h5.lt p hp; omega
  ·have hp2 : p = q := by simpa using hp
   subst hp2
   omega
theorem RTiersP.down (h : RTiersP W g lo X A c B d T ct P k) {lo' : Nat} (hl : lo' ≤ lo) : RTiersP W g lo' X A c B d T ct P k :=
 ⟨h.blk, own_le h.row hl, fun i p x h1 h2 => by
  obtain ⟨⟨A1, c1, b1, h4, h5⟩, h6, h7, h8⟩ := h.tab i p x h1 h2
  exact ⟨⟨A1, c1, b1, own_le h4 hl, h5⟩, h6, h7, Nat.le_trans hl h8⟩, h.inj, fun p hp => ⟨Nat.le_trans hl (h.lt p hp).1, (h.lt p hp).2⟩, Nat.le_trans hl h.ge⟩
theorem RTiersP.done (h : RTiersP W g lo X A c B d T ct P X.tiers.length) (ht : X.tabs = X.tiers.map fun _ => []) (hrt : ∀ W', Fr (fun j => lo ≤ j) W W' → Rd W' 4 A X.tiers.length (tcells X.tiers)) (hrf : ∀ W', Fr (fun j => lo ≤ j) W W' → Rd W' 1 B X.floors.length (ints X.floors)) :
  RTiersOn W g lo (fun j => j = g ∨ j ∈ P ∨ rowF (.slice T X.tiers.length ct) j) X A c B d T ct P :=
 ⟨h.blk, h.row, by rw [ht, List.length_map], fun i p x l h1 h2 h3 => by
  rw [ht, List.getElem?_map, h2] at h3
  obtain rfl : [] = l := by simpa using h3
  exact (h.tab i p x h1 h2).mono (fun _ h => h.elim), h.inj, .inl rfl, fun p hp => .inr (.inl hp), fun j hj => .inr (.inr hj), fun j hj => by
  rcases hj with rfl | hj | hj
  ·exact ⟨h.ge, h.blk.lt⟩
  ·exact h.lt j hj
  ·exact h.row.lt j hj, hrt, hrf⟩
end
end Go.Proofs.YtbblmmneeafhgaaGreat
namespace Go.Proofs.YtbblmmneeafhgaaGreat
set_option linter.all false
open Go.RowKit

def RtNew (nm : ByteArray) (l : List TierV) (now : Int) (fl : List Int) (A : Option Addr) (c : Nat) (B : Option Addr) (d lo : Nat) (w : World) (E : Int) (r : Ending) (w' : World) : Prop :=
 (E = 0 → ∃ g F T ct P, r = .returned (.tuple #[.pointer (some ⟨g, 0, none⟩), .int .i64 0]) ∧ RTiersOn w' g lo F (newX nm l now fl) A c B d T ct P ∧ ∀ j, F j → w.heap.size ≤ j) ∧ (E ≠ 0 → r = .returned (.tuple #[.pointer none, .int .i64 E]))
set_option maxRecDepth 100000 in
set_option maxHeartbeats 6000000 in
theorem rtnew_any (nm : ByteArray) (hnm : nm.size ≤ maxLen) (l : List TierV) (A : Option Addr) (n c : Nat) (now : Int) (fl : List Int) (B : Option Addr) (m d lo : Nat) (w : World) (hlo : lo ≤ w.heap.size) (hr : Rd w 4 A n (tcells l)) (hwf : ∀ t ∈ l, t.wf) (hn : n ≤ 1099511627776) (hf : Rd w 1 B m (ints fl)) (hm : m ≤ 1099511627776) (hA : ∀ j, adF A n j → j < lo) (hB : ∀ j, adF B m j → j < lo) :
  Calls Tryz.prog 10 #[polV nm A n c, .int .i64 now, .slice B m d] w fun r w' => RtNew nm l now fl A c B d lo w (newE nm l now fl) r w' ∧ Below w.heap.size w w' := by
 have HCk : Hid (∀ w', Fr (fun _ => False) w w' → Calls Tryz.prog 46 #[polV nm A n c] w' fun r w'' => (∃ k : Int, r = .returned (.tuple #[.int .i64 (errOf (checkB nm l)), .int .i64 k])) ∧ Below w'.heap.size w' w'') :=
  fun w' h => rcheck_any nm hnm l A n c w' (hr.fr0 h) hn (fun t ht => (hwf t ht).2.2.2)
 have Hr := Lib.hid hr
 have Hf0 := Lib.hid hf
 have Hln := Lib.hid hr.tiers_len
 have Hlm := Lib.hid (Rd.len_map hf)
 have HlA := Lib.hid hA
 have HlB := Lib.hid hB
 have hnm0 : ((l.length < fl.length) ↔ ((n : Int) < (m : Int))) := by rw [Hln.out, Hlm.out]; omega
 obtain ⟨E, hE⟩ : ∃ E, newE nm l now fl = E := ⟨_, rfl⟩
 rw [hE]
 unfold newE at hE
 simp only [hnm0] at hE
 clear hr hf hwf hnm0 hA hB
 unfold polV at HCk ⊢
 cases hck : checkB nm l
 ·rw [hck, show errOf false = 23 from rfl] at HCk
  rw [hck, if_neg (by simp)] at hE
  subst hE
  go_enter Tryz.func10, Tryz.ntmps10
  go_wp2_with fail
  refine (HCk.out _ (Fr.none_alloc _ _)).mono ?_
  rintro r w1 ⟨⟨kk, rfl⟩, b1⟩
  have BP := Lib.hid ((Blk.new w 24 #[.string nm, .slice A n c]).below b1)
  have F1 : Hid (Fr (fun _ => False) w w1) := (Fr.none_alloc w _).trans (Fr.b0 b1) (fun _ h => h.elim)
  have d0 := BP.out.cell 0
  have d1 := BP.out.cell 1
  simp only [List.getElem?_toArray, List.getElem?_cons_succ, List.getElem?_cons_zero] at d0 d1
  clear b1
  go_wp2_with fail
  go_ret2
  exact ⟨⟨fun h => absurd h (by decide), fun _ => rfl⟩, F1.out.below (fun _ h => h.elim)⟩
 rw [hck, show errOf true = 0 from rfl] at HCk
 rw [hck, if_pos rfl] at hE
 clear hck
 by_cases h1 : now < 0
 ·have hd1 : decide (now < 0) = true := decide_eq_true h1
  rw [if_pos (.inl h1)] at hE
  subst hE
  go_enter Tryz.func10, Tryz.ntmps10
  go_wp2_with fail
  refine (HCk.out _ (Fr.none_alloc _ _)).mono ?_
  rintro r w1 ⟨⟨kk, rfl⟩, b1⟩
  have BP := Lib.hid ((Blk.new w 24 #[.string nm, .slice A n c]).below b1)
  have F1 : Hid (Fr (fun _ => False) w w1) := (Fr.none_alloc w _).trans (Fr.b0 b1) (fun _ h => h.elim)
  have d0 := BP.out.cell 0
  have d1 := BP.out.cell 1
  simp only [List.getElem?_toArray, List.getElem?_cons_succ, List.getElem?_cons_zero] at d0 d1
  clear b1
  go_wp2_with fail
  go_ret2
  exact ⟨⟨fun h => absurd h (by decide), fun _ => rfl⟩, F1.out.below (fun _ h => h.elim)⟩
 have hd1 : decide (now < 0) = false := decide_eq_false h1
 by_cases h2 : 1099511627776 < now
 ·have hd2 : decide (1099511627776 < now) = true := decide_eq_true h2
  rw [if_pos (.inr (.inl h2))] at hE
  subst hE
  go_enter Tryz.func10, Tryz.ntmps10
  go_wp2_with fail
  refine (HCk.out _ (Fr.none_alloc _ _)).mono ?_
  rintro r w1 ⟨⟨kk, rfl⟩, b1⟩
  have BP := Lib.hid ((Blk.new w 24 #[.string nm, .slice A n c]).below b1)
  have F1 : Hid (Fr (fun _ => False) w w1) := (Fr.none_alloc w _).trans (Fr.b0 b1) (fun _ h => h.elim)
  have d0 := BP.out.cell 0
  have d1 := BP.out.cell 1
  simp only [List.getElem?_toArray, List.getElem?_cons_succ, List.getElem?_cons_zero] at d0 d1
  clear b1
  go_wp2_with fail
  go_ret2
  exact ⟨⟨fun h => absurd h (by decide), fun _ => rfl⟩, F1.out.below (fun _ h => h.elim)⟩
 have hd2 : decide (1099511627776 < now) = false := decide_eq_false h2
 by_cases h3 : (n : Int) < (m : Int)
 ·have hd3 : decide ((n : Int) < (m : Int)) = true := decide_eq_true h3
  have hd4 : decide (n < m) = true := decide_eq_true (by omega)
  rw [if_pos (.inr (.inr h3))] at hE
  subst hE
  go_enter Tryz.func10, Tryz.ntmps10
  go_wp2_with fail
  refine (HCk.out _ (Fr.none_alloc _ _)).mono ?_
  rintro r w1 ⟨⟨kk, rfl⟩, b1⟩
  have BP := Lib.hid ((Blk.new w 24 #[.string nm, .slice A n c]).below b1)
  have F1 : Hid (Fr (fun _ => False) w w1) := (Fr.none_alloc w _).trans (Fr.b0 b1) (fun _ h => h.elim)
  have d0 := BP.out.cell 0
  have d1 := BP.out.cell 1
  simp only [List.getElem?_toArray, List.getElem?_cons_succ, List.getElem?_cons_zero] at d0 d1
  clear b1
  go_wp2_with fail
  go_ret2
  exact ⟨⟨fun h => absurd h (by decide), fun _ => rfl⟩, F1.out.below (fun _ h => h.elim)⟩
 have hd3 : decide ((n : Int) < (m : Int)) = false := decide_eq_false h3
 have hd4 : decide (n < m) = false := decide_eq_false (by omega)
 rw [if_neg (by omega)] at hE
 have HE := Lib.hid hE
 clear hE
 obtain ⟨i0, hi, hz0, hz1, hz2⟩ := info_parts info_prtab
 go_enter Tryz.func10, Tryz.ntmps10
 go_wp2_with fail
 refine (HCk.out _ (Fr.none_alloc _ _)).mono ?_
 rintro r w1 ⟨⟨kk, rfl⟩, b1⟩
 have BP := Lib.hid ((Blk.new w 24 #[.string nm, .slice A n c]).below b1)
 have F1 : Hid (Fr (fun _ => False) w w1) := (Fr.none_alloc w _).trans (Fr.b0 b1) (fun _ h => h.elim)
 have d0 := BP.out.cell 0
 have d1 := BP.out.cell 1
 simp only [List.getElem?_toArray, List.getElem?_cons_succ, List.getElem?_cons_zero] at d0 d1
 clear b1
 go_wp2_with fail
 obtain ⟨s, hs⟩ : ∃ s, w1.heap.size = s := ⟨_, rfl⟩
 have hsw : w.heap.size < s := by rw [← hs]; exact BP.out.lt
 obtain ⟨W3, hW3⟩ : ∃ W3, W3 = w1.alloc (.cells #[.int .i64 now, .string nm, .slice A n c, .slice B m d, .slice none 0 0] 113) := ⟨_, rfl⟩
 rw [← hW3]
 try rw [hs]
 have F3 : Hid (Fr (fun _ => False) w W3) := by show Fr _ _ _; rw [hW3]; exact F1.out.trans (Fr.none_alloc _ _) (fun _ h => h.elim)
 have BP3 : Hid (Blk W3 w.heap.size 24 #[.string nm, .slice A n c]) := by show Blk _ _ _ _; rw [hW3]; exact BP.out.alloc _
 have hP0 : RTiersP W3 s s (newX nm l now fl) A c B d none 0 [] 0 := by
  have hb : Blk W3 s 113 #[.int .i64 now, .string nm, .slice A n c, .slice B m d, .slice none 0 0] := by rw [hW3]; exact Blk.new' hs.symm _ _
  refine ⟨?_, World.ownsRow_nil _ _ _ _, fun i p x h => by simp at h, by simp, fun p hp => by simp at hp, Nat.le_refl _⟩
  show Blk _ _ _ #[.int .i64 now, .string nm, .slice A l.length c, .slice B fl.length d, _]
  rw [Hln.out, Hlm.out]; exact hb
 have HP0 := Lib.hid hP0
 have hs3 : s < W3.heap.size := by rw [hW3]; simp; omega
 clear hP0 BP F1 hW3 d0 d1
 go_loopw [11] (fun i wr => ∃ (k : Nat) (T : Option Addr) (ct : Nat) (P : List Nat), k ≤ n ∧ i = .int .i64 k ∧ RTiersP wr s s (newX nm l now fl) A c B d T ct P k ∧ Fr (fun j => s ≤ j) W3 wr ∧ ∀ j, j < k → floorOk l fl j = true) (fun i _ => n - (intOf i).toNat)
 case atStart => exact ⟨0, none, 0, [], Nat.zero_le _, rfl, HP0.out, Fr.refl _ _, fun j hj => absurd hj (Nat.not_lt_zero _)⟩
 case round =>
  obtain ⟨k, T, ct, P, hk, rfl, hp, hfr, hall⟩ := hrel
  have HP := Lib.hid hp
  have HF := Lib.hid hfr
  have Hall := Lib.hid hall
  have bp := BP3.out.fr hfr (by omega)
  have d0 := bp.cell 0
  have d1 := bp.cell 1
  simp only [List.getElem?_toArray, List.getElem?_cons_succ, List.getElem?_cons_zero] at d0 d1
  clear hp hfr hall
  by_cases hlt : k < n
  ·obtain ⟨ad, x, rfl, hxu, e0, e1, e2, e3⟩ := ((Hr.out.fr0 F3.out).fr HF.out (fun j hj => by have := Hr.out.adlt (by decide) j hj; omega)).tier hlt
   have hsr : s ≤ wr.heap.size := by have := HP.out.blk.lt; omega
   have hadl : (ad.add (k * 4)).block < s := by rw [block_of_add]; have := Hr.out.adlt (by decide) ad.block ⟨by omega, ad, rfl, rfl⟩; omega
   have HC : Hid (∀ W, Fr (fun j => s ≤ j) wr W → W.cell? ⟨w.heap.size, 1, none⟩ = some (.slice (some ad) n c) ∧ W.cell? ⟨(ad.add (k * 4)).block, (ad.add (k * 4)).off + 1, none⟩ = some (.int .i64 x.every)) := fun W f => ⟨f.cell d1 (by simp only; omega), f.cell e1 (by simp only; omega)⟩
   have Hx := Lib.hid hxu
   have HEb : Hid (floorOk l fl k = false → k < m → E = 1) := fun h hm => by
    rw [← HE.out, if_neg]
    intro hall
    have := List.all_eq_true.1 hall k (List.mem_range.2 (by rw [Hlm.out]; exact hm))
    rw [h] at this
    cases this
   have g0 : decide ((k : Int) < (n : Int)) = true := decide_eq_true (by omega)
   have kn : 0 ≤ (k : Int) ∧ (k : Int) < (n : Int) := by omega
   have kn2 : k < n := hlt
   have hqw : IntKind.i64.wrap ((k : Int) + 1) = (k : Int) + 1 := by simp [IntKind.wrap, IntKind.signed, IntKind.bits]; omega
   have HOn : Hid (∀ f W, Calls Tryz.prog 47 #[.int .i64 f, .int .i64 x.every] W fun r w' => r = .returned (.bool (onB f x.every)) ∧ W = w') := fun f W => refon_any f x.every W
   have HGo : Hid (floorOk l fl k = true → ∀ j, j < k + 1 → floorOk l fl j = true) := fun h j hj => by
    by_cases e : j = k
    ·subst e; exact h
    ·exact Hall.out j (by omega)
   clear d0 e0 e1 e2 e3 hxu hlt
   by_cases hkm : k < m
   ·obtain ⟨bd, f, rfl, hfu, hfc⟩ := ((Hf0.out.fr0 F3.out).fr HF.out (fun j hj => by have := Hf0.out.adlt (by decide) j hj; omega)).at_map hkm
    have hbl : (bd.add k).block < s := by rw [block_of_add]; have := Hf0.out.adlt (by decide) bd.block ⟨by omega, bd, rfl, rfl⟩; omega
    have HC3 : Hid (∀ W, Fr (fun j => s ≤ j) wr W → W.cell? ⟨w.heap.size, 1, none⟩ = some (.slice (some ad) n c) ∧ W.cell? ⟨(ad.add (k * 4)).block, (ad.add (k * 4)).off + 1, none⟩ = some (.int .i64 x.every) ∧ W.cell? (bd.add k) = some (.int .i64 f)) := fun W h => ⟨(HC.out W h).1, (HC.out W h).2, h.cell hfc (by omega)⟩
    have Hok : Hid (floorOk l fl k = (decide (0 ≤ f) && onB f x.every)) := by show _ = _; unfold floorOk; rw [hfu, Hx.out]
    have g1 : decide ((k : Int) < (m : Int)) = true := decide_eq_true (by omega)
    have kn3 : 0 ≤ (k : Int) ∧ (k : Int) < (m : Int) := by omega
    clear hfu hfc
    by_cases h0 : f < 0
    ·have hd5 : decide (f < 0) = true := decide_eq_true h0
     have hE1 : Hid (E = 1) := HEb.out (by rw [Hok.out, decide_eq_false (by omega)]; rfl) hkm
     go_wp2_with fail
     refine wp_region_held_drew (S := fun W => Fr (fun j => s ≤ j) wr W) (by kernel_rfl) ((Fr.refl _ wr).drew) (fun hHeld => ?_)
     refine tl 0 ?v1 rfl ?q1 ?r1
     case q1 => intro W hSw; go_simp; try rfl
     refine tl 1 ?v2 rfl ?q2 ?r2
     case q2 => intro W hSw; go_simp; try rfl
     refine tl 2 ?v3 rfl ?q3 ?r3
     case q3 => intro W hSw; (try obtain ⟨q0, q1, q2⟩ := HC3.out W hSw); go_simp; try rfl
     refine tl 3 ?v4 rfl ?q4 ?r4
     case q4 => intro W hSw; (try obtain ⟨q0, q1, q2⟩ := HC3.out W hSw); go_simp; try rfl
     refine tl 4 ?v5 rfl ?q5 ?r5
     case q5 => intro W hSw; go_simp; try rfl
     try simp only [Act.put, sA, sB, sC]
     refine tl 5 ?v6 rfl ?q6 ?r6
     case q6 => intro W hSw; go_simp; try rfl
     try simp only [Act.put, sA, sB, sC]
     refine tl 6 ?v7 rfl ?q7 ?r7
     case q7 => intro W hSw; go_simp; try rfl
     try simp only [Act.put, sA, sB, sC]
     refine tl 7 ?v8 rfl ?q8 ?r8
     case q8 => intro W hSw; (try obtain ⟨q0, q1, q2⟩ := HC3.out W hSw); go_simp; try rfl
     try simp only [Act.put, sA, sB, sC]
     refine tl 8 ?v9 rfl ?q9 ?r9
     case q9 => intro W hSw; (try obtain ⟨q0, q1, q2⟩ := HC3.out W hSw); go_simp; try rfl
     try simp only [Act.put, sA, sB, sC]
     refine tl 9 ?v10 rfl ?q10 ?r10
     case q10 => intro W hSw; (try obtain ⟨q0, q1, q2⟩ := HC3.out W hSw); go_simp; try rfl
     try simp only [Act.put, sA, sB, sC]
     refine tl 10 ?v11 rfl ?q11 ?r11
     case q11 => intro W hSw; go_simp; try rfl
     try simp only [Act.put, sA, sB, sC]
     refine tu 11 rfl ?_
     try simp only [Act.put, sA, sB, sC]
     refine tu 12 rfl ?_
     try simp only [Act.put, sA, sB, sC]
     refine tu 13 rfl ?_
     try simp only [Act.put, sA, sB, sC]
     refine tu 14 rfl ?_
     try simp only [Act.put, sA, sB, sC]
     refine tu 15 rfl ?_
     try simp only [Act.put, sA, sB, sC]
     refine tu 16 rfl ?_
     try simp only [Act.put, sA, sB, sC]
     refine tu 17 rfl ?_
     try simp only [Act.put, sA, sB, sC]
     refine tu 18 rfl ?_
     try simp only [Act.put, sA, sB, sC]
     refine tu 19 rfl ?_
     try simp only [Act.put, sA, sB, sC]
     refine tu 20 rfl ?_
     try simp only [Act.put, sA, sB, sC]
     refine tu 21 rfl ?_
     try simp only [Act.put, sA, sB, sC]
     refine tu 22 rfl ?_
     try simp only [Act.put, sA, sB, sC]
     refine tl 23 ?v12 rfl ?q12 ?r12
     case q12 => intro W hSw; go_simp; try rfl
     refine tl 24 ?v13 rfl ?q13 ?r13
     case q13 => intro W hSw; go_simp; try rfl
     try simp only [Act.put, sA, sB, sC]
     refine wpAnyH_done (by kernel_rfl) ?_ _
     have Fl := Lib.hid hHeld
     clear hHeld
     go_wp2_with fail
     go_ret2
     rw [hE1.out]
     exact ⟨⟨fun h => absurd h (by decide), fun _ => rfl⟩, (F3.out.below (fun _ h => h.elim)).trans ((HF.out.trans Fl.out (fun _ h => .inl h)).below_of F3.out.size (fun _ h => Nat.le_trans (Nat.le_of_lt hsw) h))⟩
    ·have hd5 : decide (f < 0) = false := decide_eq_false h0
     have Hok2 : Hid (floorOk l fl k = onB f x.every) := by show _ = _; rw [Hok.out, decide_eq_true (by omega), Bool.true_and]
     obtain ⟨ob, hob⟩ : ∃ b, onB f x.every = b := ⟨_, rfl⟩
     have HOb : Hid (∀ W, Calls Tryz.prog 47 #[.int .i64 f, .int .i64 x.every] W fun r w' => r = .returned (.bool ob) ∧ W = w') := fun W => by rw [← hob]; exact HOn.out f W
     rw [hob] at Hok2
     clear hob Hok HOn
     cases ob with
     | false =>
      have hE1 : Hid (E = 1) := HEb.out Hok2.out hkm
      go_wp2_with fail
      refine wp_region_held_drew (S := fun W => Fr (fun j => s ≤ j) wr W) (by kernel_rfl) ((Fr.refl _ wr).drew) (fun hHeld => ?_)
      refine tl 0 ?v14 rfl ?q14 ?r14
      case q14 => intro W hSw; go_simp; try rfl
      refine tl 1 ?v15 rfl ?q15 ?r15
      case q15 => intro W hSw; go_simp; try rfl
      refine tl 2 ?v16 rfl ?q16 ?r16
      case q16 => intro W hSw; (try obtain ⟨q0, q1, q2⟩ := HC3.out W hSw); go_simp; try rfl
      refine tl 3 ?v17 rfl ?q17 ?r17
      case q17 => intro W hSw; (try obtain ⟨q0, q1, q2⟩ := HC3.out W hSw); go_simp; try rfl
      refine tl 4 ?v18 rfl ?q18 ?r18
      case q18 => intro W hSw; go_simp; try rfl
      try simp only [Act.put, sA, sB, sC]
      refine tl 5 ?v19 rfl ?q19 ?r19
      case q19 => intro W hSw; go_simp; try rfl
      try simp only [Act.put, sA, sB, sC]
      refine tl 6 ?v20 rfl ?q20 ?r20
      case q20 => intro W hSw; go_simp; try rfl
      try simp only [Act.put, sA, sB, sC]
      refine tl 7 ?v21 rfl ?q21 ?r21
      case q21 => intro W hSw; (try obtain ⟨q0, q1, q2⟩ := HC3.out W hSw); go_simp; try rfl
      try simp only [Act.put, sA, sB, sC]
      refine tl 8 ?v22 rfl ?q22 ?r22
      case q22 => intro W hSw; (try obtain ⟨q0, q1, q2⟩ := HC3.out W hSw); go_simp; try rfl
      try simp only [Act.put, sA, sB, sC]
      refine tl 9 ?v23 rfl ?q23 ?r23
      case q23 => intro W hSw; (try obtain ⟨q0, q1, q2⟩ := HC3.out W hSw); go_simp; try rfl
      try simp only [Act.put, sA, sB, sC]
      refine tl 10 ?v24 rfl ?q24 ?r24
      case q24 => intro W hSw; go_simp; try rfl
      try simp only [Act.put, sA, sB, sC]
      refine tl 11 ?v25 rfl ?q25 ?r25
      case q25 => intro W hSw; go_simp; try rfl
      try simp only [Act.put, sA, sB, sC]
      refine tl 12 ?v26 rfl ?q26 ?r26
      case q26 => intro W hSw; go_simp; try rfl
      try simp only [Act.put, sA, sB, sC]
      refine tl 13 ?v27 rfl ?q27 ?r27
      case q27 => intro W hSw; (try obtain ⟨q0, q1, q2⟩ := HC3.out W hSw); go_simp; try rfl
      try simp only [Act.put, sA, sB, sC]
      refine tl 14 ?v28 rfl ?q28 ?r28
      case q28 => intro W hSw; (try obtain ⟨q0, q1, q2⟩ := HC3.out W hSw); go_simp; try rfl
      try simp only [Act.put, sA, sB, sC]
      refine tl 15 ?v29 rfl ?q29 ?r29
      case q29 => intro W hSw; go_simp; try rfl
      try simp only [Act.put, sA, sB, sC]
      refine tl 16 ?v30 rfl ?q30 ?r30
      case q30 => intro W hSw; (try obtain ⟨q0, q1, q2⟩ := HC3.out W hSw); go_simp; try rfl
      try simp only [Act.put, sA, sB, sC]
      refine tl 17 ?v31 rfl ?q31 ?r31
      case q31 => intro W hSw; go_simp; try rfl
      try simp only [Act.put, sA, sB, sC]
      refine tl 18 ?v32 rfl ?q32 ?r32
      case q32 => intro W hSw; (try obtain ⟨q0, q1, q2⟩ := HC3.out W hSw); go_simp; try rfl
      try simp only [Act.put, sA, sB, sC]
      refine tl 19 ?v33 rfl ?q33 ?r33
      case q33 => intro W hSw; go_simp; try rfl
      try simp only [Act.put, sA, sB, sC]
      refine tl 20 ?v34 rfl ?q34 ?r34
      case q34 => intro W hSw; (try obtain ⟨q0, q1, q2⟩ := HC3.out W hSw); go_simp; try rfl
      try simp only [Act.put, sA, sB, sC]
      refine rl 21 rfl (fun K hK => ?_)
      go_simp
      go_wp2_with (first | (go_at_call 47; refine (HOb.out _).mono ?_; rintro r wb ⟨rfl, rfl⟩))
      refine hK.out _ _ (hHeld) (fun hHeld => ?_)
      clear hK K
      try simp only [Act.put, sA, sB, sC]
      refine tl 22 ?v35 rfl ?q35 ?r35
      case q35 => intro W hSw; go_simp; try rfl
      try simp only [Act.put, sA, sB, sC]
      refine tl 23 ?v36 rfl ?q36 ?r36
      case q36 => intro W hSw; go_simp; try rfl
      refine tl 24 ?v37 rfl ?q37 ?r37
      case q37 => intro W hSw; go_simp; try rfl
      try simp only [Act.put, sA, sB, sC]
      refine wpAnyH_done (by kernel_rfl) ?_ _
      have Fl := Lib.hid hHeld
      clear hHeld
      go_wp2_with fail
      go_ret2
      rw [hE1.out]
      exact ⟨⟨fun h => absurd h (by decide), fun _ => rfl⟩, (F3.out.below (fun _ h => h.elim)).trans ((HF.out.trans Fl.out (fun _ h => .inl h)).below_of F3.out.size (fun _ h => Nat.le_trans (Nat.le_of_lt hsw) h))⟩
     | true =>
      have HGk := Lib.hid (HGo.out Hok2.out)
      clear Hok2 HGo HEb
      go_wp2_with fail
      refine wp_region_held_drew (S := fun W => Fr (fun j => s ≤ j) wr W) (by kernel_rfl) ((Fr.refl _ wr).drew) (fun hHeld => ?_)
      refine tl 0 ?v38 rfl ?q38 ?r38
      case q38 => intro W hSw; go_simp; try rfl
      refine tl 1 ?v39 rfl ?q39 ?r39
      case q39 => intro W hSw; go_simp; try rfl
      refine tl 2 ?v40 rfl ?q40 ?r40
      case q40 => intro W hSw; (try obtain ⟨q0, q1, q2⟩ := HC3.out W hSw); go_simp; try rfl
      refine tl 3 ?v41 rfl ?q41 ?r41
      case q41 => intro W hSw; (try obtain ⟨q0, q1, q2⟩ := HC3.out W hSw); go_simp; try rfl
      refine tl 4 ?v42 rfl ?q42 ?r42
      case q42 => intro W hSw; go_simp; try rfl
      try simp only [Act.put, sA, sB, sC]
      refine tl 5 ?v43 rfl ?q43 ?r43
      case q43 => intro W hSw; go_simp; try rfl
      try simp only [Act.put, sA, sB, sC]
      refine tl 6 ?v44 rfl ?q44 ?r44
      case q44 => intro W hSw; go_simp; try rfl
      try simp only [Act.put, sA, sB, sC]
      refine tl 7 ?v45 rfl ?q45 ?r45
      case q45 => intro W hSw; (try obtain ⟨q0, q1, q2⟩ := HC3.out W hSw); go_simp; try rfl
      try simp only [Act.put, sA, sB, sC]
      refine tl 8 ?v46 rfl ?q46 ?r46
      case q46 => intro W hSw; (try obtain ⟨q0, q1, q2⟩ := HC3.out W hSw); go_simp; try rfl
      try simp only [Act.put, sA, sB, sC]
      refine tl 9 ?v47 rfl ?q47 ?r47
      case q47 => intro W hSw; (try obtain ⟨q0, q1, q2⟩ := HC3.out W hSw); go_simp; try rfl
      try simp only [Act.put, sA, sB, sC]
      refine tl 10 ?v48 rfl ?q48 ?r48
      case q48 => intro W hSw; go_simp; try rfl
      try simp only [Act.put, sA, sB, sC]
      refine tl 11 ?v49 rfl ?q49 ?r49
      case q49 => intro W hSw; go_simp; try rfl
      try simp only [Act.put, sA, sB, sC]
      refine tl 12 ?v50 rfl ?q50 ?r50
      case q50 => intro W hSw; go_simp; try rfl
      try simp only [Act.put, sA, sB, sC]
      refine tl 13 ?v51 rfl ?q51 ?r51
      case q51 => intro W hSw; (try obtain ⟨q0, q1, q2⟩ := HC3.out W hSw); go_simp; try rfl
      try simp only [Act.put, sA, sB, sC]
      refine tl 14 ?v52 rfl ?q52 ?r52
      case q52 => intro W hSw; (try obtain ⟨q0, q1, q2⟩ := HC3.out W hSw); go_simp; try rfl
      try simp only [Act.put, sA, sB, sC]
      refine tl 15 ?v53 rfl ?q53 ?r53
      case q53 => intro W hSw; go_simp; try rfl
      try simp only [Act.put, sA, sB, sC]
      refine tl 16 ?v54 rfl ?q54 ?r54
      case q54 => intro W hSw; (try obtain ⟨q0, q1, q2⟩ := HC3.out W hSw); go_simp; try rfl
      try simp only [Act.put, sA, sB, sC]
      refine tl 17 ?v55 rfl ?q55 ?r55
      case q55 => intro W hSw; go_simp; try rfl
      try simp only [Act.put, sA, sB, sC]
      refine tl 18 ?v56 rfl ?q56 ?r56
      case q56 => intro W hSw; (try obtain ⟨q0, q1, q2⟩ := HC3.out W hSw); go_simp; try rfl
      try simp only [Act.put, sA, sB, sC]
      refine tl 19 ?v57 rfl ?q57 ?r57
      case q57 => intro W hSw; go_simp; try rfl
      try simp only [Act.put, sA, sB, sC]
      refine tl 20 ?v58 rfl ?q58 ?r58
      case q58 => intro W hSw; (try obtain ⟨q0, q1, q2⟩ := HC3.out W hSw); go_simp; try rfl
      try simp only [Act.put, sA, sB, sC]
      refine rl 21 rfl (fun K hK => ?_)
      go_simp
      go_wp2_with (first | (go_at_call 47; refine (HOb.out _).mono ?_; rintro r wb ⟨rfl, rfl⟩))
      refine hK.out _ _ (hHeld) (fun hHeld => ?_)
      clear hK K
      try simp only [Act.put, sA, sB, sC]
      refine tl 22 ?v59 rfl ?q59 ?r59
      case q59 => intro W hSw; go_simp; try rfl
      try simp only [Act.put, sA, sB, sC]
      refine tl 23 ?v60 rfl ?q60 ?r60
      case q60 => intro W hSw; go_simp; try rfl
      refine tl 24 ?v61 rfl ?q61 ?r61
      case q61 => intro W hSw; go_simp; try rfl
      try simp only [Act.put, sA, sB, sC]
      refine wpAnyH_done (by kernel_rfl) ?_ _
      have Fl := Lib.hid hHeld
      clear hHeld
      go_wp2_with fail
      obtain ⟨w2, hw2⟩ : ∃ v, v = wr.drew := ⟨_, rfl⟩
      rw [← hw2] at Fl
      try rw [← hw2]
      have HPD : Hid (RTiersP w2 s s (newX nm l now fl) (some ad) c (some bd) d T ct P k) := HP.out.fr0 (by subst hw2; exact (Fr.refl _ wr).drew)
      have HF2 : Hid (Fr (fun j => s ≤ j) W3 w2) := HF.out.trans Fl.out (fun _ h => .inl h)
      have hs2 : s ≤ w2.heap.size := Nat.le_trans hsr Fl.out.size
      have q40 := HPD.out.blk.cell 4
      have q41 := fun o => (HPD.out.blk.alloc o).cell 4
      have q42 := fun o1 o2 => ((HPD.out.blk.alloc o1).alloc o2).cell 4
      simp only [List.getElem?_toArray, List.getElem?_cons_succ, List.getElem?_cons_zero] at q40 q41 q42
      have HB6 : Hid (∀ W T6 c6 u6, Fr (fun _ => False) w2 W → Mv (rowF (.slice T k ct)) (rowF (.slice T6 (k + 1) c6)) W u6 → Blk u6 s 113 _) := fun W T6 c6 u6 f hm =>
       (HPD.out.fr0 f).blk.fr hm.fr (own_blk_ne (HPD.out.fr0 f).row (HPD.out.fr0 f).blk (by decide))
      have HZ : Hid (∀ W T6 c6 u6, Fr (fun _ => False) w2 W → Blk W w2.heap.size 116 #[.int .i64 x.every, .slice none 0 0] → u6.ownsRow s 114 1 (.slice T6 (k + 1) c6) (k + 1) (rptrs P ++ [.pointer (some ⟨w2.heap.size, 0, none⟩)]) → Mv (rowF (.slice T k ct)) (rowF (.slice T6 (k + 1) c6)) W u6 →
        RTiersP (u6.setCell ⟨s, 4, none⟩ (.slice T6 (k + 1) c6)) s s (newX nm l now fl) (some ad) c (some bd) d T6 c6 (P ++ [w2.heap.size]) (k + 1) ∧ Fr (fun j => s ≤ j) w2 (u6.setCell ⟨s, 4, none⟩ (.slice T6 (k + 1) c6))) := fun W T6 c6 u6 f hb ho hm =>
       ⟨HPD.out.snoc Hx.out f (Nat.le_refl _) hb ho hm hs2, ((f.mono (fun _ h => h.elim)).trans hm.fr (fun i hi => .inl (HPD.out.row.lt i hi).1)).setCell (p := ⟨s, 4, none⟩) (.inl (Nat.le_refl s)) _⟩
      have HC2 : Hid (∀ W, Fr (fun j => s ≤ j) w2 W → W.cell? ⟨w.heap.size, 1, none⟩ = some (.slice (some ad) n c) ∧ W.cell? ⟨(ad.add (k * 4)).block, (ad.add (k * 4)).off + 1, none⟩ = some (.int .i64 x.every)) := fun W f => HC.out W (Fl.out.trans f (fun _ h => .inl h))
      clear HP HF HC hw2
      refine wp_region_held_drew (S := fun W => Fr (fun j => s ≤ j) w2 W) (by kernel_rfl) ((Fr.refl _ w2).drew) (fun hHeld => ?_)
      refine tl 0 ?v62 rfl ?q62 ?r62
      case q62 => intro W hSw; go_simp; try rfl
      refine tl 1 ?v63 rfl ?q63 ?r63
      case q63 => intro W hSw; go_simp; try rfl
      refine tl 2 ?v64 rfl ?q64 ?r64
      case q64 => intro W hSw; go_simp; try rfl
      refine tl 3 ?v65 rfl ?q65 ?r65
      case q65 => intro W hSw; go_simp; try rfl
      refine tl 5 ?v66 rfl ?q66 ?r66
      case q66 => intro W hSw; go_simp; try rfl
      refine tl 6 ?v67 rfl ?q67 ?r67
      case q67 => intro W hSw; (try obtain ⟨q0, q1⟩ := HC2.out W hSw); go_simp; try rfl
      refine tl 7 ?v68 rfl ?q68 ?r68
      case q68 => intro W hSw; go_simp; try rfl
      refine tl 8 ?v69 rfl ?q69 ?r69
      case q69 => intro W hSw; (try obtain ⟨q0, q1⟩ := HC2.out W hSw); go_simp; try rfl
      refine tl 9 ?v70 rfl ?q70 ?r70
      case q70 => intro W hSw; go_simp; try rfl
      refine tl 10 ?v71 rfl ?q71 ?r71
      case q71 => intro W hSw; (try obtain ⟨q0, q1⟩ := HC2.out W hSw); go_simp; try rfl
      refine tl 11 ?v72 rfl ?q72 ?r72
      case q72 => intro W hSw; (try obtain ⟨q0, q1⟩ := HC2.out W hSw); go_simp; try rfl
      try simp only [Act.put, sA, sB, sC]
      refine wpAnyH_ready (rs := [4, 12]) (by kernel_rfl) (by simp) ?_
      refine AllReadyH.cons (dg rfl) (fun K hK => ?_) ?_
      ·go_simp
       refine hK.out _ _ (hHeld) (fun hHeld => ?_)
       clear hK K
       try simp only [Act.put, sA, sB, sC]
       refine rl 12 rfl (fun K hK => ?_)
       go_simp
       refine hK.out _ _ (by first | exact hHeld.alloc _ | exact ((Fr.refl _ w2).alloc _).drew) (fun hHeld => ?_)
       clear hK K
       try simp only [Act.put, sA, sB, sC]
       refine rl 13 rfl (fun K hK => ?_)
       go_simp
       refine hK.out _ _ (by first | exact hHeld.alloc _ | exact (((Fr.refl _ w2).alloc _).alloc _).drew) (fun hHeld => ?_)
       clear hK K
       try simp only [Act.put, sA, sB, sC]
       refine rl 14 rfl (fun K hK => ?_)
       rw [if_pos (by rfl)]
       refine op_app3 _ _ 111 rfl 114 i0 (.pointer none) 1 8 Tryz.underlying111 hi hz0 hz1 hz2 rfl (by decide) (.slice T k ct) k _ rfl s (Nat.le_trans hs2 (Fr.size (F := fun _ => False) (by first | exact (((Fr.refl _ w2).alloc _).alloc _).drew | exact (((Fr.refl _ w2).drew.alloc _).alloc _) | exact (((Fr.refl _ w2).alloc _).drew.alloc _)))) (own_fr0 HPD.out.row (by first | exact (((Fr.refl _ w2).alloc _).alloc _).drew | exact (((Fr.refl _ w2).drew.alloc _).alloc _) | exact (((Fr.refl _ w2).alloc _).drew.alloc _))) _ 1 1 [.pointer (some ⟨w2.heap.size, 0, none⟩)] rfl (by first | exact (Rd.newS (by simp) _ _ _ _ rfl).drew | exact Rd.newS (by simp) _ _ _ _ rfl) (by simp [Value.oneCell']) (by unfold maxLen; omega) (by omega) (fun T6 c6 u6 ho6 hm6 _ => ?_)
       have hb6 := HB6.out _ _ _ _ (by first | exact (((Fr.refl _ w2).alloc _).alloc _).drew | exact (((Fr.refl _ w2).drew.alloc _).alloc _) | exact (((Fr.refl _ w2).alloc _).drew.alloc _)) hm6
       have q6 := hb6.cell 4
       have f6 := hb6.frozen 4
       have Hz := Lib.hid (HZ.out _ T6 c6 u6 (by first | exact (((Fr.refl _ w2).alloc _).alloc _).drew | exact (((Fr.refl _ w2).drew.alloc _).alloc _) | exact (((Fr.refl _ w2).alloc _).drew.alloc _)) (by first | exact ((Blk.new w2 _ _).alloc _).drew | exact ((Blk.new w2 _ _).drew.alloc _)) ho6 hm6)
       simp only [List.getElem?_toArray, List.getElem?_cons_succ, List.getElem?_cons_zero] at q6
       clear hb6
       refine hK.out _ _ (hHeld.trans hm6.fr (fun i hi => .inl (HPD.out.row.lt i hi).1)) (fun hHeld => ?_)
       clear hK K
       refine tl 15 ?v73 rfl ?q73 ?r73
       case q73 => intro W hSw; go_simp; try rfl
       refine tl 16 ?v74 rfl ?q74 ?r74
       case q74 => intro W hSw; go_simp; try rfl
       try simp only [Act.put, sA, sB, sC]
       refine rl 17 rfl (fun K hK => ?_)
       go_simp
       refine hK.out _ _ (hHeld.setCell (.inl (Nat.le_refl s)) _) (fun hHeld => ?_)
       clear hK K
       try simp only [Act.put, sA, sB, sC]
       refine wpAnyH_done (by kernel_rfl) ?_ _
       clear hHeld q6 f6
       go_wp2_with fail
       go_roundw
       case rel => exact ⟨k + 1, T6, c6, _, by omega, by go_num, Hz.out.1, HF2.out.trans Hz.out.2 (fun _ h => .inl h), HGk.out⟩
       case measure => simp [intOf]; omega
      refine AllReadyH.cons (dg rfl) (fun K hK => ?_) AllReadyH.nil
      go_simp
      refine hK.out _ _ (by first | exact hHeld.alloc _ | exact ((Fr.refl _ w2).alloc _).drew) (fun hHeld => ?_)
      clear hK K
      try simp only [Act.put, sA, sB, sC]
      refine wpAnyH_ready (rs := [4, 13]) (by kernel_rfl) (by simp) ?_
      refine AllReadyH.cons (dg rfl) (fun K hK => ?_) ?_
      ·go_simp
       refine hK.out _ _ (hHeld) (fun hHeld => ?_)
       clear hK K
       try simp only [Act.put, sA, sB, sC]
       refine rl 13 rfl (fun K hK => ?_)
       go_simp
       refine hK.out _ _ (by first | exact hHeld.alloc _ | exact (((Fr.refl _ w2).alloc _).alloc _).drew) (fun hHeld => ?_)
       clear hK K
       try simp only [Act.put, sA, sB, sC]
       refine rl 14 rfl (fun K hK => ?_)
       rw [if_pos (by rfl)]
       refine op_app3 _ _ 111 rfl 114 i0 (.pointer none) 1 8 Tryz.underlying111 hi hz0 hz1 hz2 rfl (by decide) (.slice T k ct) k _ rfl s (Nat.le_trans hs2 (Fr.size (F := fun _ => False) (by first | exact (((Fr.refl _ w2).alloc _).alloc _).drew | exact (((Fr.refl _ w2).drew.alloc _).alloc _) | exact (((Fr.refl _ w2).alloc _).drew.alloc _)))) (own_fr0 HPD.out.row (by first | exact (((Fr.refl _ w2).alloc _).alloc _).drew | exact (((Fr.refl _ w2).drew.alloc _).alloc _) | exact (((Fr.refl _ w2).alloc _).drew.alloc _))) _ 1 1 [.pointer (some ⟨w2.heap.size, 0, none⟩)] rfl (by first | exact (Rd.newS (by simp) _ _ _ _ rfl).drew | exact Rd.newS (by simp) _ _ _ _ rfl) (by simp [Value.oneCell']) (by unfold maxLen; omega) (by omega) (fun T6 c6 u6 ho6 hm6 _ => ?_)
       have hb6 := HB6.out _ _ _ _ (by first | exact (((Fr.refl _ w2).alloc _).alloc _).drew | exact (((Fr.refl _ w2).drew.alloc _).alloc _) | exact (((Fr.refl _ w2).alloc _).drew.alloc _)) hm6
       have q6 := hb6.cell 4
       have f6 := hb6.frozen 4
       have Hz := Lib.hid (HZ.out _ T6 c6 u6 (by first | exact (((Fr.refl _ w2).alloc _).alloc _).drew | exact (((Fr.refl _ w2).drew.alloc _).alloc _) | exact (((Fr.refl _ w2).alloc _).drew.alloc _)) (by first | exact ((Blk.new w2 _ _).alloc _).drew | exact ((Blk.new w2 _ _).drew.alloc _)) ho6 hm6)
       simp only [List.getElem?_toArray, List.getElem?_cons_succ, List.getElem?_cons_zero] at q6
       clear hb6
       refine hK.out _ _ (hHeld.trans hm6.fr (fun i hi => .inl (HPD.out.row.lt i hi).1)) (fun hHeld => ?_)
       clear hK K
       refine tl 15 ?v75 rfl ?q75 ?r75
       case q75 => intro W hSw; go_simp; try rfl
       refine tl 16 ?v76 rfl ?q76 ?r76
       case q76 => intro W hSw; go_simp; try rfl
       try simp only [Act.put, sA, sB, sC]
       refine rl 17 rfl (fun K hK => ?_)
       go_simp
       refine hK.out _ _ (hHeld.setCell (.inl (Nat.le_refl s)) _) (fun hHeld => ?_)
       clear hK K
       try simp only [Act.put, sA, sB, sC]
       refine wpAnyH_done (by kernel_rfl) ?_ _
       clear hHeld q6 f6
       go_wp2_with fail
       go_roundw
       case rel => exact ⟨k + 1, T6, c6, _, by omega, by go_num, Hz.out.1, HF2.out.trans Hz.out.2 (fun _ h => .inl h), HGk.out⟩
       case measure => simp [intOf]; omega
      refine AllReadyH.cons (dg rfl) (fun K hK => ?_) AllReadyH.nil
      go_simp
      refine hK.out _ _ (by first | exact hHeld.alloc _ | exact (((Fr.refl _ w2).alloc _).alloc _).drew) (fun hHeld => ?_)
      clear hK K
      try simp only [Act.put, sA, sB, sC]
      refine rl 4 rfl (fun K hK => ?_)
      go_simp
      refine hK.out _ _ (hHeld) (fun hHeld => ?_)
      clear hK K
      try simp only [Act.put, sA, sB, sC]
      refine rl 14 rfl (fun K hK => ?_)
      rw [if_pos (by rfl)]
      refine op_app3 _ _ 111 rfl 114 i0 (.pointer none) 1 8 Tryz.underlying111 hi hz0 hz1 hz2 rfl (by decide) (.slice T k ct) k _ rfl s (Nat.le_trans hs2 (Fr.size (F := fun _ => False) (by first | exact (((Fr.refl _ w2).alloc _).alloc _).drew | exact (((Fr.refl _ w2).drew.alloc _).alloc _) | exact (((Fr.refl _ w2).alloc _).drew.alloc _)))) (own_fr0 HPD.out.row (by first | exact (((Fr.refl _ w2).alloc _).alloc _).drew | exact (((Fr.refl _ w2).drew.alloc _).alloc _) | exact (((Fr.refl _ w2).alloc _).drew.alloc _))) _ 1 1 [.pointer (some ⟨w2.heap.size, 0, none⟩)] rfl (by first | exact (Rd.newS (by simp) _ _ _ _ rfl).drew | exact Rd.newS (by simp) _ _ _ _ rfl) (by simp [Value.oneCell']) (by unfold maxLen; omega) (by omega) (fun T6 c6 u6 ho6 hm6 _ => ?_)
      have hb6 := HB6.out _ _ _ _ (by first | exact (((Fr.refl _ w2).alloc _).alloc _).drew | exact (((Fr.refl _ w2).drew.alloc _).alloc _) | exact (((Fr.refl _ w2).alloc _).drew.alloc _)) hm6
      have q6 := hb6.cell 4
      have f6 := hb6.frozen 4
      have Hz := Lib.hid (HZ.out _ T6 c6 u6 (by first | exact (((Fr.refl _ w2).alloc _).alloc _).drew | exact (((Fr.refl _ w2).drew.alloc _).alloc _) | exact (((Fr.refl _ w2).alloc _).drew.alloc _)) (by first | exact ((Blk.new w2 _ _).alloc _).drew | exact ((Blk.new w2 _ _).drew.alloc _)) ho6 hm6)
      simp only [List.getElem?_toArray, List.getElem?_cons_succ, List.getElem?_cons_zero] at q6
      clear hb6
      refine hK.out _ _ (hHeld.trans hm6.fr (fun i hi => .inl (HPD.out.row.lt i hi).1)) (fun hHeld => ?_)
      clear hK K
      refine tl 15 ?v77 rfl ?q77 ?r77
      case q77 => intro W hSw; go_simp; try rfl
      refine tl 16 ?v78 rfl ?q78 ?r78
      case q78 => intro W hSw; go_simp; try rfl
      try simp only [Act.put, sA, sB, sC]
      refine rl 17 rfl (fun K hK => ?_)
      go_simp
      refine hK.out _ _ (hHeld.setCell (.inl (Nat.le_refl s)) _) (fun hHeld => ?_)
      clear hK K
      try simp only [Act.put, sA, sB, sC]
      refine wpAnyH_done (by kernel_rfl) ?_ _
      clear hHeld q6 f6
      go_wp2_with fail
      go_roundw
      case rel => exact ⟨k + 1, T6, c6, _, by omega, by go_num, Hz.out.1, HF2.out.trans Hz.out.2 (fun _ h => .inl h), HGk.out⟩
      case measure => simp [intOf]; omega
   ·have g1 : decide ((k : Int) < (m : Int)) = false := decide_eq_false (by omega)
    have HGk := Lib.hid (HGo.out (by unfold floorOk; rw [List.getElem?_eq_none (by rw [Hlm.out]; omega)]))
    clear HGo HEb HOn
    go_wp2_with fail
    refine wp_region_held_drew (S := fun W => Fr (fun j => s ≤ j) wr W) (by kernel_rfl) ((Fr.refl _ wr).drew) (fun hHeld => ?_)
    refine tl 0 ?v79 rfl ?q79 ?r79
    case q79 => intro W hSw; go_simp; try rfl
    refine tl 1 ?v80 rfl ?q80 ?r80
    case q80 => intro W hSw; go_simp; try rfl
    refine tl 2 ?v81 rfl ?q81 ?r81
    case q81 => intro W hSw; (try obtain ⟨q0, q1⟩ := HC.out W hSw); go_simp; try rfl
    refine tl 3 ?v82 rfl ?q82 ?r82
    case q82 => intro W hSw; (try obtain ⟨q0, q1⟩ := HC.out W hSw); go_simp; try rfl
    refine tl 4 ?v83 rfl ?q83 ?r83
    case q83 => intro W hSw; go_simp; try rfl
    try simp only [Act.put, sA, sB, sC]
    refine tu 5 rfl ?_
    try simp only [Act.put, sA, sB, sC]
    refine tu 6 rfl ?_
    try simp only [Act.put, sA, sB, sC]
    refine tu 7 rfl ?_
    try simp only [Act.put, sA, sB, sC]
    refine tu 8 rfl ?_
    try simp only [Act.put, sA, sB, sC]
    refine tu 9 rfl ?_
    try simp only [Act.put, sA, sB, sC]
    refine tu 10 rfl ?_
    try simp only [Act.put, sA, sB, sC]
    refine tu 11 rfl ?_
    try simp only [Act.put, sA, sB, sC]
    refine tu 12 rfl ?_
    try simp only [Act.put, sA, sB, sC]
    refine tu 13 rfl ?_
    try simp only [Act.put, sA, sB, sC]
    refine tu 14 rfl ?_
    try simp only [Act.put, sA, sB, sC]
    refine tu 15 rfl ?_
    try simp only [Act.put, sA, sB, sC]
    refine tu 16 rfl ?_
    try simp only [Act.put, sA, sB, sC]
    refine tu 17 rfl ?_
    try simp only [Act.put, sA, sB, sC]
    refine tu 18 rfl ?_
    try simp only [Act.put, sA, sB, sC]
    refine tu 19 rfl ?_
    try simp only [Act.put, sA, sB, sC]
    refine tu 20 rfl ?_
    try simp only [Act.put, sA, sB, sC]
    refine tu 21 rfl ?_
    try simp only [Act.put, sA, sB, sC]
    refine tu 22 rfl ?_
    try simp only [Act.put, sA, sB, sC]
    refine tu 23 rfl ?_
    refine tl 24 ?v84 rfl ?q84 ?r84
    case q84 => intro W hSw; go_simp; try rfl
    try simp only [Act.put, sA, sB, sC]
    refine wpAnyH_done (by kernel_rfl) ?_ _
    have Fl := Lib.hid hHeld
    clear hHeld
    go_wp2_with fail
    obtain ⟨w2, hw2⟩ : ∃ v, v = wr.drew := ⟨_, rfl⟩
    rw [← hw2] at Fl
    try rw [← hw2]
    have HPD : Hid (RTiersP w2 s s (newX nm l now fl) (some ad) c B d T ct P k) := HP.out.fr0 (by subst hw2; exact (Fr.refl _ wr).drew)
    have HF2 : Hid (Fr (fun j => s ≤ j) W3 w2) := HF.out.trans Fl.out (fun _ h => .inl h)
    have hs2 : s ≤ w2.heap.size := Nat.le_trans hsr Fl.out.size
    have q40 := HPD.out.blk.cell 4
    have q41 := fun o => (HPD.out.blk.alloc o).cell 4
    have q42 := fun o1 o2 => ((HPD.out.blk.alloc o1).alloc o2).cell 4
    simp only [List.getElem?_toArray, List.getElem?_cons_succ, List.getElem?_cons_zero] at q40 q41 q42
    have HB6 : Hid (∀ W T6 c6 u6, Fr (fun _ => False) w2 W → Mv (rowF (.slice T k ct)) (rowF (.slice T6 (k + 1) c6)) W u6 → Blk u6 s 113 _) := fun W T6 c6 u6 f hm =>
     (HPD.out.fr0 f).blk.fr hm.fr (own_blk_ne (HPD.out.fr0 f).row (HPD.out.fr0 f).blk (by decide))
    have HZ : Hid (∀ W T6 c6 u6, Fr (fun _ => False) w2 W → Blk W w2.heap.size 116 #[.int .i64 x.every, .slice none 0 0] → u6.ownsRow s 114 1 (.slice T6 (k + 1) c6) (k + 1) (rptrs P ++ [.pointer (some ⟨w2.heap.size, 0, none⟩)]) → Mv (rowF (.slice T k ct)) (rowF (.slice T6 (k + 1) c6)) W u6 →
      RTiersP (u6.setCell ⟨s, 4, none⟩ (.slice T6 (k + 1) c6)) s s (newX nm l now fl) (some ad) c B d T6 c6 (P ++ [w2.heap.size]) (k + 1) ∧ Fr (fun j => s ≤ j) w2 (u6.setCell ⟨s, 4, none⟩ (.slice T6 (k + 1) c6))) := fun W T6 c6 u6 f hb ho hm =>
     ⟨HPD.out.snoc Hx.out f (Nat.le_refl _) hb ho hm hs2, ((f.mono (fun _ h => h.elim)).trans hm.fr (fun i hi => .inl (HPD.out.row.lt i hi).1)).setCell (p := ⟨s, 4, none⟩) (.inl (Nat.le_refl s)) _⟩
    have HC2 : Hid (∀ W, Fr (fun j => s ≤ j) w2 W → W.cell? ⟨w.heap.size, 1, none⟩ = some (.slice (some ad) n c) ∧ W.cell? ⟨(ad.add (k * 4)).block, (ad.add (k * 4)).off + 1, none⟩ = some (.int .i64 x.every)) := fun W f => HC.out W (Fl.out.trans f (fun _ h => .inl h))
    clear HP HF HC hw2
    refine wp_region_held_drew (S := fun W => Fr (fun j => s ≤ j) w2 W) (by kernel_rfl) ((Fr.refl _ w2).drew) (fun hHeld => ?_)
    refine tl 0 ?v85 rfl ?q85 ?r85
    case q85 => intro W hSw; go_simp; try rfl
    refine tl 1 ?v86 rfl ?q86 ?r86
    case q86 => intro W hSw; go_simp; try rfl
    refine tl 2 ?v87 rfl ?q87 ?r87
    case q87 => intro W hSw; go_simp; try rfl
    refine tl 3 ?v88 rfl ?q88 ?r88
    case q88 => intro W hSw; go_simp; try rfl
    refine tl 5 ?v89 rfl ?q89 ?r89
    case q89 => intro W hSw; go_simp; try rfl
    refine tl 6 ?v90 rfl ?q90 ?r90
    case q90 => intro W hSw; (try obtain ⟨q0, q1⟩ := HC2.out W hSw); go_simp; try rfl
    refine tl 7 ?v91 rfl ?q91 ?r91
    case q91 => intro W hSw; go_simp; try rfl
    refine tl 8 ?v92 rfl ?q92 ?r92
    case q92 => intro W hSw; (try obtain ⟨q0, q1⟩ := HC2.out W hSw); go_simp; try rfl
    refine tl 9 ?v93 rfl ?q93 ?r93
    case q93 => intro W hSw; go_simp; try rfl
    refine tl 10 ?v94 rfl ?q94 ?r94
    case q94 => intro W hSw; (try obtain ⟨q0, q1⟩ := HC2.out W hSw); go_simp; try rfl
    refine tl 11 ?v95 rfl ?q95 ?r95
    case q95 => intro W hSw; (try obtain ⟨q0, q1⟩ := HC2.out W hSw); go_simp; try rfl
    try simp only [Act.put, sA, sB, sC]
    refine wpAnyH_ready (rs := [4, 12]) (by kernel_rfl) (by simp) ?_
    refine AllReadyH.cons (dg rfl) (fun K hK => ?_) ?_
    ·go_simp
     refine hK.out _ _ (hHeld) (fun hHeld => ?_)
     clear hK K
     try simp only [Act.put, sA, sB, sC]
     refine rl 12 rfl (fun K hK => ?_)
     go_simp
     refine hK.out _ _ (by first | exact hHeld.alloc _ | exact ((Fr.refl _ w2).alloc _).drew) (fun hHeld => ?_)
     clear hK K
     try simp only [Act.put, sA, sB, sC]
     refine rl 13 rfl (fun K hK => ?_)
     go_simp
     refine hK.out _ _ (by first | exact hHeld.alloc _ | exact (((Fr.refl _ w2).alloc _).alloc _).drew) (fun hHeld => ?_)
     clear hK K
     try simp only [Act.put, sA, sB, sC]
     refine rl 14 rfl (fun K hK => ?_)
     rw [if_pos (by rfl)]
     refine op_app3 _ _ 111 rfl 114 i0 (.pointer none) 1 8 Tryz.underlying111 hi hz0 hz1 hz2 rfl (by decide) (.slice T k ct) k _ rfl s (Nat.le_trans hs2 (Fr.size (F := fun _ => False) (by first | exact (((Fr.refl _ w2).alloc _).alloc _).drew | exact (((Fr.refl _ w2).drew.alloc _).alloc _) | exact (((Fr.refl _ w2).alloc _).drew.alloc _)))) (own_fr0 HPD.out.row (by first | exact (((Fr.refl _ w2).alloc _).alloc _).drew | exact (((Fr.refl _ w2).drew.alloc _).alloc _) | exact (((Fr.refl _ w2).alloc _).drew.alloc _))) _ 1 1 [.pointer (some ⟨w2.heap.size, 0, none⟩)] rfl (by first | exact (Rd.newS (by simp) _ _ _ _ rfl).drew | exact Rd.newS (by simp) _ _ _ _ rfl) (by simp [Value.oneCell']) (by unfold maxLen; omega) (by omega) (fun T6 c6 u6 ho6 hm6 _ => ?_)
     have hb6 := HB6.out _ _ _ _ (by first | exact (((Fr.refl _ w2).alloc _).alloc _).drew | exact (((Fr.refl _ w2).drew.alloc _).alloc _) | exact (((Fr.refl _ w2).alloc _).drew.alloc _)) hm6
     have q6 := hb6.cell 4
     have f6 := hb6.frozen 4
     have Hz := Lib.hid (HZ.out _ T6 c6 u6 (by first | exact (((Fr.refl _ w2).alloc _).alloc _).drew | exact (((Fr.refl _ w2).drew.alloc _).alloc _) | exact (((Fr.refl _ w2).alloc _).drew.alloc _)) (by first | exact ((Blk.new w2 _ _).alloc _).drew | exact ((Blk.new w2 _ _).drew.alloc _)) ho6 hm6)
     simp only [List.getElem?_toArray, List.getElem?_cons_succ, List.getElem?_cons_zero] at q6
     clear hb6
     refine hK.out _ _ (hHeld.trans hm6.fr (fun i hi => .inl (HPD.out.row.lt i hi).1)) (fun hHeld => ?_)
     clear hK K
     refine tl 15 ?v96 rfl ?q96 ?r96
     case q96 => intro W hSw; go_simp; try rfl
     refine tl 16 ?v97 rfl ?q97 ?r97
     case q97 => intro W hSw; go_simp; try rfl
     try simp only [Act.put, sA, sB, sC]
     refine rl 17 rfl (fun K hK => ?_)
     go_simp
     refine hK.out _ _ (hHeld.setCell (.inl (Nat.le_refl s)) _) (fun hHeld => ?_)
     clear hK K
     try simp only [Act.put, sA, sB, sC]
     refine wpAnyH_done (by kernel_rfl) ?_ _
     clear hHeld q6 f6
     go_wp2_with fail
     go_roundw
     case rel => exact ⟨k + 1, T6, c6, _, by omega, by go_num, Hz.out.1, HF2.out.trans Hz.out.2 (fun _ h => .inl h), HGk.out⟩
     case measure => simp [intOf]; omega
    refine AllReadyH.cons (dg rfl) (fun K hK => ?_) AllReadyH.nil
    go_simp
    refine hK.out _ _ (by first | exact hHeld.alloc _ | exact ((Fr.refl _ w2).alloc _).drew) (fun hHeld => ?_)
    clear hK K
    try simp only [Act.put, sA, sB, sC]
    refine wpAnyH_ready (rs := [4, 13]) (by kernel_rfl) (by simp) ?_
    refine AllReadyH.cons (dg rfl) (fun K hK => ?_) ?_
    ·go_simp
     refine hK.out _ _ (hHeld) (fun hHeld => ?_)
     clear hK K
     try simp only [Act.put, sA, sB, sC]
     refine rl 13 rfl (fun K hK => ?_)
     go_simp
     refine hK.out _ _ (by first | exact hHeld.alloc _ | exact (((Fr.refl _ w2).alloc _).alloc _).drew) (fun hHeld => ?_)
     clear hK K
     try simp only [Act.put, sA, sB, sC]
     refine rl 14 rfl (fun K hK => ?_)
     rw [if_pos (by rfl)]
     refine op_app3 _ _ 111 rfl 114 i0 (.pointer none) 1 8 Tryz.underlying111 hi hz0 hz1 hz2 rfl (by decide) (.slice T k ct) k _ rfl s (Nat.le_trans hs2 (Fr.size (F := fun _ => False) (by first | exact (((Fr.refl _ w2).alloc _).alloc _).drew | exact (((Fr.refl _ w2).drew.alloc _).alloc _) | exact (((Fr.refl _ w2).alloc _).drew.alloc _)))) (own_fr0 HPD.out.row (by first | exact (((Fr.refl _ w2).alloc _).alloc _).drew | exact (((Fr.refl _ w2).drew.alloc _).alloc _) | exact (((Fr.refl _ w2).alloc _).drew.alloc _))) _ 1 1 [.pointer (some ⟨w2.heap.size, 0, none⟩)] rfl (by first | exact (Rd.newS (by simp) _ _ _ _ rfl).drew | exact Rd.newS (by simp) _ _ _ _ rfl) (by simp [Value.oneCell']) (by unfold maxLen; omega) (by omega) (fun T6 c6 u6 ho6 hm6 _ => ?_)
     have hb6 := HB6.out _ _ _ _ (by first | exact (((Fr.refl _ w2).alloc _).alloc _).drew | exact (((Fr.refl _ w2).drew.alloc _).alloc _) | exact (((Fr.refl _ w2).alloc _).drew.alloc _)) hm6
     have q6 := hb6.cell 4
     have f6 := hb6.frozen 4
     have Hz := Lib.hid (HZ.out _ T6 c6 u6 (by first | exact (((Fr.refl _ w2).alloc _).alloc _).drew | exact (((Fr.refl _ w2).drew.alloc _).alloc _) | exact (((Fr.refl _ w2).alloc _).drew.alloc _)) (by first | exact ((Blk.new w2 _ _).alloc _).drew | exact ((Blk.new w2 _ _).drew.alloc _)) ho6 hm6)
     simp only [List.getElem?_toArray, List.getElem?_cons_succ, List.getElem?_cons_zero] at q6
     clear hb6
     refine hK.out _ _ (hHeld.trans hm6.fr (fun i hi => .inl (HPD.out.row.lt i hi).1)) (fun hHeld => ?_)
     clear hK K
     refine tl 15 ?v98 rfl ?q98 ?r98
     case q98 => intro W hSw; go_simp; try rfl
     refine tl 16 ?v99 rfl ?q99 ?r99
     case q99 => intro W hSw; go_simp; try rfl
     try simp only [Act.put, sA, sB, sC]
     refine rl 17 rfl (fun K hK => ?_)
     go_simp
     refine hK.out _ _ (hHeld.setCell (.inl (Nat.le_refl s)) _) (fun hHeld => ?_)
     clear hK K
     try simp only [Act.put, sA, sB, sC]
     refine wpAnyH_done (by kernel_rfl) ?_ _
     clear hHeld q6 f6
     go_wp2_with fail
     go_roundw
     case rel => exact ⟨k + 1, T6, c6, _, by omega, by go_num, Hz.out.1, HF2.out.trans Hz.out.2 (fun _ h => .inl h), HGk.out⟩
     case measure => simp [intOf]; omega
    refine AllReadyH.cons (dg rfl) (fun K hK => ?_) AllReadyH.nil
    go_simp
    refine hK.out _ _ (by first | exact hHeld.alloc _ | exact (((Fr.refl _ w2).alloc _).alloc _).drew) (fun hHeld => ?_)
    clear hK K
    try simp only [Act.put, sA, sB, sC]
    refine rl 4 rfl (fun K hK => ?_)
    go_simp
    refine hK.out _ _ (hHeld) (fun hHeld => ?_)
    clear hK K
    try simp only [Act.put, sA, sB, sC]
    refine rl 14 rfl (fun K hK => ?_)
    rw [if_pos (by rfl)]
    refine op_app3 _ _ 111 rfl 114 i0 (.pointer none) 1 8 Tryz.underlying111 hi hz0 hz1 hz2 rfl (by decide) (.slice T k ct) k _ rfl s (Nat.le_trans hs2 (Fr.size (F := fun _ => False) (by first | exact (((Fr.refl _ w2).alloc _).alloc _).drew | exact (((Fr.refl _ w2).drew.alloc _).alloc _) | exact (((Fr.refl _ w2).alloc _).drew.alloc _)))) (own_fr0 HPD.out.row (by first | exact (((Fr.refl _ w2).alloc _).alloc _).drew | exact (((Fr.refl _ w2).drew.alloc _).alloc _) | exact (((Fr.refl _ w2).alloc _).drew.alloc _))) _ 1 1 [.pointer (some ⟨w2.heap.size, 0, none⟩)] rfl (by first | exact (Rd.newS (by simp) _ _ _ _ rfl).drew | exact Rd.newS (by simp) _ _ _ _ rfl) (by simp [Value.oneCell']) (by unfold maxLen; omega) (by omega) (fun T6 c6 u6 ho6 hm6 _ => ?_)
    have hb6 := HB6.out _ _ _ _ (by first | exact (((Fr.refl _ w2).alloc _).alloc _).drew | exact (((Fr.refl _ w2).drew.alloc _).alloc _) | exact (((Fr.refl _ w2).alloc _).drew.alloc _)) hm6
    have q6 := hb6.cell 4
    have f6 := hb6.frozen 4
    have Hz := Lib.hid (HZ.out _ T6 c6 u6 (by first | exact (((Fr.refl _ w2).alloc _).alloc _).drew | exact (((Fr.refl _ w2).drew.alloc _).alloc _) | exact (((Fr.refl _ w2).alloc _).drew.alloc _)) (by first | exact ((Blk.new w2 _ _).alloc _).drew | exact ((Blk.new w2 _ _).drew.alloc _)) ho6 hm6)
    simp only [List.getElem?_toArray, List.getElem?_cons_succ, List.getElem?_cons_zero] at q6
    clear hb6
    refine hK.out _ _ (hHeld.trans hm6.fr (fun i hi => .inl (HPD.out.row.lt i hi).1)) (fun hHeld => ?_)
    clear hK K
    refine tl 15 ?v100 rfl ?q100 ?r100
    case q100 => intro W hSw; go_simp; try rfl
    refine tl 16 ?v101 rfl ?q101 ?r101
    case q101 => intro W hSw; go_simp; try rfl
    try simp only [Act.put, sA, sB, sC]
    refine rl 17 rfl (fun K hK => ?_)
    go_simp
    refine hK.out _ _ (hHeld.setCell (.inl (Nat.le_refl s)) _) (fun hHeld => ?_)
    clear hK K
    try simp only [Act.put, sA, sB, sC]
    refine wpAnyH_done (by kernel_rfl) ?_ _
    clear hHeld q6 f6
    go_wp2_with fail
    go_roundw
    case rel => exact ⟨k + 1, T6, c6, _, by omega, by go_num, Hz.out.1, HF2.out.trans Hz.out.2 (fun _ h => .inl h), HGk.out⟩
    case measure => simp [intOf]; omega
  ·obtain rfl : k = n := by omega
   have e1 : decide ((k : Int) < (k : Int)) = false := decide_eq_false (by omega)
   have HE0 : Hid (E = 0) := by
    show E = 0
    rw [← HE.out, if_pos]
    exact List.all_eq_true.2 fun j hj => Hall.out j (by have := List.mem_range.1 hj; rw [Hlm.out] at this; omega)
   have FW : Hid (Fr (fun j => s ≤ j) w wr) := (F3.out.mono (fun _ h => h.elim)).trans HF.out (fun _ h => .inl h)
   have HFi : Hid (∃ F, RTiersOn wr s lo F (newX nm l now fl) A c B d T ct P ∧ ∀ j, F j → w.heap.size ≤ j) := by
    obtain rfl : l.length = k := Hln.out
    obtain rfl : fl.length = m := Hlm.out
    refine ⟨_, (HP.out.down (Nat.le_trans hlo (Nat.le_of_lt hsw))).done (by rfl) (fun W' f => ?_) (fun W' f => ?_), fun j hj => ?_⟩
    ·exact (Hr.out.fr0 F3.out |>.fr HF.out (fun j hj => by have := Hr.out.adlt (by decide) j hj; omega)).fr f (fun j hj => by have := HlA.out j hj; omega)
    ·exact (Hf0.out.fr0 F3.out |>.fr HF.out (fun j hj => by have := Hf0.out.adlt (by decide) j hj; omega)).fr f (fun j hj => by have := HlB.out j hj; omega)
    ·rcases hj with rfl | hj | hj
     ·omega
     ·have := (HP.out.lt j hj).1; omega
     ·have := (HP.out.row.lt j hj).1; omega
   clear d0 HP HE
   go_wp2_with fail
   go_ret2
   rw [HE0.out]
   obtain ⟨F, q1, q2⟩ := HFi.out
   exact ⟨⟨fun _ => ⟨s, F, T, ct, P, rfl, q1, q2⟩, fun h => absurd rfl h⟩, (F3.out.below (fun _ h => h.elim)).trans (HF.out.below_of F3.out.size (fun _ h => Nat.le_trans (Nat.le_of_lt hsw) h))⟩
end Go.Proofs.YtbblmmneeafhgaaGreat
