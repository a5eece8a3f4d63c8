/- Several states side by side, apart from each other: each call turns one of them. -/
import Derived.Test.YtkfdgodngbinlaaGreatDoorStQ
import Derived.Test.YtkfdgodngbinlaaGreatDoorStRun
import Derived.Test.YtkfdgodngbinlaaGreatDoorStM
namespace Go.Proofs.YtkfdgodngbinlaaGreatDoor
set_option linter.all false
open Go.RowKit

def StsK (W : World) (lo : Nat) (K : Nat → Prop) (L : List (Nat × StX)) (c : Nat) : Prop :=
 ∃ Fs : List (Nat → Prop), Fs.length = L.length ∧ (∀ (i : Nat) (p : Nat × StX) (F : Nat → Prop), L[i]? = some p → Fs[i]? = some F → StGood p.2 c ∧ StOn W p.1 lo p.2 c F) ∧ (∀ (i j : Nat) (F G : Nat → Prop), i ≠ j → Fs[i]? = some F → Fs[j]? = some G → ∀ k, F k → ¬ G k) ∧ (∀ (i : Nat) (F : Nat → Prop), Fs[i]? = some F → ∀ k, F k → ¬ K k) ∧ ∀ k, K k → k < W.heap.size
abbrev Sts (W : World) (lo : Nat) (L : List (Nat × StX)) (c : Nat) : Prop := StsK W lo (fun _ => False) L c
section
variable {W W' : World} {lo : Nat} {K : Nat → Prop} {L : List (Nat × StX)} {c : Nat} {g i : Nat} {Q : StX}
theorem StsK.own (h : StsK W lo K L c) {p : Nat × StX} (hi : L[i]? = some p) : StGood p.2 c ∧ ∃ F, StOn W p.1 lo p.2 c F := by
 obtain ⟨Fs, hl, ho, _⟩ := h
 have hil := (List.getElem?_eq_some_iff.1 hi).1
 have := ho i p _ hi (List.getElem?_eq_getElem (show i < Fs.length by omega))
 exact ⟨this.1, _, this.2⟩
theorem StsK.p (h : StsK W lo K L c) (hi : L[i]? = some (g, Q)) : StP W g lo Q c := (h.own hi).2
theorem StsK.good (h : StsK W lo K L c) (hi : L[i]? = some (g, Q)) : StGood Q c := (h.own hi).1
theorem StsK.fr0 (h : StsK W lo K L c) (f : Fr (fun _ => False) W W') : StsK W' lo K L c := by
 obtain ⟨Fs, hl, ho, hd, h1, h2⟩ := h
 exact ⟨Fs, hl, fun i p F h1 h2 => ⟨(ho i p F h1 h2).1, (ho i p F h1 h2).2.fr0 f⟩, hd, h1, fun k hk => Nat.lt_of_lt_of_le (h2 k hk) f.size⟩
theorem StsK.more (h : StsK W lo K L c) {d : Nat} (hd : c ≤ d) : StsK W lo K L d := by
 obtain ⟨Fs, hl, ho, hp⟩ := h
 exact ⟨Fs, hl, fun i p F h1 h2 => ⟨(ho i p F h1 h2).1.more hd, (ho i p F h1 h2).2.more hd⟩, hp⟩
theorem StsK.lo_le (h : StsK W lo K L c) (hi : L[i]? = some (g, Q)) : lo ≤ W.heap.size := by have := (h.p hi).lt; omega
theorem StsK.keep2 {K' : Nat → Prop} (h : StsK W lo K L c) (f : Fr (fun _ => False) W W') (hK : ∀ k, K' k → K k ∨ (W.heap.size ≤ k ∧ k < W'.heap.size)) : StsK W' lo K' L c := by
 obtain ⟨Fs, hl, ho, hd, hk1, hk2⟩ := h
 refine ⟨Fs, hl, fun i p F h1 h2 => ⟨(ho i p F h1 h2).1, (ho i p F h1 h2).2.fr0 f⟩, hd, fun i F hF k hk hkk => ?_, fun k hk => ?_⟩
 ·have hil := (List.getElem?_eq_some_iff.1 hF).1
  have h1 := ((ho i _ F (List.getElem?_eq_getElem (show i < L.length by omega)) hF).2.ge k hk).2
  rcases hK k hkk with h2 | h2
  ·exact hk1 i F hF k hk h2
  ·omega
 ·rcases hK k hk with h2 | h2
  ·exact Nat.lt_of_lt_of_le (hk2 k h2) f.size
  ·exact h2.2
theorem StsK.keep (h : Sts W lo L c) (f : Fr (fun _ => False) W W') (hK : ∀ k, K k → W.heap.size ≤ k ∧ k < W'.heap.size) : StsK W' lo K L c := StsK.keep2 h f (fun k hk => .inr (hK k hk))
theorem StsK.drop_ (h : StsK W lo K L c) : Sts W lo L c := by
 obtain ⟨Fs, hl, ho, hd, _, _⟩ := h
 exact ⟨Fs, hl, ho, hd, fun _ _ _ _ _ h => h, fun _ h => h.elim⟩
theorem StsK.turnK (h : StsK W lo K L c) (hi : L[i]? = some (g, Q)) : ∃ F, StOn W g lo Q c F ∧ (∀ W' Q' d, c ≤ d → StGood Q' d → StR W g lo Q' d F W' → StsK W' lo K (L.set i (g, Q')) d ∧ Below lo W W' ∧ Fr (fun j => lo ≤ j ∧ ¬ K j) W W') ∧ ∀ j, F j → ¬ K j := by
 have hll := h.lo_le hi
 obtain ⟨Fs, hl, ho, hd, hk1, hk2⟩ := h
 have hil := (List.getElem?_eq_some_iff.1 hi).1
 obtain ⟨F, hF⟩ : ∃ F, Fs[i]? = some F := ⟨_, List.getElem?_eq_getElem (show i < Fs.length by omega)⟩
 have h0 := (ho i _ F hi hF).2
 refine ⟨F, h0, ?_, fun j hj => hk1 i F hF j hj⟩
 rintro W' Q' d hcd hg ⟨⟨F', h1, h2⟩, h3⟩
 refine ⟨⟨Fs.set i F', by rw [List.length_set, List.length_set, hl], fun j p G hp hG => ?_, fun j k G H hjk hG hH x hx hx2 => ?_, fun j G hG x hx hx2 => ?_, fun k hk => Nat.lt_of_lt_of_le (hk2 k hk) h3.size⟩, h3.below_of hll (fun j hj => (h0.ge j hj).1), h3.mono (fun j hj => .inl ⟨(h0.ge j hj).1, hk1 i F hF j hj⟩)⟩
 ·by_cases e : i = j
  ·subst e
   rw [List.getElem?_set_self (by omega)] at hp hG
   cases hp
   cases hG
   exact ⟨hg, h1⟩
  ·rw [List.getElem?_set_ne e] at hp hG
   have := ho j p G hp hG
   exact ⟨this.1.more hcd, (this.2.apart h0 h3 (hd j i G F (fun e' => e e'.symm) hG hF)).more hcd⟩
 ·have hold : ∀ {m : Nat} {K : Nat → Prop}, Fs[m]? = some K → K x → x < W.heap.size := fun {m K} hm hk => by
   have hml := (List.getElem?_eq_some_iff.1 hm).1
   exact ((ho m _ K (List.getElem?_eq_getElem (show m < L.length by omega)) hm).2.ge x hk).2
  by_cases e1 : i = j
  ·subst e1
   rw [List.getElem?_set_self (by omega)] at hG
   cases hG
   rw [List.getElem?_set_ne hjk] at hH
   rcases h2 x hx with h4 | h4
   ·exact hd i k F H hjk hF hH x h4 hx2
   ·have := hold hH hx2; omega
  ·rw [List.getElem?_set_ne e1] at hG
   by_cases e2 : i = k
   ·subst e2
    rw [List.getElem?_set_self (by omega)] at hH
    cases hH
    rcases h2 x hx2 with h4 | h4
    ·exact hd j i G F hjk hG hF x hx h4
    ·have := hold hG hx; omega
   ·rw [List.getElem?_set_ne e2] at hH
    exact hd j k G H hjk hG hH x hx hx2
 ·by_cases e1 : i = j
  ·subst e1
   rw [List.getElem?_set_self (by omega)] at hG
   cases hG
   rcases h2 x hx with h4 | h4
   ·exact hk1 i F hF x h4 hx2
   ·have := hk2 x hx2; omega
  ·rw [List.getElem?_set_ne e1] at hG
   exact hk1 j G hG x hx hx2
theorem StsK.turn (h : StsK W lo K L c) (hi : L[i]? = some (g, Q)) : ∃ F, StOn W g lo Q c F ∧ ∀ W' Q' d, c ≤ d → StGood Q' d → StR W g lo Q' d F W' → StsK W' lo K (L.set i (g, Q')) d ∧ Below lo W W' ∧ Fr (fun j => lo ≤ j ∧ ¬ K j) W W' := by
 obtain ⟨F, h1, h2, _⟩ := h.turnK hi
 exact ⟨F, h1, h2⟩
theorem StsK.push (h : Sts W lo L c) {F : Nat → Prop} (f : Fr (fun _ => False) W W') (hg : StGood Q c) (h1 : StOn W' g lo Q c F) (hF : ∀ j, F j → W.heap.size ≤ j) : Sts W' lo (L ++ [(g, Q)]) c := by
 obtain ⟨Fs0, hl0, ho0, hd0, _, _⟩ := h
 refine ⟨Fs0 ++ [F], by simp [hl0], fun j p G hp hG => ?_, fun j k G H hjk hG hH x hx hx2 => ?_, fun _ _ _ _ _ h => h, fun _ h => h.elim⟩
 ·by_cases e : j < L.length
  ·rw [List.getElem?_append_left e] at hp
   rw [List.getElem?_append_left (by omega)] at hG
   have := ho0 j p G hp hG
   exact ⟨this.1, this.2.fr0 f⟩
  ·have : j = L.length := by
    have := (List.getElem?_eq_some_iff.1 hp).1
    simp at this; omega
   subst this
   rw [List.getElem?_append_right (Nat.le_refl _), Nat.sub_self] at hp
   rw [List.getElem?_append_right (by omega), hl0, Nat.sub_self] at hG
   cases hp
   cases hG
   exact ⟨hg, h1⟩
 ·have hold : ∀ {m : Nat} {K : Nat → Prop}, Fs0[m]? = some K → K x → x < W.heap.size := fun {m K} hm hk => by
   have hml := (List.getElem?_eq_some_iff.1 hm).1
   exact ((ho0 m _ K (List.getElem?_eq_getElem (show m < L.length by omega)) hm).2.ge x hk).2
  have hlast : ∀ {m : Nat} {K : Nat → Prop}, (Fs0 ++ [F])[m]? = some K → ¬ m < Fs0.length → m = Fs0.length ∧ K = F := fun {m K} hm hn => by
   have := (List.getElem?_eq_some_iff.1 hm).1
   simp at this
   have e : m = Fs0.length := by omega
   subst e
   rw [List.getElem?_append_right (Nat.le_refl _), Nat.sub_self] at hm
   cases hm
   exact ⟨rfl, rfl⟩
  by_cases e1 : j < Fs0.length
  ·rw [List.getElem?_append_left e1] at hG
   by_cases e2 : k < Fs0.length
   ·rw [List.getElem?_append_left e2] at hH
    exact hd0 j k G H hjk hG hH x hx hx2
   ·obtain ⟨_, rfl⟩ := hlast hH e2
    have := hold hG hx
    have := hF x hx2
    omega
  ·obtain ⟨e3, rfl⟩ := hlast hG e1
   by_cases e2 : k < Fs0.length
   ·rw [List.getElem?_append_left e2] at hH
    have := hold hH hx2
    have := hF x hx
    omega
   ·obtain ⟨e4, _⟩ := hlast hH e2
    omega
theorem StsK.one {F : Nat → Prop} (hg : StGood Q c) (h : StOn W g lo Q c F) : Sts W lo [(g, Q)] c := by
 refine ⟨[F], rfl, fun j p G hp hG => ?_, fun j k G H hjk hG hH => ?_, fun _ _ _ _ _ h => h, fun _ h => h.elim⟩
 ·have : j = 0 := by
   have := (List.getElem?_eq_some_iff.1 hp).1
   simp at this; omega
  subst this
  cases hp
  cases hG
  exact ⟨hg, h⟩
 ·have h1 := (List.getElem?_eq_some_iff.1 hG).1
  have h2 := (List.getElem?_eq_some_iff.1 hH).1
  simp at h1 h2
  omega
theorem ssk_put (h : StsK W lo K L c) (hi : L[i]? = some (g, Q)) (hc : c + 8 ≤ 1000000) (s : List SampV) (A : Option Addr) (n d : Nat) (hr : Rd W 3 A n (scells s)) (hsw : ∀ x ∈ s, x.wf) (hA : ∀ j, adF A n j → j < lo ∨ K j) :
  Calls Tryz.prog 15 #[.pointer (some ⟨g, 0, none⟩), .slice A n d] W fun r w' => r = .returned (.int .i64 (stPutE Q s)) ∧ StsK w' lo K (L.set i (g, stPut Q s)) (c + 8) ∧ Below lo W w' ∧ Fr (fun j => lo ≤ j ∧ ¬ K j) W w' := by
 obtain ⟨F, ho, ht, hK⟩ := h.turnK hi
 refine (stput_any (h.good hi) hc ho (h.lo_le hi) s A n d hr hsw (fun j hj hF => by
  rcases hA j hj with h1 | h1
  ·have h2 := (ho.ge j hF).1; omega
  ·exact hK j hF h1)).mono ?_
 rintro r w' ⟨rfl, h2⟩
 exact ⟨rfl, ht w' _ _ (by omega) ((h.good hi).put (by omega) s) h2⟩
theorem ssk_tick (h : StsK W lo K L c) (hi : L[i]? = some (g, Q)) (hc : c ≤ 1000000) (n : Int) (hn : i64 n) :
  Calls Tryz.prog 13 #[.pointer (some ⟨g, 0, none⟩), .int .i64 n] W fun r w' => r = .returned (.int .i64 (tickE Q.X n)) ∧ StsK w' lo K (L.set i (g, stTick Q n)) c ∧ Below lo W w' ∧ Fr (fun j => lo ≤ j ∧ ¬ K j) W w' := by
 obtain ⟨F, ho, ht⟩ := h.turn hi
 refine (sttick_any (h.good hi) hc ho n hn).mono ?_
 rintro r w' ⟨rfl, h1, h2⟩
 exact ⟨rfl, ht w' _ _ (Nat.le_refl _) ((h.good hi).tick hc n) ⟨⟨F, h1, fun j hj => .inl hj⟩, h2⟩⟩
theorem StR.more {w w' : World} {g lo : Nat} {Q : StX} {c : Nat} {F : Nat → Prop} (h : StR w g lo Q c F w') {d : Nat} (hd : c ≤ d) : StR w g lo Q d F w' := by
 obtain ⟨⟨F', h1, h2⟩, h3⟩ := h
 exact ⟨⟨F', h1.more hd, h2⟩, h3⟩
theorem ss_new (room : Int) (text : ByteArray) (hs : text.size ≤ 1099511627776) (w : World) (hmx : MaxL w) (lo : Nat) (hlo : lo ≤ w.heap.size) :
  Calls Tryz.prog 12 #[.int .i64 room, .string text] w fun r w' => ((stNewE room (readV text) = 0 → ∃ g, r = .returned (.tuple #[.pointer (some ⟨g, 0, none⟩), .int .i64 0]) ∧ Sts w' lo [(g, stNewQ room (readV text))] 0) ∧ (stNewE room (readV text) ≠ 0 → r = .returned (.tuple #[.pointer none, .int .i64 (stNewE room (readV text))]))) ∧ Below w.heap.size w w' := by
 refine (stnew_any room text hs w hmx lo hlo).mono ?_
 rintro r w' ⟨⟨h1, h2⟩, hb⟩
 refine ⟨⟨fun h => ?_, h2⟩, hb⟩
 obtain ⟨g, F, hr, ho, _⟩ := h1 h
 exact ⟨g, hr, StsK.one (stNew_good h) ho⟩
theorem ss_new2 (h : Sts W lo L c) (hll : lo ≤ W.heap.size) (room : Int) (text : ByteArray) (hs : text.size ≤ 1099511627776) (hmx : MaxL W) :
  Calls Tryz.prog 12 #[.int .i64 room, .string text] W fun r w' => ((stNewE room (readV text) = 0 → ∃ g, r = .returned (.tuple #[.pointer (some ⟨g, 0, none⟩), .int .i64 0]) ∧ Sts w' lo (L ++ [(g, stNewQ room (readV text))]) c) ∧ (stNewE room (readV text) ≠ 0 → r = .returned (.tuple #[.pointer none, .int .i64 (stNewE room (readV text))]))) ∧ Below W.heap.size W w' := by
 refine (stnew_any room text hs W hmx lo hll).mono ?_
 rintro r w' ⟨⟨h1, h2⟩, hb⟩
 refine ⟨⟨fun he => ?_, h2⟩, hb⟩
 obtain ⟨g, F, hr, ho, hF⟩ := h1 he
 exact ⟨g, hr, StsK.push h (Fr.b0 hb) ((stNew_good he).more (Nat.zero_le _)) (ho.more (Nat.zero_le _)) hF⟩
end
end Go.Proofs.YtkfdgodngbinlaaGreatDoor
