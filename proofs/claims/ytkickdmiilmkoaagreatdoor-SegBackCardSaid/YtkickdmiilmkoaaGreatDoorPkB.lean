/- Walks of package pack: Ints, Small, Names, Text, Fill, Len, Done. -/
import Derived.Test.YtkickdmiilmkoaaGreatDoorPkA
namespace Go.Proofs.YtkickdmiilmkoaaGreatDoor
open Go.RowKit

/-- What is put behind l where no error stands. -/
def pW (e : Int) (l m : List UInt8) : List UInt8 := if e = 0 then l ++ m else l
theorem pW_zero (l m : List UInt8) : pW 0 l m = l ++ m := rfl
theorem pW_nil (e : Int) (l : List UInt8) : pW e l [] = l := by unfold pW; split <;> simp
theorem pW_pW (e : Int) (l a b : List UInt8) : pW e (pW e l a) b = pW e l (a ++ b) := by unfold pW; split <;> simp
theorem pW_len (e : Int) (l m : List UInt8) : (pW e l m).length ≤ l.length + m.length := by unfold pW; split <;> simp

theorem words_any (g : Nat) (F : Nat → Prop) (e : Int) (l : List UInt8) (vs : List Int) (A : Option Addr) (n c : Nat) (w : World) (h : Pk w g F e l)
    (hr : Rd w 1 A n (vs.map (Value.int .u64))) (hA : ∀ k, adF A n k → ¬ F k) (hv : ∀ x ∈ vs, 0 ≤ x) (hn : l.length + 8 * n ≤ 1099511627776) :
    Calls Tryz.prog 107 #[.pointer (some ⟨g, 0, none⟩), .slice A n c] w fun r w' => r = .returned (.tuple #[]) ∧ ∃ F', Pk w' g F' e (pW e l (vs.flatMap fun x => le x.toNat 8)) ∧ Mv F F' w w' := by
  by_cases he : e = 0
  · subst he
    exact words_ok g F l vs A n c w h hr hA hv hn
  · refine (words_err g F e l A n c w h (by simpa using he)).mono fun r w' ⟨h1, h2⟩ => ⟨h1, F, ?_, h2 ▸ Mv.refl _ _⟩
    subst h2
    simpa [pW, he] using h

/-- A number of 64 bits as a Nat. -/
def u64 (x : Int) : Nat := (x % 18446744073709551616).toNat
def le8 (l : List Int) : List UInt8 := l.flatMap fun x => le (u64 x) 8
theorem le8_append (a b : List Int) : le8 (a ++ b) = le8 a ++ le8 b := by simp [le8]
theorem le8_len (l : List Int) : (le8 l).length = 8 * l.length := by
  induction l with
  | nil => simp [le8]
  | cons a t ih => simp only [le8, List.flatMap_cons, List.length_append, le_length, List.length_cons] at ih ⊢; omega

theorem ints_any (g : Nat) (F : Nat → Prop) (e : Int) (l : List UInt8) (vs : List Int) (A : Option Addr) (n c : Nat) (w : World) (h : Pk w g F e l)
    (hr : Rd w 1 A n (vs.map (Value.int .i64))) (hA : ∀ k, adF A n k → ¬ F k) (hn : l.length + 8 * n ≤ 1099511627776) :
    Calls Tryz.prog 42 #[.pointer (some ⟨g, 0, none⟩), .slice A n c] w fun r w' => r = .returned (.tuple #[]) ∧ ∃ F', Pk w' g F' e (pW e l (le8 vs)) ∧ Mv F F' w w' := by
  have hn' : n ≤ 1099511627776 := by omega
  have Hn := Lib.hid hn
  have HA := Lib.hid hA
  clear hn hA
  go_enter Tryz.func42, Tryz.ntmps42
  go_wp2
  go_loopw [8] (fun i wr => ∃ (k : Nat) (F' : Nat → Prop), k ≤ n ∧ i = .int .i64 k ∧ Pk wr g F' e (pW e l (le8 (vs.take k))) ∧ Mv F F' w wr) (fun i _ => n - (intOf i).toNat)
  case atStart => exact ⟨0, F, Nat.zero_le _, rfl, by simpa [le8, pW_nil] using h, Mv.refl _ _⟩
  case round =>
    obtain ⟨k, F', hk, rfl, hp, hm⟩ := hrel
    by_cases hlt : k < n
    · have hr' := hr.fr hm.fr HA.out
      obtain ⟨ad, x, rfl, hu, hc⟩ := hr'.at_map hlt
      clear hr'
      have Hu := Lib.hid hu
      clear hu
      go_wp2_with fail
      have hp0 := hp.fr (Fr.none_alloc wr (.cells #[.int .u64 (IntKind.u64.wrap x)] 59)) (fun _ _ h => h)
      refine (words_any g F' e _ [IntKind.u64.wrap x] _ 1 1 _ hp0 (Rd.new _ _ _ _ rfl) (adF_new hp.lt) ?_ ?_).mono ?_
      · rw [IntKind.wrap_u64]; simp; omega
      · have := Hn.out; have := hr.len_map; have := pW_len e l (le8 (vs.take k)); simp only [le8_len, List.length_take] at this; omega
      rintro r w1 ⟨rfl, F1, hp1, hm1⟩
      rw [pW_pW] at hp1
      clear hp hp0 hc
      go_wp2
      go_roundw
      case rel => exact ⟨k + 1, F1, by omega, by go_num, by rw [take_snoc Hu.out, le8_append]; simpa [le8, u64, IntKind.wrap_u64] using hp1, hm.trans ((Mv.none_alloc _ _ _).trans hm1)⟩
      case measure => simp [intOf]; omega
    · go_wp2
      go_end0
      rw [take_all (by have := hr.len_map; omega)] at hp
      exact ⟨rfl, F', hp, hm⟩

/-- What Small does, where the size is fine and no error stands. -/
def smallGo (size : Int) (l : List UInt8) : List Int → Int × List UInt8
  | [] => (0, l)
  | v :: vs => if fitsB size v = true then smallGo size (l ++ le v.toNat size.toNat) vs else (1, l)
def pSmall (size e : Int) (l : List UInt8) (vs : List Int) : Int × List UInt8 :=
  if e = 0 then (if fitsB size 0 = true then smallGo size l vs else (1, l)) else (e, l)

theorem Pk.f0 {w : World} {g : Nat} {F : Nat → Prop} {e : Int} {l : List UInt8} (h : Pk w g F e l) : w.frozen? ⟨g, 0, none⟩ = false := by
  obtain ⟨A, m, c, hb, ho, rfl⟩ := h
  exact hb.frozen 0
theorem Pk.setE {w : World} {g : Nat} {F : Nat → Prop} {e e' : Int} {l : List UInt8} (h : Pk w g F e l) : Pk (w.setCell ⟨g, 0, none⟩ (.int .i64 e')) g F e' l ∧ Mv F F w (w.setCell ⟨g, 0, none⟩ (.int .i64 e')) := by
  obtain ⟨A, m, c, hb, ho, rfl⟩ := h
  have hne := own_blk_ne ho hb (by decide)
  have hs : Fr (fun k => k = g) w (w.setCell ⟨g, 0, none⟩ (.int .i64 e')) := (Fr.refl (fun k => k = g) w).setCell (p := ⟨g, 0, none⟩) (.inl rfl) _
  exact ⟨⟨A, m, c, hb.set_ 0 _, own_fr ho hs (fun k hk hg => hne (hg ▸ hk)), rfl⟩, hs.mono (fun i hi => .inl (.inl hi)), fun k hk => .inl hk⟩

theorem small_err (g : Nat) (F : Nat → Prop) (e size : Int) (l : List UInt8) (A : Option Addr) (n c : Nat) (w : World) (h : Pk w g F e l) (he : (e == 0) = false) (he' : (e != 0) = true) :
    Calls Tryz.prog 41 #[.pointer (some ⟨g, 0, none⟩), .int .i64 size, .slice A n c] w fun r w' => r = .returned (.tuple #[]) ∧ ∃ m, w' = w.drewN m := by
  have c0 := h.c0
  go_enter Tryz.func41, Tryz.ntmps41
  go_wp2
  go_quiet ((first | (go_at_call 105; exact quiet_left (fits_any _ _ _)) | (go_at_call 104; exact quiet_left (fail_keep _ _ _ _ c0 he he'))))
  go_wp2
  exact bodyPost_ret (results_none rfl _ _ _) rfl ⟨rfl, nq, rfl⟩
theorem small_nil (size : Int) (A : Option Addr) (n c : Nat) (w : World) :
    Calls Tryz.prog 41 #[.pointer none, .int .i64 size, .slice A n c] w fun r w' => r = .returned (.tuple #[]) ∧ ∃ m, w' = w.drewN m := by
  go_enter Tryz.func41, Tryz.ntmps41
  go_wp2
  go_quiet (fail)
  go_wp2
  exact bodyPost_ret (results_none rfl _ _ _) rfl ⟨rfl, nq, rfl⟩
set_option maxRecDepth 100000 in
theorem small_size (g : Nat) (F : Nat → Prop) (size : Int) (l : List UInt8) (A : Option Addr) (n c : Nat) (w : World) (h : Pk w g F 0 l) (hs : fitsB size 0 = false) :
    Calls Tryz.prog 41 #[.pointer (some ⟨g, 0, none⟩), .int .i64 size, .slice A n c] w fun r w' => r = .returned (.tuple #[]) ∧ ∃ F', Pk w' g F' 1 l ∧ Mv F F' w w' := by
  have c0 := h.c0
  have f0 := h.f0
  go_enter Tryz.func41, Tryz.ntmps41
  go_wp2
  go_still_tail 8, (by kernel_rfl)
  still_call (still_left (fits_any _ _ _))
  repeat still_step
  refine wpStill_nil ?_
  rw [hs]
  clear hs
  change wpList _ _ _ _ _ w.drew
  go_wp2_with fail
  refine (fail_new _ _ w.drew c0 f0).mono ?_
  rintro r w1 ⟨rfl, rfl⟩
  go_wp2
  refine bodyPost_ret (results_none rfl _ _ _) rfl ⟨rfl, F, ?_⟩
  have := h.fr (Fr.none_drewN w 1) (fun _ _ h => h)
  exact ⟨(Pk.setE this).1, (Mv.of_none F (Fr.none_drewN w 1)).trans (Pk.setE this).2⟩

theorem smallGo_len (size : Int) (l : List UInt8) (vs : List Int) : (smallGo size l vs).2.length ≤ l.length + 7 * vs.length := by
  induction vs generalizing l with
  | nil => simp [smallGo]
  | cons v vs ih =>
    simp only [smallGo]
    split
    · rename_i h
      have h2 := of_decide_eq_true h
      have := ih (l ++ le v.toNat size.toNat)
      simp only [List.length_append, le_length, List.length_cons] at this ⊢
      omega
    · simp only [List.length_cons]; omega

theorem fits_lt {size x : Int} (h : fitsB size x = true) : x < 18446744073709551616 := by
  obtain ⟨h1, h2, h3, h4⟩ := of_decide_eq_true h
  have h5 : (256 : Int) ^ size.toNat ≤ 256 ^ 7 := by
    have h6 : (256 : Nat) ^ size.toNat ≤ 256 ^ 7 := Nat.pow_le_pow_right (by decide) (by omega)
    have h7 := Int.ofNat_le.2 h6
    rw [Int.natCast_pow, Int.natCast_pow] at h7
    exact h7
  have h6 : (256 : Int) ^ 7 = 72057594037927936 := by decide
  omega
theorem wrap_small {x : Int} (h : x < 18446744073709551616) (h0 : 0 ≤ x) : IntKind.u64.wrap x = x := by
  rw [IntKind.wrap_u64]; omega

set_option maxRecDepth 100000 in
theorem small_ok (g : Nat) (F : Nat → Prop) (size : Int) (l : List UInt8) (vs : List Int) (A : Option Addr) (n c : Nat) (w : World) (h : Pk w g F 0 l) (hs : fitsB size 0 = true)
    (hr : Rd w 1 A n (vs.map (Value.int .i64))) (hA : ∀ k, adF A n k → ¬ F k) (hn : l.length + 8 * n ≤ 1099511627776) :
    Calls Tryz.prog 41 #[.pointer (some ⟨g, 0, none⟩), .int .i64 size, .slice A n c] w fun r w' => r = .returned (.tuple #[]) ∧ ∃ F', Pk w' g F' (smallGo size l vs).1 (smallGo size l vs).2 ∧ Mv F F' w w' := by
  have c0 := h.c0
  have f0 := h.f0
  have hn' : n ≤ 1099511627776 := by omega
  have Hn := Lib.hid hn
  have HA := Lib.hid hA
  have Hs := Lib.hid hs
  clear hn hA hs
  go_enter Tryz.func41, Tryz.ntmps41
  go_wp2
  go_quiet ((first | (go_at_call 105; exact quiet_left (fits_yes _ _ _ Hs.out)) | (go_at_call 104; exact quiet_left (fail_zero _ _ _ c0 f0))))
  have h0 := h.fr (Fr.none_drewN w nq) (fun _ _ h => h)
  have hr0 := hr.drewN nq
  generalize hw0 : w.drewN nq = w0 at *
  go_wp2
  go_loopw [20] (fun i wr => ∃ (k : Nat) (F' : Nat → Prop) (lk : List UInt8), k ≤ n ∧ i = .int .i64 k ∧ Pk wr g F' 0 lk ∧ Mv F F' w wr ∧ Hid (smallGo size l vs = smallGo size lk (vs.drop k)) ∧ Hid (lk.length ≤ l.length + 7 * k)) (fun i _ => n - (intOf i).toNat)
  case atStart => exact ⟨0, F, l, Nat.zero_le _, rfl, h0, Mv.of_none F (hw0 ▸ Fr.none_drewN w nq), by simp [Hid], by simp [Hid]⟩
  case round =>
    clear hw0 c0 f0
    obtain ⟨k, F', lk, hk, rfl, hp, hm, hgo, hlen⟩ := hrel
    have c1 := hp.c0
    have f1 := hp.f0
    by_cases hlt : k < n
    · have hr' := hr.fr hm.fr HA.out
      obtain ⟨ad, x, rfl, hu, hc⟩ := hr'.at_map hlt
      clear hr'
      have hdrop : vs.drop k = x :: vs.drop (k + 1) := by
        rw [List.drop_eq_getElem?_toList_append, hu]; rfl
      have Hd := Lib.hid hdrop
      have hz := hr.len_map
      have Hz := Lib.hid hz
      clear hu hdrop hz
      by_cases hx : fitsB size x = true
      · have Hx := Lib.hid hx
        have hx0 : 0 ≤ x := (of_decide_eq_true hx).2.2.1
        have hs0 : 0 ≤ size := by have := (of_decide_eq_true hx).1; omega
        have hs7 : size ≤ 7 := (of_decide_eq_true hx).2.1
        clear hx
        go_wp2
        go_quiet ((first | (go_at_call 105; exact quiet_left (fits_yes _ _ _ Hx.out)) | (go_at_call 104; exact quiet_left (fail_zero _ _ _ c1 f1))))
        go_wp2_with fail
        refine (low_int g F' 0 lk (IntKind.u64.wrap x) size _ (hp.fr (Fr.none_drewN wr nq) (fun _ _ h => h)) (by rw [wrap_small (fits_lt Hx.out) hx0]; exact hx0) hs0 ?_).mono ?_
        · have := Hn.out; have := hlen.out; omega
        rintro r w1 ⟨rfl, F1, hp1, hm1⟩
        rw [wrap_small (fits_lt Hx.out) hx0] at hp1
        clear hp hc c1 f1
        go_wp2
        go_roundw
        case rel =>
          refine ⟨k + 1, F1, _, by omega, by go_num, hp1, hm.trans ((Mv.of_none F' (Fr.none_drewN wr nq)).trans hm1), ?_, ?_⟩
          · show smallGo size l vs = _
            rw [hgo.out, Hd.out]
            simp only [smallGo, Hx.out, if_true]
          · have := hlen.out
            show List.length _ ≤ _
            simp only [List.length_append, le_length]; omega
        case measure => simp [intOf]; omega
      · have Hx := Lib.hid (show fitsB size x = false by simpa using hx)
        clear hx
        go_wp2
        go_still_tail 6, (by kernel_rfl)
        still_call (still_left (fits_bad _ _ _ Hx.out))
        repeat still_step
        refine wpStill_nil ?_
        change wpList _ _ _ _ _ wr.drew
        go_wp2_with fail
        refine (fail_new _ _ wr.drew c1 f1).mono ?_
        rintro r w1 ⟨rfl, rfl⟩
        go_wp2
        have h3 := hp.fr (Fr.none_drewN wr 1) (fun _ _ h => h)
        refine bodyPost_ret (results_none rfl _ _ _) rfl ⟨rfl, F', ?_⟩
        rw [hgo.out, Hd.out]
        simp only [smallGo, Hx.out, Bool.false_eq_true, if_false]
        exact ⟨(Pk.setE h3).1, hm.trans ((Mv.of_none F' (Fr.none_drewN wr 1)).trans (Pk.setE h3).2)⟩
    · go_wp2
      go_end0
      have hz := hr.len_map
      rw [hgo.out, List.drop_eq_nil_of_le (by omega)]
      exact ⟨rfl, F', hp, hm⟩

theorem small_any (g : Nat) (F : Nat → Prop) (e size : Int) (l : List UInt8) (vs : List Int) (A : Option Addr) (n c : Nat) (w : World) (h : Pk w g F e l)
    (hr : Rd w 1 A n (vs.map (Value.int .i64))) (hA : ∀ k, adF A n k → ¬ F k) (hn : l.length + 8 * n ≤ 1099511627776) :
    Calls Tryz.prog 41 #[.pointer (some ⟨g, 0, none⟩), .int .i64 size, .slice A n c] w fun r w' => r = .returned (.tuple #[]) ∧ ∃ F', Pk w' g F' (pSmall size e l vs).1 (pSmall size e l vs).2 ∧ Mv F F' w w' := by
  by_cases he : e = 0
  · subst he
    by_cases hs : fitsB size 0 = true
    · simpa [pSmall, hs] using small_ok g F size l vs A n c w h hs hr hA hn
    · simpa [pSmall, hs] using small_size g F size l A n c w h (by simpa using hs)
  · refine (small_err g F e size l A n c w h (by simpa using he) (by simpa using he)).mono fun r w' ⟨h1, m, h2⟩ => ⟨h1, F, ?_, ?_⟩
    · subst h2
      simpa [pSmall, he] using h.fr (Fr.none_drewN w m) (fun _ _ h => h)
    · subst h2
      exact Mv.of_none F (Fr.none_drewN w m)
end Go.Proofs.YtkickdmiilmkoaaGreatDoor
