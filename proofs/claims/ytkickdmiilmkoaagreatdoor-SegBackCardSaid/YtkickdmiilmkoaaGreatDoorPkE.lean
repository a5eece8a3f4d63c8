/- Walks of package pack: the unpacker's Small, Name, Text. -/
import Derived.Test.YtkickdmiilmkoaaGreatDoorPkD
namespace Go.Proofs.YtkickdmiilmkoaaGreatDoor
open Go.RowKit

theorem Up.c0 {w : World} {g : Nat} {e : Int} {b : List UInt8} (h : Up w g e b) : w.cell? ⟨g, 0, none⟩ = some (.int .i64 e) := h.cell 0
theorem Up.c1 {w : World} {g : Nat} {e : Int} {b : List UInt8} (h : Up w g e b) : w.cell? ⟨g, 1, none⟩ = some (.string (bstr b)) := h.cell 1
theorem Up.fr0 {w w' : World} {g : Nat} {e : Int} {b : List UInt8} (h : Up w g e b) (hf : Fr (fun _ => False) w w') : Up w' g e b := Blk.fr h hf (fun h => h)

/-- What Small reads: the new error, what is left, the number. -/
def uSmall (size : Int) (e : Int) (b : List UInt8) : Int × List UInt8 × Nat :=
  if e = 0 then (if fitsB size 0 = true then ((uTake 0 b size.toNat).1, (uTake 0 b size.toNat).2.1, ofLe (uTake 0 b size.toNat).2.2) else (1, b, 0)) else (e, b, 0)

theorem usmall_err (g : Nat) (e size : Int) (b : List UInt8) (w : World) (h : Up w g e b) (he1 : (e == 0) = false) (he2 : (e != 0) = true) :
    Calls Tryz.prog 48 #[.pointer (some ⟨g, 0, none⟩), .int .i64 size] w fun r w' => r = .returned (.int .i64 0) ∧ ∃ m, w' = w.drewN m := by
  have c0 := h.c0
  go_enter Tryz.func48, Tryz.ntmps48
  go_wp2
  go_quiet ((first | (go_at_call 105; exact quiet_left (fits_any _ _ _)) | (go_at_call 104; exact quiet_left (fail_keep _ _ _ _ c0 he1 he2))))
  go_wp2
  go_ret
  exact ⟨rfl, nq, rfl⟩
theorem usmall_nil (size : Int) (w : World) :
    Calls Tryz.prog 48 #[.pointer none, .int .i64 size] w fun r w' => r = .returned (.int .i64 0) ∧ ∃ m, w' = w.drewN m := by
  go_enter Tryz.func48, Tryz.ntmps48
  go_wp2
  go_quiet (fail)
  go_wp2
  go_ret
  exact ⟨rfl, nq, rfl⟩
set_option maxRecDepth 100000 in
theorem usmall_size (g : Nat) (size : Int) (b : List UInt8) (w : World) (h : Up w g 0 b) (hs : fitsB size 0 = false) :
    Calls Tryz.prog 48 #[.pointer (some ⟨g, 0, none⟩), .int .i64 size] w fun r w' => r = .returned (.int .i64 0) ∧ Up w' g 1 b ∧ Fr (fun k => k = g) w w' := by
  have c0 := h.c0
  have f0 := h.frozen 0
  go_enter Tryz.func48, Tryz.ntmps48
  go_wp2
  go_still_tail 8, (by kernel_rfl)
  still_call (still_left (fits_bad _ _ _ hs))
  repeat still_step
  refine wpStill_nil ?_
  change wpList _ _ _ _ _ w.drew
  go_wp2_with fail
  refine (fail_new _ _ w.drew c0 f0).mono ?_
  rintro r w1 ⟨rfl, rfl⟩
  go_wp2
  go_ret
  have h1 : Up w.drew g 0 b := h
  exact ⟨rfl, h1.setE.1, ((Fr.refl _ w).drew).trans h1.setE.2 (fun _ h => .inl h)⟩

theorem fits_of {size x : Int} (h : fitsB size x = true) : 1 ≤ size ∧ size ≤ 7 ∧ 0 ≤ x ∧ x < 256 ^ size.toNat := of_decide_eq_true h
theorem ofLe_lt8 {l : List UInt8} {k : Nat} (h : l.length ≤ k) (hk : k ≤ 7) : ofLe l < 72057594037927936 := by
  have h1 := ofLe_lt l
  have h2 := Nat.pow_le_pow_right (show 256 > 0 by decide) (Nat.le_trans h hk)
  have h3 : (256 : Nat) ^ 7 = 72057594037927936 := by decide
  omega
set_option maxRecDepth 100000 in
theorem usmall_ok (g : Nat) (size : Int) (b : List UInt8) (w : World) (h : Up w g 0 b) (hs : fitsB size 0 = true) (hb : b.length ≤ 1099511627776) :
    Calls Tryz.prog 48 #[.pointer (some ⟨g, 0, none⟩), .int .i64 size] w fun r w' => r = .returned (.int .i64 (ofLe (uTake 0 b size.toNat).2.2)) ∧ Up w' g (uTake 0 b size.toNat).1 (uTake 0 b size.toNat).2.1 ∧ Fr (fun k => k = g) w w' := by
  have c0 := h.c0
  have f0 := h.frozen 0
  have Hs := Lib.hid hs
  obtain ⟨s1, s7, _, _⟩ := fits_of hs
  have hl := uTake_len 0 b size.toNat
  have hc : ∀ w, Up w g 0 b → Calls Tryz.prog 110 #[.pointer (some ⟨g, 0, none⟩), .int .i64 size] w fun r w' => r = .returned (.string (bstr (uTake 0 b size.toNat).2.2)) ∧ Up w' g (uTake 0 b size.toNat).1 (uTake 0 b size.toNat).2.1 ∧ Fr (fun k => k = g) w w' :=
    fun w hw => take_int g 0 b size w hw hb (by omega) (by omega)
  generalize uTake 0 b size.toNat = t at *
  have hv := ofLe_lt8 hl (by omega)
  have Hc := Lib.hid hc
  have Hl := Lib.hid hl
  clear hc hl hs
  go_enter Tryz.func48, Tryz.ntmps48
  go_wp2
  go_quiet ((first | (go_at_call 105; exact quiet_left (fits_yes _ _ _ Hs.out)) | (go_at_call 104; exact quiet_left (fail_zero _ _ _ c0 f0))))
  go_wp2_with fail
  refine (Hc.out _ (h.fr0 (Fr.none_drewN w nq))).mono ?_
  rintro r w1 ⟨rfl, hu, hf⟩
  have Hf := Lib.hid (((Fr.refl (fun k => k = g) w).drewN nq).trans hf (fun _ h => .inl h))
  clear hf c0 f0
  go_wp2_with fail
  refine (high_any t.2.2 w1 (by have := Hl.out; omega)).mono ?_
  rintro r w2 ⟨rfl, hb2⟩
  have Hb2 := Lib.hid hb2
  clear hb2
  go_wp2
  go_ret
  exact ⟨rfl, hu.fr0 (Fr.of_below Hb2.out), Hf.out.trans (Fr.of_below Hb2.out (F := fun _ => False)) (fun _ h => h.elim)⟩

theorem usmall_any (g : Nat) (e size : Int) (b : List UInt8) (w : World) (h : Up w g e b) (hb : b.length ≤ 1099511627776) :
    Calls Tryz.prog 48 #[.pointer (some ⟨g, 0, none⟩), .int .i64 size] w fun r w' => r = .returned (.int .i64 (uSmall size e b).2.2) ∧ Up w' g (uSmall size e b).1 (uSmall size e b).2.1 ∧ Fr (fun k => k = g) w w' := by
  by_cases he : e = 0
  · subst he
    by_cases hs : fitsB size 0 = true
    · simpa [uSmall, hs] using usmall_ok g size b w h hs hb
    · simpa [uSmall, hs] using usmall_size g size b w h (by simpa using hs)
  · refine (usmall_err g e size b w h (by simpa using he) (by simpa using he)).mono fun r w' ⟨h1, m, h2⟩ => ?_
    subst h2
    simp only [uSmall, if_neg he]
    exact ⟨h1, h.fr0 (Fr.none_drewN w m), (Fr.refl _ w).drewN m⟩

/-- Name: what is read of the sixteen bytes. -/
def allZ (l : List UInt8) : Bool := l.all (· == 0)
def nameOk (t : List UInt8) : Bool := decide ((t.headD 0).toNat ≤ 15) && allZ (t.drop (1 + (t.headD 0).toNat))
def uName (e : Int) (b : List UInt8) : Int × List UInt8 × List UInt8 :=
  if (uTake e b 16).2.2 = [] then ((uTake e b 16).1, (uTake e b 16).2.1, [])
  else if nameOk (uTake e b 16).2.2 = true then ((uTake e b 16).1, (uTake e b 16).2.1, ((uTake e b 16).2.2.drop 1).take ((uTake e b 16).2.2.headD 0).toNat)
  else (6, (uTake e b 16).2.1, [])
theorem dropWhile_nil {l : List UInt8} : l.dropWhile (· == 0) = [] ↔ l.all (· == 0) = true := by
  induction l with
  | nil => simp
  | cons a t ih => by_cases h : a = 0 <;> simp [List.dropWhile_cons, h, ih]
theorem trim_zero (l : List UInt8) : (Lib.trimB l 0 = []) ↔ l.all (· == 0) = true := by
  unfold Lib.trimB Lib.trimLeftB Lib.trimRightB
  rw [dropWhile_nil, List.all_reverse]
  constructor
  · intro h
    by_cases hl : l.reverse.dropWhile (· == 0) = []
    · rw [dropWhile_nil, List.all_reverse] at hl
      exact hl
    · have := List.head_dropWhile_not (p := (· == (0 : UInt8))) hl
      have h2 := List.all_eq_true.1 h _ (List.head_mem hl)
      rw [h2] at this
      cases this
  · intro h
    apply List.all_eq_true.2
    intro x hx
    exact List.all_eq_true.1 h x (List.mem_reverse.1 ((List.dropWhile_sublist _).mem hx))

theorem trim_any (l : List UInt8) (w : World) (h : l.length ≤ 1099511627776) :
    Calls Tryz.prog 137 #[.string (bstr l), .string ⟨#[0]⟩] w fun r w' => ∃ z : ByteArray, r = .returned (.string z) ∧ z.toList.isEmpty = allZ l ∧ Fr (fun _ => False) w w' := by
  refine (Tryz.strings_Trim_one (bstr l) 0 (by decide) w (by rw [bstr_size]; omega)).mono ?_
  rintro r w' ⟨rfl, hw⟩
  refine ⟨_, rfl, ?_, ?_⟩
  · rw [ByteArray.toList_mk, bstr_list, Bool.eq_iff_iff, List.isEmpty_iff, trim_zero]; rfl
  · rcases hw with rfl | rfl
    · exact Fr.refl _ _
    · exact (Fr.refl _ _).drew

set_option maxRecDepth 100000 in
theorem name_any (g : Nat) (e : Int) (b : List UInt8) (w : World) (h : Up w g e b) (hb : b.length ≤ 1099511627776) :
    Calls Tryz.prog 99 #[.pointer (some ⟨g, 0, none⟩)] w fun r w' => r = .returned (.string (bstr (uName e b).2.2)) ∧ Up w' g (uName e b).1 (uName e b).2.1 ∧ Fr (fun k => k = g) w w' := by
  have hc := take_int g e b 16 w h hb (by omega) (by omega)
  rw [show Int.toNat 16 = 16 from rfl] at hc
  have h16 : (uTake e b 16).2.2 = [] ∨ ((uTake e b 16).2.2.length = 16 ∧ (uTake e b 16).1 = 0) := by
    unfold uTake
    split
    · split
      · exact .inl rfl
      · right; simp; omega
    · exact .inl rfl
  unfold uName
  generalize uTake e b 16 = t at *
  have Hc := Lib.hid hc
  clear hc h
  rcases h16 with h16 | ⟨h16, hz⟩
  · rw [if_pos h16]
    rw [h16] at Hc
    have he : (bstr []).toList = [] := by rw [Lib.toList_data, bstr_list]
    go_enter Tryz.func99, Tryz.ntmps99
    go_wp2_with fail
    refine Hc.out.mono ?_
    rintro r w1 ⟨rfl, hu, hf⟩
    go_wp2
    go_ret
    exact ⟨rfl, hu, hf⟩
  · have hne : t.2.2 ≠ [] := by intro h; rw [h] at h16; cases h16
    rw [if_neg hne]
    obtain ⟨e', b', l⟩ := t
    simp only at h16 hz hne Hc ⊢
    subst hz
    obtain ⟨c, tl, rfl⟩ : ∃ c tl, l = c :: tl := List.exists_cons_of_ne_nil hne
    have hrest : ∀ n, n ≤ 15 → (bstr (c :: tl)).extract (1 + n) 16 = bstr (tl.drop n) := by
      intro n hn
      rw [bstr_extract, ← h16, List.take_length, Nat.add_comm, List.drop_succ_cons]
    have hres : ∀ n, n ≤ 15 → (bstr (c :: tl)).extract 1 (1 + n) = bstr (tl.take n) := by
      intro n hn
      rw [bstr_extract, Nat.add_comm, List.take_succ_cons, List.drop_succ_cons, List.drop_zero]
    have hidx : ∀ h : 0 < (bstr (c :: tl)).size, (bstr (c :: tl))[0]'h = c := by intro h; rfl
    have hemp : (bstr (c :: tl)).toList.isEmpty = false := by rw [Lib.toList_data, bstr_list]; rfl
    have hsz : (bstr (c :: tl)).size = 16 := by rw [bstr_size]; exact h16
    have hcb := c.toNat_lt
    generalize bstr (c :: tl) = s at *
    have Hrest := Lib.hid hrest
    have Hres := Lib.hid hres
    have H16 := Lib.hid h16
    clear hrest hres h16 hne
    have hok : nameOk (c :: tl) = (decide (c.toNat ≤ 15) && allZ (tl.drop c.toNat)) := by
      simp only [nameOk, List.headD_cons, Nat.add_comm 1, List.drop_succ_cons]
      rfl
    rw [hok]
    clear hok
    simp only [List.headD_cons, List.drop_succ_cons, List.drop_zero]
    by_cases hn : 15 < c.toNat
    · rw [if_neg (by simp; omega)]
      go_enter Tryz.func99, Tryz.ntmps99
      go_wp2_with fail
      refine Hc.out.mono ?_
      rintro r w1 ⟨rfl, hu, hf⟩
      go_wp2_with fail
      refine (fail_new _ _ w1 hu.c0 (hu.frozen 0)).mono ?_
      rintro r w2 ⟨rfl, rfl⟩
      go_wp2
      go_ret
      exact ⟨rfl, hu.setE.1, hf.trans hu.setE.2 (fun _ h => .inl h)⟩
    · have hn' : c.toNat ≤ 15 := by omega
      have Htl := Lib.hid (show (tl.drop c.toNat).length ≤ 1099511627776 by have := H16.out; simp only [List.length_cons] at this; rw [List.length_drop]; omega)
      by_cases ha : allZ (tl.drop c.toNat) = true
      · rw [if_pos (by simp [hn', ha])]
        have Ha := Lib.hid ha
        clear ha
        go_enter Tryz.func99, Tryz.ntmps99
        go_wp2_with fail
        refine Hc.out.mono ?_
        rintro r w1 ⟨rfl, hu, hf⟩
        go_wp2_with fail
        rw [Hrest.out _ hn']
        refine (trim_any (tl.drop c.toNat) w1 Htl.out).mono ?_
        rintro r w2 ⟨z, rfl, hz, hb2⟩
        rw [Ha.out] at hz
        have Hb2 := Lib.hid hb2
        clear hb2
        go_wp2
        go_ret
        refine ⟨?_, hu.fr0 Hb2.out, hf.trans Hb2.out (fun _ h => h.elim)⟩
        rw [← Hres.out _ hn']
        rfl
      · have ha' : allZ (tl.drop c.toNat) = false := by simpa using ha
        rw [if_neg (by simp [ha'])]
        have Ha := Lib.hid ha'
        clear ha ha'
        go_enter Tryz.func99, Tryz.ntmps99
        go_wp2_with fail
        refine Hc.out.mono ?_
        rintro r w1 ⟨rfl, hu, hf⟩
        go_wp2_with fail
        rw [Hrest.out _ hn']
        refine (trim_any (tl.drop c.toNat) w1 Htl.out).mono ?_
        rintro r w2 ⟨z, rfl, hz, hb2⟩
        rw [Ha.out] at hz
        have hu2 := hu.fr0 hb2
        have Hb2 := Lib.hid hb2
        clear hb2
        go_wp2_with fail
        refine (fail_new _ _ w2 hu2.c0 (hu2.frozen 0)).mono ?_
        rintro r w3 ⟨rfl, rfl⟩
        go_wp2
        go_ret
        exact ⟨rfl, hu2.setE.1, (hf.trans Hb2.out (fun _ h => h.elim)).trans hu2.setE.2 (fun _ h => .inl h)⟩

theorem name_nil (w : World) :
    Calls Tryz.prog 99 #[.pointer none] w fun r w' => r = .returned (.string (bstr [])) ∧ w = w' := by
  have he : (bstr []).toList = [] := by rw [Lib.toList_data, bstr_list]
  go_enter Tryz.func99, Tryz.ntmps99
  go_wp2_with fail
  refine (take_nil 16 w).mono ?_
  rintro r w1 ⟨rfl, rfl⟩
  go_wp2
  go_ret
  exact ⟨rfl, rfl⟩
/-- What Text reads. -/
def uText (e : Int) (b : List UInt8) : Int × List UInt8 × List UInt8 :=
  if e = 0 then (if b.length < 2 then (5, b, []) else if b.length - 2 < ofLe (b.take 2) then (5, b, []) else (0, b.drop (2 + ofLe (b.take 2)), (b.drop 2).take (ofLe (b.take 2)))) else (e, b, [])

def UInv (g : Nat) (b : List UInt8) (w w' : World) : Prop := Up w' g 0 b ∧ Fr (fun _ => False) w w'
theorem UInv.start {g : Nat} {b : List UInt8} {w : World} (h : Up w g 0 b) : UInv g b w w.drew := ⟨h, (Fr.refl _ w).drew⟩
theorem uhigh {g : Nat} {b : List UInt8} {w : World} (l : List UInt8) (w' : World) (hl : l.length ≤ 8) (h : w'.cell? ⟨g, 1, none⟩ = some (.string (bstr b)) ∧ UInv g b w w') :
    Calls Tryz.prog 109 #[.string (bstr l)] w' fun r w'' => r = .returned (.int .u64 (ofLe l)) ∧ (w''.cell? ⟨g, 1, none⟩ = some (.string (bstr b)) ∧ UInv g b w w'') :=
  (high_any l w' hl).mono fun _ _ ⟨h1, h2⟩ => ⟨h1, (h.2.1.fr0 (Fr.of_below h2)).c1, h.2.1.fr0 (Fr.of_below h2), h.2.2.trans (Fr.of_below h2 (F := fun _ => False)) (fun _ h => .inl h)⟩

end Go.Proofs.YtkickdmiilmkoaaGreatDoor
