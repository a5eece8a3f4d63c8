/- Walks of package pack: the unpacker's Small, Name, Text. -/
import Derived.Test.YtomofnmlhjpifaaDoorPkD
namespace Go.Proofs.YtomofnmlhjpifaaDoor
open Go.RowKit

theorem Up.c0 {w : World} {g : Nat} {e : Int} {b : List UInt8} (h : Up w g e b) : w.cell? ⟨g, 0, none⟩ = some (.int .i64 e) := h.cell 0
theorem Up.c1 {w : World} {g : Nat} {e : Int} {b : List UInt8} (h : Up w g e b) : w.cell? ⟨g, 1, none⟩ = some (.string (bstr b)) := h.cell 1
theorem Up.fr0 {w w' : World} {g : Nat} {e : Int} {b : List UInt8} (h : Up w g e b) (hf : Fr (fun _ => False) w w') : Up w' g e b := Blk.fr h hf (fun h => h)

/-- What Small reads: the new error, what is left, the number. -/
def uSmall (size : Int) (e : Int) (b : List UInt8) : Int × List UInt8 × Nat :=
  if e = 0 then (if fitsB size 0 = true then ((uTake 0 b size.toNat).1, (uTake 0 b size.toNat).2.1, ofLe (uTake 0 b size.toNat).2.2) else (1, b, 0)) else (e, b, 0)

theorem usmall_err (g : Nat) (e size : Int) (b : List UInt8) (w : World) (h : Up w g e b) (he1 : (e == 0) = false) (he2 : (e != 0) = true) :
    Calls Tryd.prog 15 #[.pointer (some ⟨g, 0, none⟩), .int .i64 size] w fun r w' => r = .returned (.int .i64 0) ∧ ∃ m, w' = w.drewN m := by
  have c0 := h.c0
  go_enter Tryd.func15, Tryd.ntmps15
  go_wp2
  go_quiet ((first | (go_at_call 35; exact quiet_left (fits_any _ _ _)) | (go_at_call 34; exact quiet_left (fail_keep _ _ _ _ c0 he1 he2))))
  go_wp2
  go_ret
  exact ⟨rfl, nq, rfl⟩
theorem usmall_nil (size : Int) (w : World) :
    Calls Tryd.prog 15 #[.pointer none, .int .i64 size] w fun r w' => r = .returned (.int .i64 0) ∧ ∃ m, w' = w.drewN m := by
  go_enter Tryd.func15, Tryd.ntmps15
  go_wp2
  go_quiet (fail)
  go_wp2
  go_ret
  exact ⟨rfl, nq, rfl⟩
set_option maxRecDepth 100000 in
theorem usmall_size (g : Nat) (size : Int) (b : List UInt8) (w : World) (h : Up w g 0 b) (hs : fitsB size 0 = false) :
    Calls Tryd.prog 15 #[.pointer (some ⟨g, 0, none⟩), .int .i64 size] w fun r w' => r = .returned (.int .i64 0) ∧ Up w' g 1 b ∧ Fr (fun k => k = g) w w' := by
  have c0 := h.c0
  have f0 := h.frozen 0
  go_enter Tryd.func15, Tryd.ntmps15
  go_wp2
  go_still_tail 8, (by kernel_rfl)
  still_call (still_left (fits_bad _ _ _ hs))
  repeat still_step
  refine wpStill_nil ?_
  change wpList _ _ _ _ _ w.drew
  go_wp2_with fail
  refine (fail_new _ _ w.drew c0 f0).mono ?_
  rintro r w1 ⟨rfl, rfl⟩
  go_wp2
  go_ret
  have h1 : Up w.drew g 0 b := h
  exact ⟨rfl, h1.setE.1, ((Fr.refl _ w).drew).trans h1.setE.2 (fun _ h => .inl h)⟩

theorem fits_of {size x : Int} (h : fitsB size x = true) : 1 ≤ size ∧ size ≤ 7 ∧ 0 ≤ x ∧ x < 256 ^ size.toNat := of_decide_eq_true h
theorem ofLe_lt8 {l : List UInt8} {k : Nat} (h : l.length ≤ k) (hk : k ≤ 7) : ofLe l < 72057594037927936 := by
  have h1 := ofLe_lt l
  have h2 := Nat.pow_le_pow_right (show 256 > 0 by decide) (Nat.le_trans h hk)
  have h3 : (256 : Nat) ^ 7 = 72057594037927936 := by decide
  omega
set_option maxRecDepth 100000 in
theorem usmall_ok (g : Nat) (size : Int) (b : List UInt8) (w : World) (h : Up w g 0 b) (hs : fitsB size 0 = true) (hb : b.length ≤ 1099511627776) :
    Calls Tryd.prog 15 #[.pointer (some ⟨g, 0, none⟩), .int .i64 size] w fun r w' => r = .returned (.int .i64 (ofLe (uTake 0 b size.toNat).2.2)) ∧ Up w' g (uTake 0 b size.toNat).1 (uTake 0 b size.toNat).2.1 ∧ Fr (fun k => k = g) w w' := by
  have c0 := h.c0
  have f0 := h.frozen 0
  have Hs := Lib.hid hs
  obtain ⟨s1, s7, _, _⟩ := fits_of hs
  have hl := uTake_len 0 b size.toNat
  have hc : ∀ w, Up w g 0 b → Calls Tryd.prog 39 #[.pointer (some ⟨g, 0, none⟩), .int .i64 size] w fun r w' => r = .returned (.string (bstr (uTake 0 b size.toNat).2.2)) ∧ Up w' g (uTake 0 b size.toNat).1 (uTake 0 b size.toNat).2.1 ∧ Fr (fun k => k = g) w w' :=
    fun w hw => take_int g 0 b size w hw hb (by omega) (by omega)
  generalize uTake 0 b size.toNat = t at *
  have hv := ofLe_lt8 hl (by omega)
  have Hc := Lib.hid hc
  have Hl := Lib.hid hl
  clear hc hl hs
  go_enter Tryd.func15, Tryd.ntmps15
  go_wp2
  go_quiet ((first | (go_at_call 35; exact quiet_left (fits_yes _ _ _ Hs.out)) | (go_at_call 34; exact quiet_left (fail_zero _ _ _ c0 f0))))
  go_wp2_with fail
  refine (Hc.out _ (h.fr0 (Fr.none_drewN w nq))).mono ?_
  rintro r w1 ⟨rfl, hu, hf⟩
  have Hf := Lib.hid (((Fr.refl (fun k => k = g) w).drewN nq).trans hf (fun _ h => .inl h))
  clear hf c0 f0
  go_wp2_with fail
  refine (high_any t.2.2 w1 (by have := Hl.out; omega)).mono ?_
  rintro r w2 ⟨rfl, hb2⟩
  have Hb2 := Lib.hid hb2
  clear hb2
  go_wp2
  go_ret
  exact ⟨rfl, hu.fr0 (Fr.of_below Hb2.out), Hf.out.trans (Fr.of_below Hb2.out (F := fun _ => False)) (fun _ h => h.elim)⟩

theorem usmall_any (g : Nat) (e size : Int) (b : List UInt8) (w : World) (h : Up w g e b) (hb : b.length ≤ 1099511627776) :
    Calls Tryd.prog 15 #[.pointer (some ⟨g, 0, none⟩), .int .i64 size] w fun r w' => r = .returned (.int .i64 (uSmall size e b).2.2) ∧ Up w' g (uSmall size e b).1 (uSmall size e b).2.1 ∧ Fr (fun k => k = g) w w' := by
  by_cases he : e = 0
  · subst he
    by_cases hs : fitsB size 0 = true
    · simpa [uSmall, hs] using usmall_ok g size b w h hs hb
    · simpa [uSmall, hs] using usmall_size g size b w h (by simpa using hs)
  · refine (usmall_err g e size b w h (by simpa using he) (by simpa using he)).mono fun r w' ⟨h1, m, h2⟩ => ?_
    subst h2
    simp only [uSmall, if_neg he]
    exact ⟨h1, h.fr0 (Fr.none_drewN w m), (Fr.refl _ w).drewN m⟩

/-- Name: what is read of the sixteen bytes. -/
def allZ (l : List UInt8) : Bool := l.all (· == 0)
def nameOk (t : List UInt8) : Bool := decide ((t.headD 0).toNat ≤ 15) && allZ (t.drop (1 + (t.headD 0).toNat))
def uName (e : Int) (b : List UInt8) : Int × List UInt8 × List UInt8 :=
  if (uTake e b 16).2.2 = [] then ((uTake e b 16).1, (uTake e b 16).2.1, [])
  else if nameOk (uTake e b 16).2.2 = true then ((uTake e b 16).1, (uTake e b 16).2.1, ((uTake e b 16).2.2.drop 1).take ((uTake e b 16).2.2.headD 0).toNat)
  else (6, (uTake e b 16).2.1, [])
theorem dropWhile_nil {l : List UInt8} : l.dropWhile (· == 0) = [] ↔ l.all (· == 0) = true := by
  induction l with
  | nil => simp
  | cons a t ih => by_cases h : a = 0 <;> simp [List.dropWhile_cons, h, ih]
theorem trim_zero (l : List UInt8) : (Lib.trimB l 0 = []) ↔ l.all (· == 0) = true := by
  unfold Lib.trimB Lib.trimLeftB Lib.trimRightB
  rw [dropWhile_nil, List.all_reverse]
  constructor
  · intro h
    by_cases hl : l.reverse.dropWhile (· == 0) = []
    · rw [dropWhile_nil, List.all_reverse] at hl
      exact hl
    · have := List.head_dropWhile_not (p := (· == (0 : UInt8))) hl
      have h2 := List.all_eq_true.1 h _ (List.head_mem hl)
      rw [h2] at this
      cases this
  · intro h
    apply List.all_eq_true.2
    intro x hx
    exact List.all_eq_true.1 h x (List.mem_reverse.1 ((List.dropWhile_sublist _).mem hx))

theorem trim_any (l : List UInt8) (w : World) (h : l.length ≤ 1099511627776) :
    Calls Tryd.prog 43 #[.string (bstr l), .string ⟨#[0]⟩] w fun r w' => ∃ z : ByteArray, r = .returned (.string z) ∧ z.toList.isEmpty = allZ l ∧ Fr (fun _ => False) w w' := by
  refine (Tryd.strings_Trim_one (bstr l) 0 (by decide) w (by rw [bstr_size]; omega)).mono ?_
  rintro r w' ⟨rfl, hw⟩
  refine ⟨_, rfl, ?_, ?_⟩
  · rw [ByteArray.toList_mk, bstr_list, Bool.eq_iff_iff, List.isEmpty_iff, trim_zero]; rfl
  · rcases hw with rfl | rfl
    · exact Fr.refl _ _
    · exact (Fr.refl _ _).drew

set_option maxRecDepth 100000 in
theorem name_any (g : Nat) (e : Int) (b : List UInt8) (w : World) (h : Up w g e b) (hb : b.length ≤ 1099511627776) :
    Calls Tryd.prog 27 #[.pointer (some ⟨g, 0, none⟩)] w fun r w' => r = .returned (.string (bstr (uName e b).2.2)) ∧ Up w' g (uName e b).1 (uName e b).2.1 ∧ Fr (fun k => k = g) w w' := by
  have hc := take_int g e b 16 w h hb (by omega) (by omega)
  rw [show Int.toNat 16 = 16 from rfl] at hc
  have h16 : (uTake e b 16).2.2 = [] ∨ ((uTake e b 16).2.2.length = 16 ∧ (uTake e b 16).1 = 0) := by
    unfold uTake
    split
    · split
      · exact .inl rfl
      · right; simp; omega
    · exact .inl rfl
  unfold uName
  generalize uTake e b 16 = t at *
  have Hc := Lib.hid hc
  clear hc h
  rcases h16 with h16 | ⟨h16, hz⟩
  · rw [if_pos h16]
    rw [h16] at Hc
    have he : (bstr []).toList = [] := by rw [Lib.toList_data, bstr_list]
    go_enter Tryd.func27, Tryd.ntmps27
    go_wp2_with fail
    refine Hc.out.mono ?_
    rintro r w1 ⟨rfl, hu, hf⟩
    go_wp2
    go_ret
    exact ⟨rfl, hu, hf⟩
  · have hne : t.2.2 ≠ [] := by intro h; rw [h] at h16; cases h16
    rw [if_neg hne]
    obtain ⟨e', b', l⟩ := t
    simp only at h16 hz hne Hc ⊢
    subst hz
    obtain ⟨c, tl, rfl⟩ : ∃ c tl, l = c :: tl := List.exists_cons_of_ne_nil hne
    have hrest : ∀ n, n ≤ 15 → (bstr (c :: tl)).extract (1 + n) 16 = bstr (tl.drop n) := by
      intro n hn
      rw [bstr_extract, ← h16, List.take_length, Nat.add_comm, List.drop_succ_cons]
    have hres : ∀ n, n ≤ 15 → (bstr (c :: tl)).extract 1 (1 + n) = bstr (tl.take n) := by
      intro n hn
      rw [bstr_extract, Nat.add_comm, List.take_succ_cons, List.drop_succ_cons, List.drop_zero]
    have hidx : ∀ h : 0 < (bstr (c :: tl)).size, (bstr (c :: tl))[0]'h = c := by intro h; rfl
    have hemp : (bstr (c :: tl)).toList.isEmpty = false := by rw [Lib.toList_data, bstr_list]; rfl
    have hsz : (bstr (c :: tl)).size = 16 := by rw [bstr_size]; exact h16
    have hcb := c.toNat_lt
    generalize bstr (c :: tl) = s at *
    have Hrest := Lib.hid hrest
    have Hres := Lib.hid hres
    have H16 := Lib.hid h16
    clear hrest hres h16 hne
    have hok : nameOk (c :: tl) = (decide (c.toNat ≤ 15) && allZ (tl.drop c.toNat)) := by
      simp only [nameOk, List.headD_cons, Nat.add_comm 1, List.drop_succ_cons]
      rfl
    rw [hok]
    clear hok
    simp only [List.headD_cons, List.drop_succ_cons, List.drop_zero]
    by_cases hn : 15 < c.toNat
    · rw [if_neg (by simp; omega)]
      go_enter Tryd.func27, Tryd.ntmps27
      go_wp2_with fail
      refine Hc.out.mono ?_
      rintro r w1 ⟨rfl, hu, hf⟩
      go_wp2_with fail
      refine (fail_new _ _ w1 hu.c0 (hu.frozen 0)).mono ?_
      rintro r w2 ⟨rfl, rfl⟩
      go_wp2
      go_ret
      exact ⟨rfl, hu.setE.1, hf.trans hu.setE.2 (fun _ h => .inl h)⟩
    · have hn' : c.toNat ≤ 15 := by omega
      have Htl := Lib.hid (show (tl.drop c.toNat).length ≤ 1099511627776 by have := H16.out; simp only [List.length_cons] at this; rw [List.length_drop]; omega)
      by_cases ha : allZ (tl.drop c.toNat) = true
      · rw [if_pos (by simp [hn', ha])]
        have Ha := Lib.hid ha
        clear ha
        go_enter Tryd.func27, Tryd.ntmps27
        go_wp2_with fail
        refine Hc.out.mono ?_
        rintro r w1 ⟨rfl, hu, hf⟩
        go_wp2_with fail
        rw [Hrest.out _ hn']
        refine (trim_any (tl.drop c.toNat) w1 Htl.out).mono ?_
        rintro r w2 ⟨z, rfl, hz, hb2⟩
        rw [Ha.out] at hz
        have Hb2 := Lib.hid hb2
        clear hb2
        go_wp2
        go_ret
        refine ⟨?_, hu.fr0 Hb2.out, hf.trans Hb2.out (fun _ h => h.elim)⟩
        rw [← Hres.out _ hn']
        rfl
      · have ha' : allZ (tl.drop c.toNat) = false := by simpa using ha
        rw [if_neg (by simp [ha'])]
        have Ha := Lib.hid ha'
        clear ha ha'
        go_enter Tryd.func27, Tryd.ntmps27
        go_wp2_with fail
        refine Hc.out.mono ?_
        rintro r w1 ⟨rfl, hu, hf⟩
        go_wp2_with fail
        rw [Hrest.out _ hn']
        refine (trim_any (tl.drop c.toNat) w1 Htl.out).mono ?_
        rintro r w2 ⟨z, rfl, hz, hb2⟩
        rw [Ha.out] at hz
        have hu2 := hu.fr0 hb2
        have Hb2 := Lib.hid hb2
        clear hb2
        go_wp2_with fail
        refine (fail_new _ _ w2 hu2.c0 (hu2.frozen 0)).mono ?_
        rintro r w3 ⟨rfl, rfl⟩
        go_wp2
        go_ret
        exact ⟨rfl, hu2.setE.1, (hf.trans Hb2.out (fun _ h => h.elim)).trans hu2.setE.2 (fun _ h => .inl h)⟩

theorem name_nil (w : World) :
    Calls Tryd.prog 27 #[.pointer none] w fun r w' => r = .returned (.string (bstr [])) ∧ w = w' := by
  have he : (bstr []).toList = [] := by rw [Lib.toList_data, bstr_list]
  go_enter Tryd.func27, Tryd.ntmps27
  go_wp2_with fail
  refine (take_nil 16 w).mono ?_
  rintro r w1 ⟨rfl, rfl⟩
  go_wp2
  go_ret
  exact ⟨rfl, rfl⟩
theorem text_nil (w : World) :
    Calls Tryd.prog 31 #[.pointer none] w fun r w' => r = .returned (.string (bstr [])) ∧ w = w' := by
  go_enter Tryd.func31, Tryd.ntmps31
  go_wp2
  go_ret
  exact ⟨rfl, rfl⟩

/-- What Text reads. -/
def uText (e : Int) (b : List UInt8) : Int × List UInt8 × List UInt8 :=
  if e = 0 then (if b.length < 2 then (5, b, []) else if b.length - 2 < ofLe (b.take 2) then (5, b, []) else (0, b.drop (2 + ofLe (b.take 2)), (b.drop 2).take (ofLe (b.take 2)))) else (e, b, [])

def UInv (g : Nat) (b : List UInt8) (w w' : World) : Prop := Up w' g 0 b ∧ Fr (fun _ => False) w w'
theorem UInv.start {g : Nat} {b : List UInt8} {w : World} (h : Up w g 0 b) : UInv g b w w.drew := ⟨h, (Fr.refl _ w).drew⟩
theorem uhigh {g : Nat} {b : List UInt8} {w : World} (l : List UInt8) (w' : World) (hl : l.length ≤ 8) (h : w'.cell? ⟨g, 1, none⟩ = some (.string (bstr b)) ∧ UInv g b w w') :
    Calls Tryd.prog 38 #[.string (bstr l)] w' fun r w'' => r = .returned (.int .u64 (ofLe l)) ∧ (w''.cell? ⟨g, 1, none⟩ = some (.string (bstr b)) ∧ UInv g b w w'') :=
  (high_any l w' hl).mono fun _ _ ⟨h1, h2⟩ => ⟨h1, (h.2.1.fr0 (Fr.of_below h2)).c1, h.2.1.fr0 (Fr.of_below h2), h.2.2.trans (Fr.of_below h2 (F := fun _ => False)) (fun _ h => .inl h)⟩

set_option maxRecDepth 100000 in
theorem utext_any (g : Nat) (e : Int) (b : List UInt8) (w : World) (h : Up w g e b) (hb : b.length ≤ 1099511627776) :
    Calls Tryd.prog 31 #[.pointer (some ⟨g, 0, none⟩)] w fun r w' => r = .returned (.string (bstr (uText e b).2.2)) ∧ Up w' g (uText e b).1 (uText e b).2.1 ∧ Fr (fun k => k = g) w w' := by
  have c0 := h.c0
  have c1 := h.c1
  have f0 := h.frozen 0
  by_cases he : e = 0
  · subst he
    unfold uText
    rw [if_pos rfl]
    have hz := bstr_size b
    have hsz : (bstr b).size ≤ 1099511627776 := by omega
    by_cases h2 : b.length < 2
    · rw [if_pos h2]
      have h2' : ((bstr b).size : Int) < 2 := by omega
      have hd : decide (((bstr b).size : Int) < 2) = true := by simpa using h2'
      clear hz h2
      go_enter Tryd.func31, Tryd.ntmps31
      go_wp2
      go_quiet (fail)
      go_wp2_with fail
      refine (fail_new _ _ (w.drewN nq) c0 f0).mono ?_
      rintro r w2 ⟨rfl, rfl⟩
      go_wp2
      go_ret
      have h3 : Up (w.drewN nq) g 0 b := h
      exact ⟨rfl, h3.setE.1, ((Fr.refl _ w).drewN nq).trans h3.setE.2 (fun _ h => .inl h)⟩
    · rw [if_neg h2]
      have h2' : 2 ≤ (bstr b).size := by omega
      have hd : decide (((bstr b).size : Int) < 2) = false := by simp; omega
      have e1 : (bstr b).extract 0 2 = bstr (b.take 2) := by rw [bstr_extract]; simp
      have hl2 : (b.take 2).length = 2 := by rw [List.length_take]; omega
      have hv := ofLe_lt (b.take 2)
      rw [hl2] at hv
      have hv2 : ofLe (b.take 2) < 65536 := by have : (256 : Nat) ^ 2 = 65536 := by decide
                                               omega
      have h2i : (2 : Int) ≤ ((bstr b).size : Int) := by omega
      have hhigh : ∀ (w w' : World), (w'.cell? ⟨g, 1, none⟩ = some (.string (bstr b)) ∧ UInv g b w w') → Calls Tryd.prog 38 #[.string ((bstr b).extract 0 2)] w' fun r w'' => r = .returned (.int .u64 (ofLe (b.take 2))) ∧ (w''.cell? ⟨g, 1, none⟩ = some (.string (bstr b)) ∧ UInv g b w w'') := by
        intro w w' hi
        rw [e1]
        exact uhigh (b.take 2) w' (by omega) hi
      have Hh := Lib.hid hhigh
      have hsm : uSmall 2 0 b = (0, b.drop 2, ofLe (b.take 2)) := by
        simp only [uSmall, if_true, if_pos (show fitsB 2 0 = true by decide), show Int.toNat 2 = 2 from rfl, uTake, if_neg h2]
      have Hsm := Lib.hid hsm
      have Hz := Lib.hid hz
      have Hhb := Lib.hid hb
      clear e1 hl2 h2 hv hhigh hsm
      by_cases hlt : b.length - 2 < ofLe (b.take 2)
      · rw [if_pos hlt]
        generalize ofLe (b.take 2) = v at *
        have hlt' : ((bstr b).size : Int) - 2 < (v : Int) := by omega
        have hw1 : IntKind.i64.wrap (((bstr b).size : Int) - 2) = ((bstr b).size : Int) - 2 := IntWalk.i64_in _ (by omega)
        have hw2 : IntKind.i64.wrap (v : Int) = v := IntWalk.i64_in _ (by omega)
        clear hlt hz hb
        go_enter Tryd.func31, Tryd.ntmps31
        go_wp2
        go_region_held3 (fun w' => w'.cell? ⟨g, 1, none⟩ = some (.string (bstr b)) ∧ UInv g b w w') (first | exact ⟨c1, UInv.start h⟩ | assumption) (first | (go_at_call 38; refine (Hh.out w _ (by assumption)).mono ?_; rintro r w1 ⟨rfl, hb1⟩))
        have Hw := Lib.hid hb1.2
        clear hb1 hw1 hw2 c1 c0 f0
        go_wp2_with fail
        refine (fail_new _ _ w1 Hw.out.1.c0 (Hw.out.1.frozen 0)).mono ?_
        rintro r w4 ⟨rfl, rfl⟩
        go_wp2
        go_ret
        exact ⟨rfl, Hw.out.1.setE.1, (Hw.out.2.mono (G := fun k => k = g) (fun _ h => h.elim)).trans Hw.out.1.setE.2 (fun _ h => .inl h)⟩
      · rw [if_neg hlt]
        generalize hv3 : ofLe (b.take 2) = v at *
        have hlt' : (v : Int) ≤ ((bstr b).size : Int) - 2 := by omega
        have Hlt := Lib.hid hlt
        have Hv := Lib.hid hv3
        have hw1 : IntKind.i64.wrap (((bstr b).size : Int) - 2) = ((bstr b).size : Int) - 2 := IntWalk.i64_in _ (by omega)
        have hw2 : IntKind.i64.wrap (v : Int) = v := IntWalk.i64_in _ (by omega)
        clear hlt hz hb hv3
        go_enter Tryd.func31, Tryd.ntmps31
        go_wp2
        go_region_held3 (fun w' => w'.cell? ⟨g, 1, none⟩ = some (.string (bstr b)) ∧ UInv g b w w') (first | exact ⟨c1, UInv.start h⟩ | assumption) (first | (go_at_call 38; refine (Hh.out w _ (by assumption)).mono ?_; rintro r w1 ⟨rfl, hb1⟩))
        have Hw := Lib.hid hb1.2
        clear hb1 hw1 hw2 c1 c0 f0
        go_wp2_with fail
        refine (usmall_any g 0 2 b w1 Hw.out.1 Hhb.out).mono ?_
        rw [Hsm.out]
        rintro r w4 ⟨rfl, hu4, hf4⟩
        have Hf4 := Lib.hid hf4
        clear hf4
        go_wp2_with fail
        refine (take_any g 0 (b.drop 2) v w4 hu4 (by have := Hhb.out; rw [List.length_drop]; omega) (by omega)).mono ?_
        rw [show uTake 0 (b.drop 2) v = (0, (b.drop 2).drop v, (b.drop 2).take v) by simp only [uTake, if_true]; rw [if_neg]; have := Hlt.out; rw [List.length_drop]; exact this]
        rintro r w5 ⟨rfl, hu5, hf5⟩
        have Hf5 := Lib.hid hf5
        clear hf5
        go_wp2
        go_ret
        rw [List.drop_drop] at hu5
        exact ⟨rfl, hu5, ((Hw.out.2.mono (G := fun k => k = g) (fun _ h => h.elim)).trans Hf4.out (fun _ h => .inl h)).trans Hf5.out (fun _ h => .inl h)⟩
  · have he1 : (e == 0) = false := by simpa using he
    have he2 : (e != 0) = true := by simpa using he
    unfold uText
    rw [if_neg he]
    clear he
    go_enter Tryd.func31, Tryd.ntmps31
    go_wp2
    go_ret
    exact ⟨rfl, h, Fr.refl _ _⟩
end Go.Proofs.YtomofnmlhjpifaaDoor
