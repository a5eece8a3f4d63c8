/- Walks of package pack: From, take, high, Int, Word, Small, Bad, Left, Rest. -/
import Derived.Test.YtkickdmiilmkoaaGreatDoorPkC
import Derived.Test.YtkickdmiilmkoaaGreatDoorShelf
import Derived.Laws.BitsAllLaws
namespace Go.Proofs.YtkickdmiilmkoaaGreatDoor
open Go.RowKit

/-- A text of bytes. -/
def bstr (l : List UInt8) : ByteArray := ⟨l.toArray⟩
theorem bstr_size (l : List UInt8) : (bstr l).size = l.length := by simp [bstr, ByteArray.size]
theorem bstr_list (l : List UInt8) : (bstr l).data.toList = l := by simp [bstr]
theorem bstr_of (s : ByteArray) : s = bstr s.data.toList := by simp [bstr]
theorem bstr_extract (l : List UInt8) (i j : Nat) : (bstr l).extract i j = bstr ((l.take j).drop i) := by
  apply ByteArray.ext
  simp [bstr, List.drop_take]

/-- An unpacker: its block g; the first error e, what is left b. -/
def Up (w : World) (g : Nat) (e : Int) (b : List UInt8) : Prop := Blk w g 148 #[.int .i64 e, .string (bstr b)]

theorem clone_any (l : List UInt8) (w : World) (h : l.length ≤ 1099511627776) :
    Calls Tryz.prog 108 #[.string (bstr l)] w fun r w' => r = .returned (.string (bstr l)) ∧ Below w.heap.size w w' := by
  have hs : (bstr l).size ≤ 281474976710656 := by rw [bstr_size]; omega
  have Hs := Lib.hid hs
  clear hs h
  go_enter Tryz.func108, Tryz.ntmps108
  go_wp2_with fail
  refine (Tryz.stringslite_Clone _ _ Hs.out).mono ?_
  rintro r w1 ⟨rfl, hb⟩
  have Hb := Lib.hid hb
  clear hb
  go_wp2
  go_ret
  exact ⟨rfl, Hb.out⟩

theorem from_any (l : List UInt8) (w : World) (h : l.length ≤ 1099511627776) :
    Calls Tryz.prog 47 #[.string (bstr l)] w fun r w' => ∃ g, r = .returned (.pointer (some ⟨g, 0, none⟩)) ∧ Up w' g 0 l ∧ Below w.heap.size w w' ∧ w.heap.size ≤ g := by
  go_enter Tryz.func47, Tryz.ntmps47
  go_wp2_with fail
  refine (clone_any l _ h).mono ?_
  rintro r w1 ⟨rfl, hb⟩
  have Hb := Lib.hid hb
  clear hb
  go_wp2
  go_ret
  exact ⟨w1.heap.size, rfl, Blk.new _ _ _, Hb.out.alloc Hb.out.size _, Hb.out.size⟩

def uTake (e : Int) (b : List UInt8) (n : Nat) : Int × List UInt8 × List UInt8 :=
  if e = 0 then (if b.length < n then (5, b, []) else (0, b.drop n, b.take n)) else (e, b, [])
theorem Up.setE {w : World} {g : Nat} {e e' : Int} {b : List UInt8} (h : Up w g e b) : Up (w.setCell ⟨g, 0, none⟩ (.int .i64 e')) g e' b ∧ Fr (fun k => k = g) w (w.setCell ⟨g, 0, none⟩ (.int .i64 e')) :=
  ⟨h.set_ 0 _, (Fr.refl (fun k => k = g) w).setCell (p := ⟨g, 0, none⟩) (.inl rfl) _⟩
theorem Up.setB {w : World} {g : Nat} {e : Int} {b b' : List UInt8} (h : Up w g e b) : Up (w.setCell ⟨g, 1, none⟩ (.string (bstr b'))) g e b' ∧ Fr (fun k => k = g) w (w.setCell ⟨g, 1, none⟩ (.string (bstr b'))) :=
  ⟨h.set_ 1 _, (Fr.refl (fun k => k = g) w).setCell (p := ⟨g, 1, none⟩) (.inl rfl) _⟩

set_option maxRecDepth 100000 in
theorem take_any (g : Nat) (e : Int) (b : List UInt8) (n : Nat) (w : World) (h : Up w g e b) (hb : b.length ≤ 1099511627776) (hn : n ≤ 1099511627776) :
    Calls Tryz.prog 110 #[.pointer (some ⟨g, 0, none⟩), .int .i64 n] w fun r w' => r = .returned (.string (bstr (uTake e b n).2.2)) ∧ Up w' g (uTake e b n).1 (uTake e b n).2.1 ∧ Fr (fun k => k = g) w w' := by
  have c0 := h.cell 0
  have c1 := h.cell 1
  have f0 := h.frozen 0
  have f1 := h.frozen 1
  simp only [List.getElem?_toArray, List.getElem?_cons_succ, List.getElem?_cons_zero] at c0 c1
  have hsz := bstr_size b
  by_cases he : e = 0
  · subst he
    by_cases hl : b.length < n
    · have hl' : (bstr b).size < n := by omega
      have Hz := Lib.hid hsz
      clear hsz
      go_enter Tryz.func110, Tryz.ntmps110
      go_wp2_with fail
      refine (fail_new _ _ w c0 f0).mono ?_
      rintro r w1 ⟨rfl, rfl⟩
      go_wp2
      go_ret
      simp only [uTake, if_true, if_pos hl]
      exact ⟨rfl, h.setE⟩
    · have hl' : n ≤ (bstr b).size := by omega
      have hb' : (bstr b).size ≤ 1099511627776 := by omega
      have Hz := Lib.hid hsz
      clear hsz
      go_enter Tryz.func110, Tryz.ntmps110
      go_wp2
      go_ret
      simp only [uTake, if_true, if_neg hl]
      have e1 : (bstr b).extract 0 n = bstr (b.take n) := by rw [bstr_extract]; simp
      have e2 : (bstr b).extract n (bstr b).size = bstr (b.drop n) := by rw [bstr_extract, List.take_of_length_le (by rw [Hz.out]; exact Nat.le_refl _)]
      rw [e1, e2]
      exact ⟨rfl, h.setB⟩
  · have he1 : (e == 0) = false := by simpa using he
    have he2 : (e != 0) = true := by simpa using he
    have He := Lib.hid he
    clear he hsz
    go_enter Tryz.func110, Tryz.ntmps110
    go_wp2
    go_ret
    simp only [uTake, if_neg He.out]
    exact ⟨rfl, h, Fr.refl _ _⟩

theorem take_int (g : Nat) (e : Int) (b : List UInt8) (n : Int) (w : World) (h : Up w g e b) (hb : b.length ≤ 1099511627776) (h0 : 0 ≤ n) (hn : n ≤ 1099511627776) :
    Calls Tryz.prog 110 #[.pointer (some ⟨g, 0, none⟩), .int .i64 n] w fun r w' => r = .returned (.string (bstr (uTake e b n.toNat).2.2)) ∧ Up w' g (uTake e b n.toNat).1 (uTake e b n.toNat).2.1 ∧ Fr (fun k => k = g) w w' := by
  obtain ⟨m, rfl⟩ := Int.eq_ofNat_of_zero_le h0
  exact take_any g e b m w h hb (by omega)
theorem take_nil (n : Int) (w : World) :
    Calls Tryz.prog 110 #[.pointer none, .int .i64 n] w fun r w' => r = .returned (.string (bstr [])) ∧ w = w' := by
  go_enter Tryz.func110, Tryz.ntmps110
  go_wp2
  go_ret
  exact ⟨rfl, rfl⟩

/-- The number of bytes, the lowest first. -/
def ofLe : List UInt8 → Nat
  | [] => 0
  | b :: t => b.toNat + 256 * ofLe t
theorem ofLe_le (x k : Nat) : ofLe (le x k) = x % 256 ^ k := by
  induction k generalizing x with
  | zero => simp [le, ofLe, Nat.mod_one]
  | succ k ih =>
    rw [le, ofLe, ih, Nat.pow_succ, Nat.mul_comm (256 ^ k) 256, Nat.mod_mul]
    simp
theorem ofLe_lt (l : List UInt8) : ofLe l < 256 ^ l.length := by
  induction l with
  | nil => simp [ofLe]
  | cons b t ih =>
    have := b.toNat_lt
    rw [ofLe, List.length_cons, Nat.pow_succ]
    omega
theorem le_ofLe (l : List UInt8) : le (ofLe l) l.length = l := by
  induction l with
  | nil => rfl
  | cons b t ih =>
    have h := b.toNat_lt
    rw [ofLe, List.length_cons, le, show (b.toNat + 256 * ofLe t) / 256 = ofLe t by omega, ih]
    congr 1
    apply UInt8.toNat_inj.1
    simp
theorem ofLe_snoc (l : List UInt8) (b : UInt8) : ofLe (l ++ [b]) = ofLe l + b.toNat * 256 ^ l.length := by
  induction l with
  | nil => simp [ofLe]
  | cons c t ih =>
    rw [List.cons_append, ofLe, ih, ofLe, List.length_cons, Nat.pow_succ, Nat.mul_add, Nat.mul_comm (256 ^ t.length) 256]
    rw [Nat.mul_left_comm, Nat.add_assoc]

theorem or_byte {k v x : Nat} (hk : k < 8) (hv : v < 256 ^ k) (hx : x < 256) : bits .or .u64 (v : Int) (IntKind.u64.wrap ((x : Int) * 2 ^ (8 * k))) = ((v + x * 256 ^ k : Nat) : Int) := by
  have e1 : ((x : Int) * 2 ^ (8 * k)) = ((x * 256 ^ k : Nat) : Int) := by
    rw [pow_bytes]; simp
  have h1 : 256 ^ (k + 1) ≤ 256 ^ 8 := Nat.pow_le_pow_right (by decide) (by omega)
  have h2 : (256 : Nat) ^ 8 = 18446744073709551616 := by decide
  have h3 : (x + 1) * 256 ^ k ≤ 256 * 256 ^ k := Nat.mul_le_mul_right _ (by omega)
  have h4 : 256 * 256 ^ k = 256 ^ (k + 1) := by rw [Nat.pow_succ, Nat.mul_comm]
  have h5 : (x + 1) * 256 ^ k = x * 256 ^ k + 256 ^ k := by rw [Nat.add_mul, Nat.one_mul]
  have h6 : x * 256 ^ k < 18446744073709551616 := by omega
  rw [e1, IntKind.wrap_u64, show (((x * 256 ^ k : Nat) : Int) % 18446744073709551616) = ((x * 256 ^ k : Nat) : Int) by omega, u64_or_nat _ _ (by omega) h6]
  congr 1
  have e2 : x * 256 ^ k = 2 ^ (8 * k) * x := by rw [Nat.pow_mul, Nat.mul_comm]
  rw [e2, Nat.or_comm, ← Nat.two_pow_add_eq_or_of_lt (by rw [Nat.pow_mul]; exact hv) x, Nat.add_comm]

set_option maxRecDepth 100000 in
theorem high_any (b : List UInt8) (w : World) (hb : b.length ≤ 8) :
    Calls Tryz.prog 109 #[.string (bstr b)] w fun r w' => r = .returned (.int .u64 (ofLe b)) ∧ Below w.heap.size w w' := by
  obtain ⟨c, w1, hcv, hfr, hrd⟩ := run_bytes_of (P := Tryz.prog) (w := w) 9 85 5 Tryz.underlying9 Tryz.underlying85 Tryz.underlying5 (bstr b)
  rw [bstr_list] at hrd
  have hz := bstr_size b
  generalize hn : (bstr b).size = n at *
  have Hn := Lib.hid hn
  have Hz := Lib.hid hz
  have hn8 : n ≤ 8 := by omega
  clear hn hz
  go_enter Tryz.func109, Tryz.ntmps109
  go_wp2
  go_loop [3, 9] (fun v i => ∃ k : Nat, k ≤ n ∧ i = .int .i64 k ∧ v = .int .u64 (ofLe (b.take k))) (fun _ i => n - (intOf i).toNat)
  case atStart => exact ⟨0, Nat.zero_le _, rfl, rfl⟩
  case round =>
    obtain ⟨k, hk, rfl, rfl⟩ := hrel
    by_cases hlt : k < n
    · obtain ⟨ad, x, hA, hu, hc⟩ := hrd.at_map hlt
      injection hA with hA
      subst hA
      have Hu := Lib.hid hu
      have hx := x.toNat_lt
      clear hu
      rw [add_lit, Nat.zero_add] at hc
      have hvl := ofLe_lt (b.take k)
      generalize hv : ofLe (b.take k) = v at *
      have Hv := Lib.hid hv
      have Hvl := Lib.hid hvl
      clear hv hvl
      go_wp2
      go_round
      case rel => exact ⟨k + 1, by omega, by go_num, by rw [or_byte (by omega) (by have := Hvl.out; rwa [List.length_take, Nat.min_eq_left (by have := Hn.out; have := Hz.out; omega)] at this) hx, take_snoc Hu.out, ofLe_snoc, Hv.out, List.length_take, Nat.min_eq_left (by have := Hn.out; have := Hz.out; omega)]⟩
      case measure => simp [intOf]; omega
    · go_wp2
      go_ret
      rw [List.take_of_length_le (by have := Hn.out; have := Hz.out; omega)]
      exact ⟨rfl, hfr.below (fun _ h => h.elim)⟩

theorem left_any (g : Nat) (e : Int) (b : List UInt8) (w : World) (h : Up w g e b) :
    Calls Tryz.prog 112 #[.pointer (some ⟨g, 0, none⟩)] w fun r w' => r = .returned (.int .i64 b.length) ∧ w = w' := by
  have c1 := h.cell 1
  simp only [List.getElem?_toArray, List.getElem?_cons_succ, List.getElem?_cons_zero] at c1
  have hz := Lib.hid (bstr_size b)
  go_enter Tryz.func112, Tryz.ntmps112
  go_wp2
  go_ret
  exact ⟨ret_int (by rw [hz.out]), rfl⟩
theorem left_nil (w : World) :
    Calls Tryz.prog 112 #[.pointer none] w fun r w' => r = .returned (.int .i64 0) ∧ w = w' := by
  go_enter Tryz.func112, Tryz.ntmps112
  go_wp2
  go_ret
  exact ⟨rfl, rfl⟩
theorem uTake_len (e : Int) (b : List UInt8) (n : Nat) : (uTake e b n).2.2.length ≤ n := by
  unfold uTake
  split
  · split <;> simp <;> omega
  · simp

theorem word_any (g : Nat) (e : Int) (b : List UInt8) (w : World) (h : Up w g e b) (hb : b.length ≤ 1099511627776) :
    Calls Tryz.prog 111 #[.pointer (some ⟨g, 0, none⟩)] w fun r w' => r = .returned (.int .u64 (ofLe (uTake e b 8).2.2)) ∧ Up w' g (uTake e b 8).1 (uTake e b 8).2.1 ∧ Fr (fun k => k = g) w w' := by
  have hl := uTake_len e b 8
  have hc := take_int g e b 8 w h hb (by omega) (by omega)
  rw [show Int.toNat 8 = 8 from rfl] at hc
  generalize uTake e b 8 = t at *
  have Hl := Lib.hid hl
  have Hc := Lib.hid hc
  clear hl hc h
  go_enter Tryz.func111, Tryz.ntmps111
  go_wp2_with fail
  refine Hc.out.mono ?_
  rintro r w1 ⟨rfl, hu, hf⟩
  go_wp2_with fail
  refine (high_any t.2.2 w1 Hl.out).mono ?_
  rintro r w2 ⟨rfl, hb2⟩
  have Hb2 := Lib.hid hb2
  clear hb2
  go_wp2
  go_ret
  exact ⟨rfl, Blk.fr hu (Fr.of_below Hb2.out (F := fun _ => False)) (fun h => h), hf.trans (Fr.of_below Hb2.out (F := fun _ => False)) (fun _ h => h.elim)⟩
theorem word_nil (w : World) :
    Calls Tryz.prog 111 #[.pointer none] w fun r w' => r = .returned (.int .u64 0) ∧ Below w.heap.size w w' := by
  go_enter Tryz.func111, Tryz.ntmps111
  go_wp2_with fail
  refine (take_nil 8 w).mono ?_
  rintro r w1 ⟨rfl, rfl⟩
  go_wp2_with fail
  refine (high_any [] w (by simp)).mono ?_
  rintro r w2 ⟨rfl, hb2⟩
  have Hb2 := Lib.hid hb2
  clear hb2
  go_wp2
  go_ret
  exact ⟨rfl, Hb2.out⟩

/-- A number of 64 bits as an int. -/
def sgn (n : Nat) : Int := if n < 9223372036854775808 then n else (n : Int) - 18446744073709551616
theorem wrap_sgn (n : Nat) (h : n < 18446744073709551616) : IntKind.i64.wrap (n : Int) = sgn n := by
  rw [IntKind.wrap_i64]
  unfold sgn
  split <;> omega

theorem int_any (g : Nat) (e : Int) (b : List UInt8) (w : World) (h : Up w g e b) (hb : b.length ≤ 1099511627776) :
    Calls Tryz.prog 49 #[.pointer (some ⟨g, 0, none⟩)] w fun r w' => r = .returned (.int .i64 (sgn (ofLe (uTake e b 8).2.2))) ∧ Up w' g (uTake e b 8).1 (uTake e b 8).2.1 ∧ Fr (fun k => k = g) w w' := by
  have hl := uTake_len e b 8
  have hc := word_any g e b w h hb
  generalize uTake e b 8 = t at *
  have hv := ofLe_lt t.2.2
  have hp := Nat.pow_le_pow_right (show 256 > 0 by decide) hl
  have hv2 : ofLe t.2.2 < 18446744073709551616 := by have : (256 : Nat) ^ 8 = 18446744073709551616 := by decide
                                                     omega
  have Hv := Lib.hid hv2
  have Hc := Lib.hid hc
  clear hl hv hp hv2 hc h
  go_enter Tryz.func49, Tryz.ntmps49
  go_wp2_with fail
  refine Hc.out.mono ?_
  rintro r w1 ⟨rfl, hu, hf⟩
  go_wp2
  go_ret
  exact ⟨ret_int ((IntWalk.i64_left _).symm.trans (wrap_sgn _ Hv.out)), hu, hf⟩
theorem int_nil (w : World) :
    Calls Tryz.prog 49 #[.pointer none] w fun r w' => r = .returned (.int .i64 0) ∧ Below w.heap.size w w' := by
  go_enter Tryz.func49, Tryz.ntmps49
  go_wp2_with fail
  refine (word_nil w).mono ?_
  rintro r w1 ⟨rfl, hf⟩
  have Hf := Lib.hid hf
  clear hf
  go_wp2
  go_ret
  exact ⟨rfl, Hf.out⟩
theorem rest_any (g : Nat) (e : Int) (b : List UInt8) (w : World) (h : Up w g e b) (hb : b.length ≤ 1099511627776) :
    Calls Tryz.prog 50 #[.pointer (some ⟨g, 0, none⟩)] w fun r w' => r = .returned (.string (bstr (uTake e b b.length).2.2)) ∧ Up w' g (uTake e b b.length).1 (uTake e b b.length).2.1 ∧ Fr (fun k => k = g) w w' := by
  go_enter Tryz.func50, Tryz.ntmps50
  go_wp2_with fail
  refine (left_any g e b w h).mono ?_
  rintro r w1 ⟨rfl, rfl⟩
  go_wp2_with fail
  refine (take_any g e b b.length w h hb hb).mono ?_
  rintro r w1 ⟨rfl, hu, hf⟩
  go_wp2
  go_ret
  exact ⟨rfl, hu, hf⟩
theorem rest_nil (w : World) :
    Calls Tryz.prog 50 #[.pointer none] w fun r w' => r = .returned (.string (bstr [])) ∧ w = w' := by
  go_enter Tryz.func50, Tryz.ntmps50
  go_wp2_with fail
  refine (left_nil w).mono ?_
  rintro r w1 ⟨rfl, rfl⟩
  go_wp2_with fail
  refine (take_nil 0 w).mono ?_
  rintro r w1 ⟨rfl, rfl⟩
  go_wp2
  go_ret
  exact ⟨rfl, rfl⟩
end Go.Proofs.YtkickdmiilmkoaaGreatDoor
