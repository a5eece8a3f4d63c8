/- Walks of the small functions of package pack: fits, fail, low, Words, Ints, Small. -/
import Derived.Test.YtkickdmiilmkoaaGreatDoorChecked
import Derived.Test.YtkickdmiilmkoaaGreatDoorBase
namespace Go.Proofs.YtkickdmiilmkoaaGreatDoor
open Go.RowKit

theorem ret_int {k : IntKind} {a b : Int} (h : a = b) : Ending.returned (.int k a) = .returned (.int k b) := by rw [h]
theorem info_u8 : (Tryz.prog.info? 5).map (fun i => (i.zero, i.size, i.bytes)) = some (some (.int .u8 0), 1, 1) := by kernel_rfl

/-- append onto a list of bytes, at the operation. -/
theorem wpList_app_u8 {w : World} {ops : Array Oper} {rest : List Oper} {o : Oper} {a : Act} {Q : Exit → Act → World → Prop} (hgd : o.guard = none) (s x : Operand)
    (ho : o.op = .call { callee := .builtin .append, args := #[s, x], argTypes := #[85, 85] })
    (v : Value) (n : Nat) (xs : List Value) (hs : a.eval s = v) (hown : w.ownsRow 0 5 1 v n xs)
    (A : Option Addr) (m c : Nat) (news : List Value) (hx : a.eval x = .slice A m c) (hr : Rd w 1 A m news) (h1 : ∀ u ∈ news, u.oneCell' = true)
    (hb : n + m ≤ 2199023255552)
    (h : ∀ A' c' w', w'.ownsRow 0 5 1 (.slice A' (n + m) c') (n + m) (xs ++ news) → Mv (rowF v) (rowF (.slice A' (n + m) c')) w w' → wpList Tryz.prog ops Q rest (a.put o.dst (.slice A' (n + m) c')) w') : wpList Tryz.prog ops Q (o :: rest) a w := by
  obtain ⟨i0, hi, hz0, hz1, hz2⟩ := info_parts info_u8
  exact wpList_app hgd s x 85 ho 5 i0 (.int .u8 0) 1 1 Tryz.underlying85 hi hz0 hz1 hz2 rfl (by decide) v n xs hs hown A m c news hx hr h1 (by unfold maxLen; omega) (by omega) h

/-- The lowest bytes of a number, the lowest first. -/
def le : Nat → Nat → List UInt8
  | _, 0 => []
  | x, k + 1 => UInt8.ofNat x :: le (x / 256) k

theorem le_length (x k : Nat) : (le x k).length = k := by
  induction k generalizing x with
  | zero => rfl
  | succ k ih => simp [le, ih]

/-- A packer: its block g; the first error e, the bytes l; F: the blocks that it has. -/
def Pk (w : World) (g : Nat) (F : Nat → Prop) (e : Int) (l : List UInt8) : Prop :=
  ∃ A n c, Blk w g 87 #[.int .i64 e, .slice A n c] ∧ w.ownsRow 0 5 1 (.slice A n c) n (bys l) ∧ F = fun k => k = g ∨ rowF (.slice A n c) k

theorem Pk.fr {w w' : World} {g : Nat} {F G : Nat → Prop} {e : Int} {l : List UInt8} (h : Pk w g F e l) (hf : Fr G w w') (hn : ∀ k, F k → ¬ G k) : Pk w' g F e l := by
  obtain ⟨A, n, c, h1, h2, rfl⟩ := h
  exact ⟨A, n, c, h1.fr hf (hn g (.inl rfl)), own_fr h2 hf (fun k hk => hn k (.inr hk)), rfl⟩
theorem Pk.lt {w : World} {g : Nat} {F : Nat → Prop} {e : Int} {l : List UInt8} (h : Pk w g F e l) : ∀ k, F k → k < w.heap.size := by
  obtain ⟨A, n, c, h1, h2, rfl⟩ := h
  rintro k (rfl | hk)
  · exact h1.lt
  · exact own_lt h2 k hk

theorem le_snoc (x k : Nat) : le x (k + 1) = le x k ++ [UInt8.ofNat (x / 256 ^ k)] := by
  induction k generalizing x with
  | zero => simp [le]
  | succ k ih =>
    rw [le, ih (x / 256), le, List.cons_append, Nat.div_div_eq_div_mul, Nat.pow_succ, Nat.mul_comm]

/-- The end of 'p.b = append(p.b, ..)'. -/
theorem Pk.push {w0 w1 : World} {g m m' c c' : Nat} {A A' : Option Addr} {e : Int} {l : List UInt8} (hb : Blk w1 g 87 #[.int .i64 e, .slice A m c])
    (ho : w1.ownsRow 0 5 1 (.slice A' m' c') m' (bys l)) (hm : Mv (rowF (.slice A m c)) (rowF (.slice A' m' c')) w0 w1) :
    ∃ F', Pk (w1.setCell ⟨g, 1, none⟩ (.slice A' m' c')) g F' e l ∧ Mv (fun k => k = g ∨ rowF (.slice A m c) k) F' w0 (w1.setCell ⟨g, 1, none⟩ (.slice A' m' c')) := by
  have hne : ¬ rowF (.slice A' m' c') g := own_blk_ne ho hb (by decide)
  have hs : Fr (fun k => k = g) w1 (w1.setCell ⟨g, 1, none⟩ (.slice A' m' c')) := (Fr.refl (fun k => k = g) w1).setCell (p := ⟨g, 1, none⟩) (.inl rfl) _
  refine ⟨_, ⟨A', m', c', hb.set_ 1 _, own_fr ho hs (fun k hk hg => hne (hg ▸ hk)), rfl⟩, ⟨?_, ?_⟩⟩
  · refine (hm.fr.mono (fun i hi => .inl (.inr hi))).trans hs (fun i hi => .inl (.inl hi))
  · rintro k (hk | hk)
    · exact .inl (.inl hk)
    · exact (hm.sub k hk).imp .inr id

set_option maxHeartbeats 400000 in
theorem fits_ok (size n : Int) (w : World) (h1 : 1 ≤ size) (h2 : size ≤ 7) (h3 : 0 ≤ n) (h4 : (n / 2 ^ (8 * size).toNat != 0) = false) :
    Calls Tryz.prog 105 #[.int .i64 size, .int .i64 n] w fun e w' => e = .returned (.int .i64 0) ∧ w = w' := by
  go_enter Tryz.func105, Tryz.ntmps105
  go_wp2
  go_ret
  exact ⟨rfl, rfl⟩
set_option maxHeartbeats 400000 in
theorem fits_no (size n : Int) (w : World) (h : size < 1 ∨ 7 < size ∨ n < 0 ∨ (1 ≤ size ∧ size ≤ 7 ∧ 0 ≤ n ∧ (n / 2 ^ (8 * size).toNat != 0) = true)) :
    Calls Tryz.prog 105 #[.int .i64 size, .int .i64 n] w fun e w' => e = .returned (.int .i64 1) ∧ w = w' := by
  by_cases a1 : size < 1
  · go_enter Tryz.func105, Tryz.ntmps105
    go_wp2
    go_ret
    exact ⟨rfl, rfl⟩
  by_cases a2 : 7 < size
  · go_enter Tryz.func105, Tryz.ntmps105
    go_wp2
    go_ret
    exact ⟨rfl, rfl⟩
  by_cases a3 : n < 0
  · go_enter Tryz.func105, Tryz.ntmps105
    go_wp2
    go_ret
    exact ⟨rfl, rfl⟩
  have h4 : (n / 2 ^ (8 * size).toNat != 0) = true := by
    rcases h with h | h | h | h
    · omega
    · omega
    · omega
    · exact h.2.2.2
  clear h
  have b1 : 1 ≤ size := by omega
  have b2 : size ≤ 7 := by omega
  have b3 : 0 ≤ n := by omega
  go_enter Tryz.func105, Tryz.ntmps105
  go_wp2
  go_ret
  exact ⟨rfl, rfl⟩

/-- Can n be of 'size' bytes? -/
def fitsB (size n : Int) : Bool := decide (1 ≤ size ∧ size ≤ 7 ∧ 0 ≤ n ∧ n < 256 ^ size.toNat)
theorem pow_bytes (k : Nat) : (2 : Int) ^ (8 * k) = 256 ^ k := by
  rw [Int.pow_mul]; rfl
theorem shr_zero (size n : Int) (h1 : 1 ≤ size) (h3 : 0 ≤ n) : (n / 2 ^ (8 * size).toNat != 0) = !decide (n < 256 ^ size.toNat) := by
  obtain ⟨k, rfl⟩ := Int.eq_ofNat_of_zero_le (show 0 ≤ size by omega)
  have e1 : (8 * (k : Int)).toNat = 8 * k := by omega
  rw [e1, pow_bytes, Int.toNat_natCast]
  have hp : (0 : Int) < 256 ^ k := Int.pow_pos (by decide)
  by_cases h : n < 256 ^ k
  · simp [h, Int.ediv_eq_zero_of_lt h3 h]
  · have : 1 ≤ n / 256 ^ k := (Int.le_ediv_iff_mul_le hp).2 (by omega)
    simp only [h, decide_false, Bool.not_false, bne_iff_ne, ne_eq]
    omega
theorem fits_any (size n : Int) (w : World) :
    Calls Tryz.prog 105 #[.int .i64 size, .int .i64 n] w fun e w' => e = .returned (.int .i64 (bif fitsB size n then 0 else 1)) ∧ w = w' := by
  by_cases h : fitsB size n = true
  · rw [h]
    obtain ⟨h1, h2, h3, h4⟩ := of_decide_eq_true h
    exact fits_ok size n w h1 h2 h3 (by rw [shr_zero size n h1 h3]; simp [h4])
  · have h' : fitsB size n = false := by simpa using h
    rw [h']
    refine fits_no size n w ?_
    have := of_decide_eq_false h'
    by_cases a1 : size < 1
    · exact .inl a1
    by_cases a2 : 7 < size
    · exact .inr (.inl a2)
    by_cases a3 : n < 0
    · exact .inr (.inr (.inl a3))
    refine .inr (.inr (.inr ⟨by omega, by omega, by omega, ?_⟩))
    rw [shr_zero size n (by omega) (by omega)]
    have : ¬ n < 256 ^ size.toNat := fun hh => this ⟨by omega, by omega, by omega, hh⟩
    simp [this]

theorem fits_yes (size n : Int) (w : World) (h : fitsB size n = true) :
    Calls Tryz.prog 105 #[.int .i64 size, .int .i64 n] w fun e w' => e = .returned (.int .i64 0) ∧ w = w' := by
  have := fits_any size n w
  rw [h] at this
  exact this
theorem fits_bad (size n : Int) (w : World) (h : fitsB size n = false) :
    Calls Tryz.prog 105 #[.int .i64 size, .int .i64 n] w fun e w' => e = .returned (.int .i64 1) ∧ w = w' := by
  have := fits_any size n w
  rw [h] at this
  exact this
theorem fail_keep (p : Addr) (e e0 : Int) (w : World) (hc : w.cell? p = some (.int .i64 e0)) (h0 : (e0 == 0) = false) (h1 : (e0 != 0) = true) :
    Calls Tryz.prog 104 #[.pointer (some p), .int .i64 e] w fun r w' => r = .returned (.bool true) ∧ w = w' := by
  go_enter Tryz.func104, Tryz.ntmps104
  go_wp2
  go_ret
  exact ⟨rfl, rfl⟩
theorem fail_new (p : Addr) (e : Int) (w : World) (hc : w.cell? p = some (.int .i64 0)) (hf : w.frozen? p = false) :
    Calls Tryz.prog 104 #[.pointer (some p), .int .i64 e] w fun r w' => r = .returned (.bool (e != 0)) ∧ w.setCell p (.int .i64 e) = w' := by
  go_enter Tryz.func104, Tryz.ntmps104
  go_wp2
  go_ret
  exact ⟨rfl, rfl⟩

theorem low_byte {x z : Int} {k : Nat} (hx : 0 ≤ x) (hz : z = x / 256 ^ k) : bys [UInt8.ofNat (x.toNat / 256 ^ k)] = [Value.int .u8 (z % 256)] := by
  obtain ⟨n, rfl⟩ := Int.eq_ofNat_of_zero_le hx
  subst hz
  simp [bys]
theorem div_step {x z : Int} {k : Nat} (hz : z = x / 256 ^ k) : Hid (z / 256 = x / 256 ^ (k + 1)) := by
  show z / 256 = x / 256 ^ (k + 1)
  subst hz
  rw [Int.ediv_ediv_of_nonneg (by exact Int.le_of_lt (Int.pow_pos (by decide))), Int.pow_succ]

set_option maxRecDepth 20000 in
theorem fail_zero (b i : Nat) (w : World) (hc : w.cell? ⟨b, i, none⟩ = some (.int .i64 0)) (hf : w.frozen? ⟨b, i, none⟩ = false) :
    Calls Tryz.prog 104 #[.pointer (some ⟨b, i, none⟩), .int .i64 0] w fun r w' => r = .returned (.bool false) ∧ w = w' :=
  (fail_new _ 0 w hc hf).mono fun r w' ⟨h1, h2⟩ => ⟨h1, by rw [← h2]; exact (setCell_same hc).symm⟩

theorem low_any (g : Nat) (F : Nat → Prop) (e : Int) (l : List UInt8) (x : Int) (n : Nat) (w : World) (h : Pk w g F e l) (hx : 0 ≤ x) (hn : l.length + n ≤ 1099511627776) :
    Calls Tryz.prog 106 #[.pointer (some ⟨g, 0, none⟩), .int .u64 x, .int .i64 n] w fun r w' => r = .returned (.tuple #[]) ∧ ∃ F', Pk w' g F' e (l ++ le x.toNat n) ∧ Mv F F' w w' := by
  have Hn := Lib.hid hn
  have hn' : n ≤ 1099511627776 := by omega
  clear hn
  go_enter Tryz.func106, Tryz.ntmps106
  go_wp2
  go_loopw [1, 7] (fun y i wr => ∃ (k : Nat) (z : Int) (F' : Nat → Prop), k ≤ n ∧ i = .int .i64 k ∧ y = .int .u64 z ∧ 0 ≤ z ∧ Pk wr g F' e (l ++ le x.toNat k) ∧ Hid (z = x / 256 ^ k) ∧ Mv F F' w wr) (fun _ i _ => n - (intOf i).toNat)
  case atStart => exact ⟨0, x, F, Nat.zero_le _, rfl, rfl, hx, by simpa [le] using h, by simp [Hid], Mv.refl _ _⟩
  case round =>
    obtain ⟨k, z, F', hk, rfl, rfl, hz0, hp, hz, hm⟩ := hrel
    obtain ⟨A, m, c, hb, ho, rfl⟩ := hp
    have c0 := hb.cell 1
    have hf0 := hb.frozen 1
    simp only [List.getElem?_toArray, List.getElem?_cons_succ, List.getElem?_cons_zero] at c0
    have hll : m = l.length + k := by have := ho.1; simp [bys, le_length] at this; omega
    have Hll := Lib.hid hll
    clear hll
    by_cases hlt : k < n
    · have Hb := Lib.hid hb
      have Ho := Lib.hid ho
      clear hb ho
      go_wp2_with (at_builtin; refine wpList_app_u8 rfl (.tmp 13) (.tmp 16) rfl _ m (bys (l ++ le x.toNat k)) rfl ?c0 (some ⟨wr.heap.size, 0, none⟩) 1 1 [.int .u8 (z % 256)] rfl ?c1 ?c2 ?c3 ?_)
      case c0 => exact Ho.out.alloc _
      case c1 => exact ⟨rfl, fun _ => ⟨_, rfl, cell_one_new _ _ _⟩⟩
      case c2 => simp [Value.oneCell']
      case c3 => have := Hll.out; have := Hn.out; omega
      intro A' c' w1 ho1 hm1
      have hgr : ¬ rowF (Value.slice A m c) g := own_blk_ne Ho.out Hb.out (by decide)
      have hb1 : Blk w1 g 87 #[.int .i64 e, .slice A m c] := (Hb.out.alloc _).fr hm1.fr hgr
      have c2 := hb1.cell 1
      have hf2 := hb1.frozen 1
      simp only [List.getElem?_toArray, List.getElem?_cons_succ, List.getElem?_cons_zero] at c2
      have Hb1 := Lib.hid hb1
      have Ho1 := Lib.hid ho1
      have Hm1 := Lib.hid hm1
      have Hgr := Lib.hid hgr
      clear hb1 ho1 hm1 hgr
      go_wp2
      go_roundw
      case rel =>
        obtain ⟨F', hp', hm'⟩ := Pk.push (l := l ++ le x.toNat (k + 1)) Hb1.out (by rw [le_snoc, ← List.append_assoc, bys_append]; rw [show bys [UInt8.ofNat (x.toNat / 256 ^ k)] = [Value.int IntKind.u8 (z % 256)] from low_byte hx hz.out]; exact Ho1.out) Hm1.out
        exact ⟨k + 1, z / 256, F', by omega, by go_num, rfl, by omega, hp', div_step hz.out, (hm.trans (Mv.none_alloc _ _ _)).trans hm'⟩
      case measure => simp [intOf]; omega
    · go_wp2
      go_end0
      obtain rfl : k = n := by omega
      exact ⟨rfl, _, ⟨A, m, c, hb, ho, rfl⟩, hm⟩

theorem low_int (g : Nat) (F : Nat → Prop) (e : Int) (l : List UInt8) (x m : Int) (w : World) (h : Pk w g F e l) (hx : 0 ≤ x) (hm : 0 ≤ m) (hn : (l.length : Int) + m ≤ 1099511627776) :
    Calls Tryz.prog 106 #[.pointer (some ⟨g, 0, none⟩), .int .u64 x, .int .i64 m] w fun r w' => r = .returned (.tuple #[]) ∧ ∃ F', Pk w' g F' e (l ++ le x.toNat m.toNat) ∧ Mv F F' w w' := by
  obtain ⟨n, rfl⟩ := Int.eq_ofNat_of_zero_le hm
  exact low_any g F e l x n w h hx (by omega)
theorem Pk.c0 {w : World} {g : Nat} {F : Nat → Prop} {e : Int} {l : List UInt8} (h : Pk w g F e l) : w.cell? ⟨g, 0, none⟩ = some (.int .i64 e) := by
  obtain ⟨A, m, c, hb, ho, rfl⟩ := h
  exact hb.cell 0
theorem flat_len (l : List Int) (m : Nat) : (l.flatMap fun x => le x.toNat m).length = m * l.length := by
  induction l with
  | nil => simp
  | cons a t ih => simp only [List.flatMap_cons, List.length_append, le_length, ih, List.length_cons]; rw [Nat.mul_add]; omega

theorem words_ok (g : Nat) (F : Nat → Prop) (l : List UInt8) (vs : List Int) (A : Option Addr) (n c : Nat) (w : World) (h : Pk w g F 0 l)
    (hr : Rd w 1 A n (vs.map (Value.int .u64))) (hA : ∀ k, adF A n k → ¬ F k) (hv : ∀ x ∈ vs, 0 ≤ x) (hn : l.length + 8 * n ≤ 1099511627776) :
    Calls Tryz.prog 107 #[.pointer (some ⟨g, 0, none⟩), .slice A n c] w fun r w' => r = .returned (.tuple #[]) ∧ ∃ F', Pk w' g F' 0 (l ++ vs.flatMap fun x => le x.toNat 8) ∧ Mv F F' w w' := by
  have hn' : n ≤ 1099511627776 := by omega
  have c0 := h.c0
  have Hn := Lib.hid hn
  have HA := Lib.hid hA
  have Hv := Lib.hid hv
  clear hn hA hv
  go_enter Tryz.func107, Tryz.ntmps107
  go_wp2
  go_loopw [18] (fun i wr => ∃ (k : Nat) (F' : Nat → Prop), k ≤ n ∧ i = .int .i64 k ∧ Pk wr g F' 0 (l ++ (vs.take k).flatMap fun x => le x.toNat 8) ∧ Mv F F' w wr) (fun i _ => n - (intOf i).toNat)
  case atStart => exact ⟨0, F, Nat.zero_le _, rfl, by simpa using h, Mv.refl _ _⟩
  case round =>
    obtain ⟨k, F', hk, rfl, hp, hm⟩ := hrel
    by_cases hlt : k < n
    · have hr' := hr.fr hm.fr HA.out
      obtain ⟨ad, x, rfl, hu, hc⟩ := hr'.at_map hlt
      clear hr'
      have Hu := Lib.hid hu
      clear hu
      go_wp2_with fail
      refine (low_int g F' 0 _ x 8 _ hp (Hv.out _ (mem_of_get Hu.out)) (by omega) ?_).mono ?_
      · have := Hn.out; have := hr.len_map; simp only [List.length_append, flat_len, List.length_take]; omega
      rintro r w1 ⟨rfl, F1, hp1, hm1⟩
      clear hp hc
      go_wp2
      go_roundw
      case rel => exact ⟨k + 1, F1, by omega, by go_num, by rw [take_snoc Hu.out, List.flatMap_append]; simpa using hp1, hm.trans hm1⟩
      case measure => simp [intOf]; omega
    · go_wp2
      go_end0
      rw [take_all (by have := hr.len_map; omega)] at hp
      exact ⟨rfl, F', hp, hm⟩

theorem words_err (g : Nat) (F : Nat → Prop) (e : Int) (l : List UInt8) (A : Option Addr) (n c : Nat) (w : World) (h : Pk w g F e l) (he : (e != 0) = true) :
    Calls Tryz.prog 107 #[.pointer (some ⟨g, 0, none⟩), .slice A n c] w fun r w' => r = .returned (.tuple #[]) ∧ w = w' := by
  have c0 := h.c0
  go_enter Tryz.func107, Tryz.ntmps107
  go_wp2
  exact bodyPost_ret (results_none rfl _ _ _) rfl ⟨rfl, rfl⟩
theorem words_nil (A : Option Addr) (n c : Nat) (w : World) :
    Calls Tryz.prog 107 #[.pointer none, .slice A n c] w fun r w' => r = .returned (.tuple #[]) ∧ w = w' := by
  go_enter Tryz.func107, Tryz.ntmps107
  go_wp2
  exact bodyPost_ret (results_none rfl _ _ _) rfl ⟨rfl, rfl⟩
end Go.Proofs.YtkickdmiilmkoaaGreatDoor
