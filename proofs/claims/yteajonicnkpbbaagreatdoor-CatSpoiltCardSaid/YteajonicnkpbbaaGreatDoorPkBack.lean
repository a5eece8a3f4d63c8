/- Walks of the small functions of package pack: fits, fail, low, Words, Ints, Small. -/
import Derived.Test.YteajonicnkpbbaaGreatDoorChecked
import Derived.Test.YteajonicnkpbbaaGreatDoorBase
import Derived.Test.YteajonicnkpbbaaGreatDoorShelf
import Derived.Laws.BitsAllLaws
import Derived.Lib.TrimByte
import Derived.Lib.AppendIntMem
namespace Go.Proofs.YteajonicnkpbbaaGreatDoor
set_option linter.all false
open Go.RowKit

theorem ret_int {k : IntKind} {a b : Int} (h : a = b) : Ending.returned (.int k a) = .returned (.int k b) := by rw [h]
theorem info_u8 : (Tryz.prog.info? 5).map (fun i => (i.zero, i.size, i.bytes)) = some (some (.int .u8 0), 1, 1) := by kernel_rfl

theorem wpList_app_u8 {w : World} {ops : Array Oper} {rest : List Oper} {o : Oper} {a : Act} {Q : Exit → Act → World → Prop} (hgd : o.guard = none) (s x : Operand)
    (ho : o.op = .call { callee := .builtin .append, args := #[s, x], argTypes := #[104, 104] })
    (v : Value) (n : Nat) (xs : List Value) (hs : a.eval s = v) (hown : w.ownsRow 0 5 1 v n xs)
    (A : Option Addr) (m c : Nat) (news : List Value) (hx : a.eval x = .slice A m c) (hr : Rd w 1 A m news) (h1 : ∀ u ∈ news, u.oneCell' = true)
    (hb : n + m ≤ 2199023255552)
    (h : ∀ A' c' w', w'.ownsRow 0 5 1 (.slice A' (n + m) c') (n + m) (xs ++ news) → Mv (rowF v) (rowF (.slice A' (n + m) c')) w w' → wpList Tryz.prog ops Q rest (a.put o.dst (.slice A' (n + m) c')) w') : wpList Tryz.prog ops Q (o :: rest) a w := by
  obtain ⟨i0, hi, hz0, hz1, hz2⟩ := info_parts info_u8
  exact wpList_app hgd s x 104 ho 5 i0 (.int .u8 0) 1 1 Tryz.underlying104 hi hz0 hz1 hz2 rfl (by decide) v n xs hs hown A m c news hx hr h1 (by unfold maxLen; omega) (by omega) h

def le : Nat → Nat → List UInt8
  | _, 0 => []
  | x, k + 1 => UInt8.ofNat x :: le (x / 256) k

theorem le_length (x k : Nat) : (le x k).length = k := by
  induction k generalizing x with
  | zero => rfl
  | succ k ih => simp [le, ih]

def Pk (w : World) (g : Nat) (F : Nat → Prop) (e : Int) (l : List UInt8) : Prop :=
  ∃ A n c, Blk w g 106 #[.int .i64 e, .slice A n c] ∧ w.ownsRow 0 5 1 (.slice A n c) n (bys l) ∧ F = fun k => k = g ∨ rowF (.slice A n c) k

theorem Pk.fr {w w' : World} {g : Nat} {F G : Nat → Prop} {e : Int} {l : List UInt8} (h : Pk w g F e l) (hf : Fr G w w') (hn : ∀ k, F k → ¬ G k) : Pk w' g F e l := by
  obtain ⟨A, n, c, h1, h2, rfl⟩ := h
  exact ⟨A, n, c, h1.fr hf (hn g (.inl rfl)), own_fr h2 hf (fun k hk => hn k (.inr hk)), rfl⟩
theorem Pk.lt {w : World} {g : Nat} {F : Nat → Prop} {e : Int} {l : List UInt8} (h : Pk w g F e l) : ∀ k, F k → k < w.heap.size := by
  obtain ⟨A, n, c, h1, h2, rfl⟩ := h
  rintro k (rfl | hk)
  · exact h1.lt
  · exact own_lt h2 k hk

theorem le_snoc (x k : Nat) : le x (k + 1) = le x k ++ [UInt8.ofNat (x / 256 ^ k)] := by
  induction k generalizing x with
  | zero => simp [le]
  | succ k ih =>
    rw [le, ih (x / 256), le, List.cons_append, Nat.div_div_eq_div_mul, Nat.pow_succ, Nat.mul_comm]

theorem Pk.push {w0 w1 : World} {g m m' c c' : Nat} {A A' : Option Addr} {e : Int} {l : List UInt8} (hb : Blk w1 g 106 #[.int .i64 e, .slice A m c])
    (ho : w1.ownsRow 0 5 1 (.slice A' m' c') m' (bys l)) (hm : Mv (rowF (.slice A m c)) (rowF (.slice A' m' c')) w0 w1) :
    ∃ F', Pk (w1.setCell ⟨g, 1, none⟩ (.slice A' m' c')) g F' e l ∧ Mv (fun k => k = g ∨ rowF (.slice A m c) k) F' w0 (w1.setCell ⟨g, 1, none⟩ (.slice A' m' c')) := by
  have hne : ¬ rowF (.slice A' m' c') g := own_blk_ne ho hb (by decide)
  have hs : Fr (fun k => k = g) w1 (w1.setCell ⟨g, 1, none⟩ (.slice A' m' c')) := (Fr.refl (fun k => k = g) w1).setCell (p := ⟨g, 1, none⟩) (.inl rfl) _
  refine ⟨_, ⟨A', m', c', hb.set_ 1 _, own_fr ho hs (fun k hk hg => hne (hg ▸ hk)), rfl⟩, ⟨?_, ?_⟩⟩
  · refine (hm.fr.mono (fun i hi => .inl (.inr hi))).trans hs (fun i hi => .inl (.inl hi))
  · rintro k (hk | hk)
    · exact .inl (.inl hk)
    · exact (hm.sub k hk).imp .inr id

set_option maxHeartbeats 400000 in
theorem fits_ok (size n : Int) (w : World) (h1 : 1 ≤ size) (h2 : size ≤ 7) (h3 : 0 ≤ n) (h4 : (n / 2 ^ (8 * size).toNat != 0) = false) :
    Calls Tryz.prog 119 #[.int .i64 size, .int .i64 n] w fun e w' => e = .returned (.int .i64 0) ∧ w = w' := by
  go_enter Tryz.func119, Tryz.ntmps119
  go_wp2
  go_ret
  exact ⟨rfl, rfl⟩
set_option maxHeartbeats 400000 in
theorem fits_no (size n : Int) (w : World) (h : size < 1 ∨ 7 < size ∨ n < 0 ∨ (1 ≤ size ∧ size ≤ 7 ∧ 0 ≤ n ∧ (n / 2 ^ (8 * size).toNat != 0) = true)) :
    Calls Tryz.prog 119 #[.int .i64 size, .int .i64 n] w fun e w' => e = .returned (.int .i64 1) ∧ w = w' := by
  by_cases a1 : size < 1
  · go_enter Tryz.func119, Tryz.ntmps119
    go_wp2
    go_ret
    exact ⟨rfl, rfl⟩
  by_cases a2 : 7 < size
  · go_enter Tryz.func119, Tryz.ntmps119
    go_wp2
    go_ret
    exact ⟨rfl, rfl⟩
  by_cases a3 : n < 0
  · go_enter Tryz.func119, Tryz.ntmps119
    go_wp2
    go_ret
    exact ⟨rfl, rfl⟩
  have h4 : (n / 2 ^ (8 * size).toNat != 0) = true := by
    rcases h with h | h | h | h
    · omega
    · omega
    · omega
    · exact h.2.2.2
  clear h
  have b1 : 1 ≤ size := by omega
  have b2 : size ≤ 7 := by omega
  have b3 : 0 ≤ n := by omega
  go_enter Tryz.func119, Tryz.ntmps119
  go_wp2
  go_ret
  exact ⟨rfl, rfl⟩

def fitsB (size n : Int) : Bool := decide (1 ≤ size ∧ size ≤ 7 ∧ 0 ≤ n ∧ n < 256 ^ size.toNat)
theorem pow_bytes (k : Nat) : (2 : Int) ^ (8 * k) = 256 ^ k := by
  rw [Int.pow_mul]; rfl
theorem shr_zero (size n : Int) (h1 : 1 ≤ size) (h3 : 0 ≤ n) : (n / 2 ^ (8 * size).toNat != 0) = !decide (n < 256 ^ size.toNat) := by
  obtain ⟨k, rfl⟩ := Int.eq_ofNat_of_zero_le (show 0 ≤ size by omega)
  have e1 : (8 * (k : Int)).toNat = 8 * k := by omega
  rw [e1, pow_bytes, Int.toNat_natCast]
  have hp : (0 : Int) < 256 ^ k := Int.pow_pos (by decide)
  by_cases h : n < 256 ^ k
  · simp [h, Int.ediv_eq_zero_of_lt h3 h]
  · have : 1 ≤ n / 256 ^ k := (Int.le_ediv_iff_mul_le hp).2 (by omega)
    simp only [h, decide_false, Bool.not_false, bne_iff_ne, ne_eq]
    omega
theorem fits_any (size n : Int) (w : World) :
    Calls Tryz.prog 119 #[.int .i64 size, .int .i64 n] w fun e w' => e = .returned (.int .i64 (bif fitsB size n then 0 else 1)) ∧ w = w' := by
  by_cases h : fitsB size n = true
  · rw [h]
    obtain ⟨h1, h2, h3, h4⟩ := of_decide_eq_true h
    exact fits_ok size n w h1 h2 h3 (by rw [shr_zero size n h1 h3]; simp [h4])
  · have h' : fitsB size n = false := by simpa using h
    rw [h']
    refine fits_no size n w ?_
    have := of_decide_eq_false h'
    by_cases a1 : size < 1
    · exact .inl a1
    by_cases a2 : 7 < size
    · exact .inr (.inl a2)
    by_cases a3 : n < 0
    · exact .inr (.inr (.inl a3))
    refine .inr (.inr (.inr ⟨by omega, by omega, by omega, ?_⟩))
    rw [shr_zero size n (by omega) (by omega)]
    have : ¬ n < 256 ^ size.toNat := fun hh => this ⟨by omega, by omega, by omega, hh⟩
    simp [this]

theorem fits_yes (size n : Int) (w : World) (h : fitsB size n = true) :
    Calls Tryz.prog 119 #[.int .i64 size, .int .i64 n] w fun e w' => e = .returned (.int .i64 0) ∧ w = w' := by
  have := fits_any size n w
  rw [h] at this
  exact this
theorem fits_bad (size n : Int) (w : World) (h : fitsB size n = false) :
    Calls Tryz.prog 119 #[.int .i64 size, .int .i64 n] w fun e w' => e = .returned (.int .i64 1) ∧ w = w' := by
  have := fits_any size n w
  rw [h] at this
  exact this
theorem fail_keep (p : Addr) (e e0 : Int) (w : World) (hc : w.cell? p = some (.int .i64 e0)) (h0 : (e0 == 0) = false) (h1 : (e0 != 0) = true) :
    Calls Tryz.prog 118 #[.pointer (some p), .int .i64 e] w fun r w' => r = .returned (.bool true) ∧ w = w' := by
  go_enter Tryz.func118, Tryz.ntmps118
  go_wp2
  go_ret
  exact ⟨rfl, rfl⟩
theorem fail_new (p : Addr) (e : Int) (w : World) (hc : w.cell? p = some (.int .i64 0)) (hf : w.frozen? p = false) :
    Calls Tryz.prog 118 #[.pointer (some p), .int .i64 e] w fun r w' => r = .returned (.bool (e != 0)) ∧ w.setCell p (.int .i64 e) = w' := by
  go_enter Tryz.func118, Tryz.ntmps118
  go_wp2
  go_ret
  exact ⟨rfl, rfl⟩

theorem low_byte {x z : Int} {k : Nat} (hx : 0 ≤ x) (hz : z = x / 256 ^ k) : bys [UInt8.ofNat (x.toNat / 256 ^ k)] = [Value.int .u8 (z % 256)] := by
  obtain ⟨n, rfl⟩ := Int.eq_ofNat_of_zero_le hx
  subst hz
  simp [bys]
theorem div_step {x z : Int} {k : Nat} (hz : z = x / 256 ^ k) : Hid (z / 256 = x / 256 ^ (k + 1)) := by
  show z / 256 = x / 256 ^ (k + 1)
  subst hz
  rw [Int.ediv_ediv_of_nonneg (by exact Int.le_of_lt (Int.pow_pos (by decide))), Int.pow_succ]

set_option maxRecDepth 20000 in
theorem fail_zero (b i : Nat) (w : World) (hc : w.cell? ⟨b, i, none⟩ = some (.int .i64 0)) (hf : w.frozen? ⟨b, i, none⟩ = false) :
    Calls Tryz.prog 118 #[.pointer (some ⟨b, i, none⟩), .int .i64 0] w fun r w' => r = .returned (.bool false) ∧ w = w' :=
  (fail_new _ 0 w hc hf).mono fun r w' ⟨h1, h2⟩ => ⟨h1, by rw [← h2]; exact (setCell_same hc).symm⟩

theorem low_any (g : Nat) (F : Nat → Prop) (e : Int) (l : List UInt8) (x : Int) (n : Nat) (w : World) (h : Pk w g F e l) (hx : 0 ≤ x) (hn : l.length + n ≤ 1099511627776) :
    Calls Tryz.prog 117 #[.pointer (some ⟨g, 0, none⟩), .int .u64 x, .int .i64 n] w fun r w' => r = .returned (.tuple #[]) ∧ ∃ F', Pk w' g F' e (l ++ le x.toNat n) ∧ Mv F F' w w' := by
  have Hn := Lib.hid hn
  have hn' : n ≤ 1099511627776 := by omega
  clear hn
  go_enter Tryz.func117, Tryz.ntmps117
  go_wp2
  go_loopw [1, 7] (fun y i wr => ∃ (k : Nat) (z : Int) (F' : Nat → Prop), k ≤ n ∧ i = .int .i64 k ∧ y = .int .u64 z ∧ 0 ≤ z ∧ Pk wr g F' e (l ++ le x.toNat k) ∧ Hid (z = x / 256 ^ k) ∧ Mv F F' w wr) (fun _ i _ => n - (intOf i).toNat)
  case atStart => exact ⟨0, x, F, Nat.zero_le _, rfl, rfl, hx, by simpa [le] using h, by simp [Hid], Mv.refl _ _⟩
  case round =>
    obtain ⟨k, z, F', hk, rfl, rfl, hz0, hp, hz, hm⟩ := hrel
    obtain ⟨A, m, c, hb, ho, rfl⟩ := hp
    have c0 := hb.cell 1
    have hf0 := hb.frozen 1
    simp only [List.getElem?_toArray, List.getElem?_cons_succ, List.getElem?_cons_zero] at c0
    have hll : m = l.length + k := by have := ho.1; simp [bys, le_length] at this; omega
    have Hll := Lib.hid hll
    clear hll
    by_cases hlt : k < n
    · have Hb := Lib.hid hb
      have Ho := Lib.hid ho
      clear hb ho
      go_wp2_with (at_builtin; refine wpList_app_u8 rfl (.tmp 13) (.tmp 16) rfl _ m (bys (l ++ le x.toNat k)) rfl ?c0 (some ⟨wr.heap.size, 0, none⟩) 1 1 [.int .u8 (z % 256)] rfl ?c1 ?c2 ?c3 ?_)
      case c0 => exact Ho.out.alloc _
      case c1 => exact ⟨rfl, fun _ => ⟨_, rfl, cell_one_new _ _ _⟩⟩
      case c2 => simp [Value.oneCell']
      case c3 => have := Hll.out; have := Hn.out; omega
      intro A' c' w1 ho1 hm1
      have hgr : ¬ rowF (Value.slice A m c) g := own_blk_ne Ho.out Hb.out (by decide)
      have hb1 : Blk w1 g 106 #[.int .i64 e, .slice A m c] := (Hb.out.alloc _).fr hm1.fr hgr
      have c2 := hb1.cell 1
      have hf2 := hb1.frozen 1
      simp only [List.getElem?_toArray, List.getElem?_cons_succ, List.getElem?_cons_zero] at c2
      have Hb1 := Lib.hid hb1
      have Ho1 := Lib.hid ho1
      have Hm1 := Lib.hid hm1
      have Hgr := Lib.hid hgr
      clear hb1 ho1 hm1 hgr
      go_wp2
      go_roundw
      case rel =>
        obtain ⟨F', hp', hm'⟩ := Pk.push (l := l ++ le x.toNat (k + 1)) Hb1.out (by rw [le_snoc, ← List.append_assoc, bys_append]; rw [show bys [UInt8.ofNat (x.toNat / 256 ^ k)] = [Value.int IntKind.u8 (z % 256)] from low_byte hx hz.out]; exact Ho1.out) Hm1.out
        exact ⟨k + 1, z / 256, F', by omega, by go_num, rfl, by omega, hp', div_step hz.out, (hm.trans (Mv.none_alloc _ _ _)).trans hm'⟩
      case measure => simp [intOf]; omega
    · go_wp2
      go_end0
      obtain rfl : k = n := by omega
      exact ⟨rfl, _, ⟨A, m, c, hb, ho, rfl⟩, hm⟩

theorem low_int (g : Nat) (F : Nat → Prop) (e : Int) (l : List UInt8) (x m : Int) (w : World) (h : Pk w g F e l) (hx : 0 ≤ x) (hm : 0 ≤ m) (hn : (l.length : Int) + m ≤ 1099511627776) :
    Calls Tryz.prog 117 #[.pointer (some ⟨g, 0, none⟩), .int .u64 x, .int .i64 m] w fun r w' => r = .returned (.tuple #[]) ∧ ∃ F', Pk w' g F' e (l ++ le x.toNat m.toNat) ∧ Mv F F' w w' := by
  obtain ⟨n, rfl⟩ := Int.eq_ofNat_of_zero_le hm
  exact low_any g F e l x n w h hx (by omega)
theorem Pk.c0 {w : World} {g : Nat} {F : Nat → Prop} {e : Int} {l : List UInt8} (h : Pk w g F e l) : w.cell? ⟨g, 0, none⟩ = some (.int .i64 e) := by
  obtain ⟨A, m, c, hb, ho, rfl⟩ := h
  exact hb.cell 0
theorem flat_len (l : List Int) (m : Nat) : (l.flatMap fun x => le x.toNat m).length = m * l.length := by
  induction l with
  | nil => simp
  | cons a t ih => simp only [List.flatMap_cons, List.length_append, le_length, ih, List.length_cons]; rw [Nat.mul_add]; omega

theorem words_ok (g : Nat) (F : Nat → Prop) (l : List UInt8) (vs : List Int) (A : Option Addr) (n c : Nat) (w : World) (h : Pk w g F 0 l)
    (hr : Rd w 1 A n (vs.map (Value.int .u64))) (hA : ∀ k, adF A n k → ¬ F k) (hv : ∀ x ∈ vs, 0 ≤ x) (hn : l.length + 8 * n ≤ 1099511627776) :
    Calls Tryz.prog 41 #[.pointer (some ⟨g, 0, none⟩), .slice A n c] w fun r w' => r = .returned (.tuple #[]) ∧ ∃ F', Pk w' g F' 0 (l ++ vs.flatMap fun x => le x.toNat 8) ∧ Mv F F' w w' := by
  have hn' : n ≤ 1099511627776 := by omega
  have c0 := h.c0
  have Hn := Lib.hid hn
  have HA := Lib.hid hA
  have Hv := Lib.hid hv
  clear hn hA hv
  go_enter Tryz.func41, Tryz.ntmps41
  go_wp2
  go_loopw [18] (fun i wr => ∃ (k : Nat) (F' : Nat → Prop), k ≤ n ∧ i = .int .i64 k ∧ Pk wr g F' 0 (l ++ (vs.take k).flatMap fun x => le x.toNat 8) ∧ Mv F F' w wr) (fun i _ => n - (intOf i).toNat)
  case atStart => exact ⟨0, F, Nat.zero_le _, rfl, by simpa using h, Mv.refl _ _⟩
  case round =>
    obtain ⟨k, F', hk, rfl, hp, hm⟩ := hrel
    by_cases hlt : k < n
    · have hr' := hr.fr hm.fr HA.out
      obtain ⟨ad, x, rfl, hu, hc⟩ := hr'.at_map hlt
      clear hr'
      have Hu := Lib.hid hu
      clear hu
      go_wp2_with fail
      refine (low_int g F' 0 _ x 8 _ hp (Hv.out _ (mem_of_get Hu.out)) (by omega) ?_).mono ?_
      · have := Hn.out; have := hr.len_map; simp only [List.length_append, flat_len, List.length_take]; omega
      rintro r w1 ⟨rfl, F1, hp1, hm1⟩
      clear hp hc
      go_wp2
      go_roundw
      case rel => exact ⟨k + 1, F1, by omega, by go_num, by rw [take_snoc Hu.out, List.flatMap_append]; simpa using hp1, hm.trans hm1⟩
      case measure => simp [intOf]; omega
    · go_wp2
      go_end0
      rw [take_all (by have := hr.len_map; omega)] at hp
      exact ⟨rfl, F', hp, hm⟩

theorem words_err (g : Nat) (F : Nat → Prop) (e : Int) (l : List UInt8) (A : Option Addr) (n c : Nat) (w : World) (h : Pk w g F e l) (he : (e != 0) = true) :
    Calls Tryz.prog 41 #[.pointer (some ⟨g, 0, none⟩), .slice A n c] w fun r w' => r = .returned (.tuple #[]) ∧ w = w' := by
  have c0 := h.c0
  go_enter Tryz.func41, Tryz.ntmps41
  go_wp2
  exact bodyPost_ret (results_none rfl _ _ _) rfl ⟨rfl, rfl⟩
end Go.Proofs.YteajonicnkpbbaaGreatDoor
namespace Go.Proofs.YteajonicnkpbbaaGreatDoor
set_option linter.all false
open Go.RowKit

def pW (e : Int) (l m : List UInt8) : List UInt8 := if e = 0 then l ++ m else l
theorem pW_nil (e : Int) (l : List UInt8) : pW e l [] = l := by unfold pW; split <;> simp
theorem pW_pW (e : Int) (l a b : List UInt8) : pW e (pW e l a) b = pW e l (a ++ b) := by unfold pW; split <;> simp
theorem pW_len (e : Int) (l m : List UInt8) : (pW e l m).length ≤ l.length + m.length := by unfold pW; split <;> simp

theorem words_any (g : Nat) (F : Nat → Prop) (e : Int) (l : List UInt8) (vs : List Int) (A : Option Addr) (n c : Nat) (w : World) (h : Pk w g F e l)
    (hr : Rd w 1 A n (vs.map (Value.int .u64))) (hA : ∀ k, adF A n k → ¬ F k) (hv : ∀ x ∈ vs, 0 ≤ x) (hn : l.length + 8 * n ≤ 1099511627776) :
    Calls Tryz.prog 41 #[.pointer (some ⟨g, 0, none⟩), .slice A n c] w fun r w' => r = .returned (.tuple #[]) ∧ ∃ F', Pk w' g F' e (pW e l (vs.flatMap fun x => le x.toNat 8)) ∧ Mv F F' w w' := by
  by_cases he : e = 0
  · subst he
    exact words_ok g F l vs A n c w h hr hA hv hn
  · refine (words_err g F e l A n c w h (by simpa using he)).mono fun r w' ⟨h1, h2⟩ => ⟨h1, F, ?_, h2 ▸ Mv.refl _ _⟩
    subst h2
    simpa [pW, he] using h

def u64 (x : Int) : Nat := (x % 18446744073709551616).toNat
def le8 (l : List Int) : List UInt8 := l.flatMap fun x => le (u64 x) 8
theorem le8_append (a b : List Int) : le8 (a ++ b) = le8 a ++ le8 b := by simp [le8]
theorem le8_len (l : List Int) : (le8 l).length = 8 * l.length := by
  induction l with
  | nil => simp [le8]
  | cons a t ih => simp only [le8, List.flatMap_cons, List.length_append, le_length, List.length_cons] at ih ⊢; omega

theorem ints_any (g : Nat) (F : Nat → Prop) (e : Int) (l : List UInt8) (vs : List Int) (A : Option Addr) (n c : Nat) (w : World) (h : Pk w g F e l)
    (hr : Rd w 1 A n (vs.map (Value.int .i64))) (hA : ∀ k, adF A n k → ¬ F k) (hn : l.length + 8 * n ≤ 1099511627776) :
    Calls Tryz.prog 42 #[.pointer (some ⟨g, 0, none⟩), .slice A n c] w fun r w' => r = .returned (.tuple #[]) ∧ ∃ F', Pk w' g F' e (pW e l (le8 vs)) ∧ Mv F F' w w' := by
  have hn' : n ≤ 1099511627776 := by omega
  have Hn := Lib.hid hn
  have HA := Lib.hid hA
  clear hn hA
  go_enter Tryz.func42, Tryz.ntmps42
  go_wp2
  go_loopw [8] (fun i wr => ∃ (k : Nat) (F' : Nat → Prop), k ≤ n ∧ i = .int .i64 k ∧ Pk wr g F' e (pW e l (le8 (vs.take k))) ∧ Mv F F' w wr) (fun i _ => n - (intOf i).toNat)
  case atStart => exact ⟨0, F, Nat.zero_le _, rfl, by simpa [le8, pW_nil] using h, Mv.refl _ _⟩
  case round =>
    obtain ⟨k, F', hk, rfl, hp, hm⟩ := hrel
    by_cases hlt : k < n
    · have hr' := hr.fr hm.fr HA.out
      obtain ⟨ad, x, rfl, hu, hc⟩ := hr'.at_map hlt
      clear hr'
      have Hu := Lib.hid hu
      clear hu
      go_wp2_with fail
      have hp0 := hp.fr (Fr.none_alloc wr (.cells #[.int .u64 (IntKind.u64.wrap x)] 22)) (fun _ _ h => h)
      refine (words_any g F' e _ [IntKind.u64.wrap x] _ 1 1 _ hp0 (Rd.new _ _ _ _ rfl) (adF_new hp.lt) ?_ ?_).mono ?_
      · rw [IntKind.wrap_u64]; simp; omega
      · have := Hn.out; have := hr.len_map; have := pW_len e l (le8 (vs.take k)); simp only [le8_len, List.length_take] at this; omega
      rintro r w1 ⟨rfl, F1, hp1, hm1⟩
      rw [pW_pW] at hp1
      clear hp hp0 hc
      go_wp2
      go_roundw
      case rel => exact ⟨k + 1, F1, by omega, by go_num, by rw [take_snoc Hu.out, le8_append]; simpa [le8, u64, IntKind.wrap_u64] using hp1, hm.trans ((Mv.none_alloc _ _ _).trans hm1)⟩
      case measure => simp [intOf]; omega
    · go_wp2
      go_end0
      rw [take_all (by have := hr.len_map; omega)] at hp
      exact ⟨rfl, F', hp, hm⟩

def smallGo (size : Int) (l : List UInt8) : List Int → Int × List UInt8
  | [] => (0, l)
  | v :: vs => if fitsB size v = true then smallGo size (l ++ le v.toNat size.toNat) vs else (1, l)
def pSmall (size e : Int) (l : List UInt8) (vs : List Int) : Int × List UInt8 :=
  if e = 0 then (if fitsB size 0 = true then smallGo size l vs else (1, l)) else (e, l)

theorem Pk.f0 {w : World} {g : Nat} {F : Nat → Prop} {e : Int} {l : List UInt8} (h : Pk w g F e l) : w.frozen? ⟨g, 0, none⟩ = false := by
  obtain ⟨A, m, c, hb, ho, rfl⟩ := h
  exact hb.frozen 0
theorem Pk.setE {w : World} {g : Nat} {F : Nat → Prop} {e e' : Int} {l : List UInt8} (h : Pk w g F e l) : Pk (w.setCell ⟨g, 0, none⟩ (.int .i64 e')) g F e' l ∧ Mv F F w (w.setCell ⟨g, 0, none⟩ (.int .i64 e')) := by
  obtain ⟨A, m, c, hb, ho, rfl⟩ := h
  have hne := own_blk_ne ho hb (by decide)
  have hs : Fr (fun k => k = g) w (w.setCell ⟨g, 0, none⟩ (.int .i64 e')) := (Fr.refl (fun k => k = g) w).setCell (p := ⟨g, 0, none⟩) (.inl rfl) _
  exact ⟨⟨A, m, c, hb.set_ 0 _, own_fr ho hs (fun k hk hg => hne (hg ▸ hk)), rfl⟩, hs.mono (fun i hi => .inl (.inl hi)), fun k hk => .inl hk⟩

theorem small_err (g : Nat) (F : Nat → Prop) (e size : Int) (l : List UInt8) (A : Option Addr) (n c : Nat) (w : World) (h : Pk w g F e l) (he : (e == 0) = false) (he' : (e != 0) = true) :
    Calls Tryz.prog 44 #[.pointer (some ⟨g, 0, none⟩), .int .i64 size, .slice A n c] w fun r w' => r = .returned (.tuple #[]) ∧ ∃ m, w' = w.drewN m := by
  have c0 := h.c0
  go_enter Tryz.func44, Tryz.ntmps44
  go_wp2
  go_quiet ((first | (go_at_call 119; exact quiet_left (fits_any _ _ _)) | (go_at_call 118; exact quiet_left (fail_keep _ _ _ _ c0 he he'))))
  go_wp2
  exact bodyPost_ret (results_none rfl _ _ _) rfl ⟨rfl, nq, rfl⟩
set_option maxRecDepth 100000 in
theorem small_size (g : Nat) (F : Nat → Prop) (size : Int) (l : List UInt8) (A : Option Addr) (n c : Nat) (w : World) (h : Pk w g F 0 l) (hs : fitsB size 0 = false) :
    Calls Tryz.prog 44 #[.pointer (some ⟨g, 0, none⟩), .int .i64 size, .slice A n c] w fun r w' => r = .returned (.tuple #[]) ∧ ∃ F', Pk w' g F' 1 l ∧ Mv F F' w w' := by
  have c0 := h.c0
  have f0 := h.f0
  go_enter Tryz.func44, Tryz.ntmps44
  go_wp2
  go_still_tail 8, (by kernel_rfl)
  still_call (still_left (fits_any _ _ _))
  repeat still_step
  refine wpStill_nil ?_
  rw [hs]
  clear hs
  change wpList _ _ _ _ _ w.drew
  go_wp2_with fail
  refine (fail_new _ _ w.drew c0 f0).mono ?_
  rintro r w1 ⟨rfl, rfl⟩
  go_wp2
  refine bodyPost_ret (results_none rfl _ _ _) rfl ⟨rfl, F, ?_⟩
  have := h.fr (Fr.none_drewN w 1) (fun _ _ h => h)
  exact ⟨(Pk.setE this).1, (Mv.of_none F (Fr.none_drewN w 1)).trans (Pk.setE this).2⟩

theorem fits_lt {size x : Int} (h : fitsB size x = true) : x < 18446744073709551616 := by
  obtain ⟨h1, h2, h3, h4⟩ := of_decide_eq_true h
  have h5 : (256 : Int) ^ size.toNat ≤ 256 ^ 7 := by
    have h6 : (256 : Nat) ^ size.toNat ≤ 256 ^ 7 := Nat.pow_le_pow_right (by decide) (by omega)
    have h7 := Int.ofNat_le.2 h6
    rw [Int.natCast_pow, Int.natCast_pow] at h7
    exact h7
  have h6 : (256 : Int) ^ 7 = 72057594037927936 := by decide
  omega
theorem wrap_small {x : Int} (h : x < 18446744073709551616) (h0 : 0 ≤ x) : IntKind.u64.wrap x = x := by
  rw [IntKind.wrap_u64]; omega

set_option maxRecDepth 100000 in
theorem small_ok (g : Nat) (F : Nat → Prop) (size : Int) (l : List UInt8) (vs : List Int) (A : Option Addr) (n c : Nat) (w : World) (h : Pk w g F 0 l) (hs : fitsB size 0 = true)
    (hr : Rd w 1 A n (vs.map (Value.int .i64))) (hA : ∀ k, adF A n k → ¬ F k) (hn : l.length + 8 * n ≤ 1099511627776) :
    Calls Tryz.prog 44 #[.pointer (some ⟨g, 0, none⟩), .int .i64 size, .slice A n c] w fun r w' => r = .returned (.tuple #[]) ∧ ∃ F', Pk w' g F' (smallGo size l vs).1 (smallGo size l vs).2 ∧ Mv F F' w w' := by
  have c0 := h.c0
  have f0 := h.f0
  have hn' : n ≤ 1099511627776 := by omega
  have Hn := Lib.hid hn
  have HA := Lib.hid hA
  have Hs := Lib.hid hs
  clear hn hA hs
  go_enter Tryz.func44, Tryz.ntmps44
  go_wp2
  go_quiet ((first | (go_at_call 119; exact quiet_left (fits_yes _ _ _ Hs.out)) | (go_at_call 118; exact quiet_left (fail_zero _ _ _ c0 f0))))
  have h0 := h.fr (Fr.none_drewN w nq) (fun _ _ h => h)
  have hr0 := hr.drewN nq
  generalize hw0 : w.drewN nq = w0 at *
  go_wp2
  go_loopw [20] (fun i wr => ∃ (k : Nat) (F' : Nat → Prop) (lk : List UInt8), k ≤ n ∧ i = .int .i64 k ∧ Pk wr g F' 0 lk ∧ Mv F F' w wr ∧ Hid (smallGo size l vs = smallGo size lk (vs.drop k)) ∧ Hid (lk.length ≤ l.length + 7 * k)) (fun i _ => n - (intOf i).toNat)
  case atStart => exact ⟨0, F, l, Nat.zero_le _, rfl, h0, Mv.of_none F (hw0 ▸ Fr.none_drewN w nq), by simp [Hid], by simp [Hid]⟩
  case round =>
    clear hw0 c0 f0
    obtain ⟨k, F', lk, hk, rfl, hp, hm, hgo, hlen⟩ := hrel
    have c1 := hp.c0
    have f1 := hp.f0
    by_cases hlt : k < n
    · have hr' := hr.fr hm.fr HA.out
      obtain ⟨ad, x, rfl, hu, hc⟩ := hr'.at_map hlt
      clear hr'
      have hdrop : vs.drop k = x :: vs.drop (k + 1) := by
        rw [List.drop_eq_getElem?_toList_append, hu]; rfl
      have Hd := Lib.hid hdrop
      have hz := hr.len_map
      have Hz := Lib.hid hz
      clear hu hdrop hz
      by_cases hx : fitsB size x = true
      · have Hx := Lib.hid hx
        have hx0 : 0 ≤ x := (of_decide_eq_true hx).2.2.1
        have hs0 : 0 ≤ size := by have := (of_decide_eq_true hx).1; omega
        have hs7 : size ≤ 7 := (of_decide_eq_true hx).2.1
        clear hx
        go_wp2
        go_quiet ((first | (go_at_call 119; exact quiet_left (fits_yes _ _ _ Hx.out)) | (go_at_call 118; exact quiet_left (fail_zero _ _ _ c1 f1))))
        go_wp2_with fail
        refine (low_int g F' 0 lk (IntKind.u64.wrap x) size _ (hp.fr (Fr.none_drewN wr nq) (fun _ _ h => h)) (by rw [wrap_small (fits_lt Hx.out) hx0]; exact hx0) hs0 ?_).mono ?_
        · have := Hn.out; have := hlen.out; omega
        rintro r w1 ⟨rfl, F1, hp1, hm1⟩
        rw [wrap_small (fits_lt Hx.out) hx0] at hp1
        clear hp hc c1 f1
        go_wp2
        go_roundw
        case rel =>
          refine ⟨k + 1, F1, _, by omega, by go_num, hp1, hm.trans ((Mv.of_none F' (Fr.none_drewN wr nq)).trans hm1), ?_, ?_⟩
          · show smallGo size l vs = _
            rw [hgo.out, Hd.out]
            simp only [smallGo, Hx.out, if_true]
          · have := hlen.out
            show List.length _ ≤ _
            simp only [List.length_append, le_length]; omega
        case measure => simp [intOf]; omega
      · have Hx := Lib.hid (show fitsB size x = false by simpa using hx)
        clear hx
        go_wp2
        go_still_tail 6, (by kernel_rfl)
        still_call (still_left (fits_bad _ _ _ Hx.out))
        repeat still_step
        refine wpStill_nil ?_
        change wpList _ _ _ _ _ wr.drew
        go_wp2_with fail
        refine (fail_new _ _ wr.drew c1 f1).mono ?_
        rintro r w1 ⟨rfl, rfl⟩
        go_wp2
        have h3 := hp.fr (Fr.none_drewN wr 1) (fun _ _ h => h)
        refine bodyPost_ret (results_none rfl _ _ _) rfl ⟨rfl, F', ?_⟩
        rw [hgo.out, Hd.out]
        simp only [smallGo, Hx.out, Bool.false_eq_true, if_false]
        exact ⟨(Pk.setE h3).1, hm.trans ((Mv.of_none F' (Fr.none_drewN wr 1)).trans (Pk.setE h3).2)⟩
    · go_wp2
      go_end0
      have hz := hr.len_map
      rw [hgo.out, List.drop_eq_nil_of_le (by omega)]
      exact ⟨rfl, F', hp, hm⟩

theorem small_any (g : Nat) (F : Nat → Prop) (e size : Int) (l : List UInt8) (vs : List Int) (A : Option Addr) (n c : Nat) (w : World) (h : Pk w g F e l)
    (hr : Rd w 1 A n (vs.map (Value.int .i64))) (hA : ∀ k, adF A n k → ¬ F k) (hn : l.length + 8 * n ≤ 1099511627776) :
    Calls Tryz.prog 44 #[.pointer (some ⟨g, 0, none⟩), .int .i64 size, .slice A n c] w fun r w' => r = .returned (.tuple #[]) ∧ ∃ F', Pk w' g F' (pSmall size e l vs).1 (pSmall size e l vs).2 ∧ Mv F F' w w' := by
  by_cases he : e = 0
  · subst he
    by_cases hs : fitsB size 0 = true
    · simpa [pSmall, hs] using small_ok g F size l vs A n c w h hs hr hA hn
    · simpa [pSmall, hs] using small_size g F size l A n c w h (by simpa using hs)
  · refine (small_err g F e size l A n c w h (by simpa using he) (by simpa using he)).mono fun r w' ⟨h1, m, h2⟩ => ⟨h1, F, ?_, ?_⟩
    · subst h2
      simpa [pSmall, he] using h.fr (Fr.none_drewN w m) (fun _ _ h => h)
    · subst h2
      exact Mv.of_none F (Fr.none_drewN w m)
end Go.Proofs.YteajonicnkpbbaaGreatDoor
namespace Go.Proofs.YteajonicnkpbbaaGreatDoor
set_option linter.all false
open Go.RowKit

def PkR (w : World) (g : Nat) (A : Option Addr) (m c : Nat) (e : Int) (l : List UInt8) : Prop :=
  Blk w g 106 #[.int .i64 e, .slice A m c] ∧ w.ownsRow 0 5 1 (.slice A m c) m (bys l)
def pkF (g : Nat) (A : Option Addr) (m c : Nat) : Nat → Prop := fun k => k = g ∨ rowF (.slice A m c) k
section
variable {w w1 : World} {g m c m' c' : Nat} {A A' : Option Addr} {e : Int} {l l' : List UInt8}
theorem PkR.pk (h : PkR w g A m c e l) : Pk w g (pkF g A m c) e l := ⟨A, m, c, h.1, h.2, rfl⟩
theorem Pk.open_ {F : Nat → Prop} (h : Pk w g F e l) : ∃ A m c, PkR w g A m c e l ∧ F = pkF g A m c := by
  obtain ⟨A, m, c, h1, h2, h3⟩ := h
  exact ⟨A, m, c, ⟨h1, h2⟩, h3⟩
theorem PkR.len (h : PkR w g A m c e l) : m = l.length := by have := h.2.1; rw [bys_length] at this; omega
theorem PkR.c1 (h : PkR w g A m c e l) : w.cell? ⟨g, 1, none⟩ = some (.slice A m c) := h.1.cell 1
theorem PkR.c0 (h : PkR w g A m c e l) : w.cell? ⟨g, 0, none⟩ = some (.int .i64 e) := h.1.cell 0
theorem PkR.f0 (h : PkR w g A m c e l) : w.frozen? ⟨g, 0, none⟩ = false := h.1.frozen 0
theorem PkR.f1 (h : PkR w g A m c e l) : w.frozen? ⟨g, 1, none⟩ = false := h.1.frozen 1
theorem PkR.ne (h : PkR w g A m c e l) : ¬ rowF (.slice A m c) g := own_blk_ne h.2 h.1 (by decide)
theorem PkR.after {G : Nat → Prop} {w0 : World} (h : PkR w0 g A m c e l) (hm : Mv (rowF (.slice A m c)) G w0 w1) : Blk w1 g 106 #[.int .i64 e, .slice A m c] := h.1.fr hm.fr h.ne
theorem PkR.push {w0 : World} (hb : Blk w1 g 106 #[.int .i64 e, .slice A m c])
    (ho : w1.ownsRow 0 5 1 (.slice A' m' c') m' (bys l)) (hm : Mv (rowF (.slice A m c)) (rowF (.slice A' m' c')) w0 w1) :
    PkR (w1.setCell ⟨g, 1, none⟩ (.slice A' m' c')) g A' m' c' e l ∧ Mv (pkF g A m c) (pkF g A' m' c') w0 (w1.setCell ⟨g, 1, none⟩ (.slice A' m' c')) := by
  have hne : ¬ rowF (.slice A' m' c') g := own_blk_ne ho hb (by decide)
  have hs : Fr (fun k => k = g) w1 (w1.setCell ⟨g, 1, none⟩ (.slice A' m' c')) := (Fr.refl (fun k => k = g) w1).setCell (p := ⟨g, 1, none⟩) (.inl rfl) _
  refine ⟨⟨hb.set_ 1 _, own_fr ho hs (fun k hk hg => hne (hg ▸ hk))⟩, ⟨?_, ?_⟩⟩
  · refine (hm.fr.mono (fun i hi => .inl (.inr hi))).trans hs (fun i hi => .inl (.inl hi))
  · rintro k (hk | hk)
    · exact .inl (.inl hk)
    · exact (hm.sub k hk).imp .inr id
theorem PkR.fr {G : Nat → Prop} (h : PkR w g A m c e l) (hf : Fr G w w1) (hn : ∀ k, pkF g A m c k → ¬ G k) : PkR w1 g A m c e l :=
  ⟨h.1.fr hf (hn g (.inl rfl)), own_fr h.2 hf (fun k hk => hn k (.inr hk))⟩
theorem PkR.fr0 (h : PkR w g A m c e l) (hf : Fr (fun _ => False) w w1) : PkR w1 g A m c e l := h.fr hf (fun _ _ h => h)
end

theorem Pk.cast {w : World} {g : Nat} {F : Nat → Prop} {e : Int} {l l' : List UInt8} (h : Pk w g F e l) (hl : l = l') : Pk w g F e l' := hl ▸ h

theorem wpList_app_str {w : World} {ops : Array Oper} {rest : List Oper} {o : Oper} {a : Act} {Q : Exit → Act → World → Prop} (hgd : o.guard = none) (s x : Operand)
    (ho : o.op = .call { callee := .builtin .append, args := #[s, x], argTypes := #[104, 9] })
    (v : Value) (n : Nat) (l : List UInt8) (hs : a.eval s = v) (hown : w.ownsRow 0 5 1 v n (bys l)) (t : ByteArray) (hx : a.eval x = .string t)
    (hb : n + t.size ≤ 2199023255552)
    (h : ∀ A' c' w', w'.ownsRow 0 5 1 (.slice A' (n + t.size) c') (n + t.size) (bys (l ++ t.data.toList)) → Mv (rowF v) (rowF (.slice A' (n + t.size) c')) w w' → wpList Tryz.prog ops Q rest (a.put o.dst (.slice A' (n + t.size) c')) w') : wpList Tryz.prog ops Q (o :: rest) a w := by
  obtain ⟨i0, hi, hz0, hz1, hz2⟩ := info_parts info_u8
  exact wpList_app_string hgd s x 104 9 ho 5 i0 Tryz.underlying104 Tryz.underlying9 hi hz0 hz1 hz2 v n (bys l) hs hown t hx (by unfold maxLen; omega) (by omega) (fun A' c' w' h1 h2 => h A' c' w' (by rw [bys_append]; exact h1) h2)

def textB (s : ByteArray) : List UInt8 := le s.size 2 ++ s.data.toList
def pText (e : Int) (l : List UInt8) (s : ByteArray) : Int × List UInt8 := if e = 0 then (if 60000 < s.size then (2, l) else (0, l ++ textB s)) else (e, l)

set_option maxRecDepth 100000 in
theorem text_any (g : Nat) (F : Nat → Prop) (e : Int) (l : List UInt8) (s : ByteArray) (w : World) (h : Pk w g F e l) (hn : l.length ≤ 549755813888) (hs : s.size ≤ 1099511627776) :
    Calls Tryz.prog 43 #[.pointer (some ⟨g, 0, none⟩), .string s] w fun r w' => r = .returned (.tuple #[]) ∧ ∃ F', Pk w' g F' (pText e l s).1 (pText e l s).2 ∧ Mv F F' w w' := by
  obtain ⟨A1, m1, c1', hp, rfl⟩ := h.open_
  have c0 := hp.c0
  have f0 := hp.f0
  by_cases he : e = 0
  · subst he
    by_cases hx : 60000 < s.size
    · go_enter Tryz.func43, Tryz.ntmps43
      go_wp2_with fail
      refine (fail_new _ _ w c0 f0).mono ?_
      rintro r w1 ⟨rfl, rfl⟩
      go_wp2
      refine bodyPost_ret (results_none rfl _ _ _) rfl ⟨rfl, pkF g A1 m1 c1', ?_⟩
      simp only [pText, if_pos hx, if_true]
      exact Pk.setE hp.pk
    · go_enter Tryz.func43, Tryz.ntmps43
      go_wp2_with fail
      refine (fail_zero _ _ w c0 f0).mono ?_
      rintro r w1 ⟨rfl, rfl⟩
      clear c0 f0
      go_wp2_with fail
      refine (low_int g _ 0 l s.size 2 _ hp.pk (by omega) (by omega) (by omega)).mono ?_
      rintro r w2 ⟨rfl, F2, hp2, hm2⟩
      obtain ⟨A2, m2, c2', hq, rfl⟩ := hp2.open_
      have c1 := hq.c1
      have f1 := hq.f1
      have hml := hq.len
      have Hml := Lib.hid hml
      clear hml hp2
      go_wp2_with (at_builtin; refine wpList_app_str rfl (.tmp 26) (.tmp 27) rfl _ m2 _ rfl hq.2 s rfl ?c4 ?_)
      case c4 => have := Hml.out; simp only [List.length_append, le_length] at this; omega
      intro A3 c3 w3 ho3 hm3
      have hb3 := hq.after hm3
      obtain ⟨hp3, hm3'⟩ := PkR.push hb3 ho3 hm3
      have j1 := hb3.cell 1
      have j2 := hb3.frozen 1
      simp only [List.getElem?_toArray, List.getElem?_cons_succ, List.getElem?_cons_zero] at j1
      have Hp3 := Lib.hid hp3
      have Hm3 := Lib.hid hm3'
      clear hp3 hm3' hb3 ho3 hm3 c1 f1
      go_wp2
      go_end0
      refine ⟨rfl, pkF g A3 (m2 + s.size) c3, ?_⟩
      simp only [pText, if_neg hx, if_true]
      exact ⟨Hp3.out.pk.cast (by simp [textB]), hm2.trans Hm3.out⟩
  · have he1 : (e == 0) = false := by simpa using he
    have he2 : (e != 0) = true := by simpa using he
    have He := Lib.hid he
    clear he
    by_cases hx : 60000 < s.size
    all_goals
      go_enter Tryz.func43, Tryz.ntmps43
      go_wp2_with fail
      refine (fail_keep _ _ _ w c0 he1 he2).mono ?_
      rintro r w1 ⟨rfl, rfl⟩
      go_wp2
      refine bodyPost_ret (results_none rfl _ _ _) rfl ⟨rfl, pkF g A1 m1 c1', ?_⟩
      simp only [pText, if_neg He.out]
      exact ⟨hp.pk, Mv.refl _ _⟩

theorem len_any (g : Nat) (F : Nat → Prop) (e : Int) (l : List UInt8) (w : World) (h : Pk w g F e l) (hn : l.length ≤ 1099511627776) :
    Calls Tryz.prog 45 #[.pointer (some ⟨g, 0, none⟩)] w fun r w' => r = .returned (.int .i64 l.length) ∧ w = w' := by
  obtain ⟨A1, m1, c1', hp, rfl⟩ := h.open_
  have c1 := hp.c1
  have hml := hp.len
  have Hml := Lib.hid hml
  have hm1 : m1 ≤ 1099511627776 := by omega
  clear hml
  go_enter Tryz.func45, Tryz.ntmps45
  go_wp2
  go_ret
  exact ⟨ret_int (by rw [Hml.out]), rfl⟩

set_option maxRecDepth 100000 in
theorem done_ok (g : Nat) (F : Nat → Prop) (l : List UInt8) (w : World) (h : Pk w g F 0 l) :
    Calls Tryz.prog 46 #[.pointer (some ⟨g, 0, none⟩)] w fun r w' => r = .returned (.tuple #[.string ⟨l.toArray⟩, .int .i64 0]) ∧ w = w' := by
  obtain ⟨A1, m1, c1', hp, rfl⟩ := h.open_
  have c0 := hp.c0
  have c1 := hp.c1
  have hcv := run_bytes_string (P := Tryz.prog) 104 9 5 Tryz.underlying104 Tryz.underlying5 Tryz.underlying9 c1' (Rd.of_own hp.2)
  go_enter Tryz.func46, Tryz.ntmps46
  go_wp2
  go_ret2
  exact ⟨rfl, rfl⟩
end Go.Proofs.YteajonicnkpbbaaGreatDoor
namespace Go.Proofs.YteajonicnkpbbaaGreatDoor
set_option linter.all false
open Go.RowKit

def bstr (l : List UInt8) : ByteArray := ⟨l.toArray⟩
theorem bstr_size (l : List UInt8) : (bstr l).size = l.length := by simp [bstr, ByteArray.size]
theorem bstr_list (l : List UInt8) : (bstr l).data.toList = l := by simp [bstr]
theorem bstr_of (s : ByteArray) : s = bstr s.data.toList := by simp [bstr]
theorem bstr_extract (l : List UInt8) (i j : Nat) : (bstr l).extract i j = bstr ((l.take j).drop i) := by
  apply ByteArray.ext
  simp [bstr, List.drop_take]

def Up (w : World) (g : Nat) (e : Int) (b : List UInt8) : Prop := Blk w g 177 #[.int .i64 e, .string (bstr b)]

theorem clone_any (l : List UInt8) (w : World) (h : l.length ≤ 1099511627776) :
    Calls Tryz.prog 122 #[.string (bstr l)] w fun r w' => r = .returned (.string (bstr l)) ∧ Below w.heap.size w w' := by
  have hs : (bstr l).size ≤ 281474976710656 := by rw [bstr_size]; omega
  have Hs := Lib.hid hs
  clear hs h
  go_enter Tryz.func122, Tryz.ntmps122
  go_wp2_with fail
  refine (Tryz.stringslite_Clone _ _ Hs.out).mono ?_
  rintro r w1 ⟨rfl, hb⟩
  have Hb := Lib.hid hb
  clear hb
  go_wp2
  go_ret
  exact ⟨rfl, Hb.out⟩

theorem from_any (l : List UInt8) (w : World) (h : l.length ≤ 1099511627776) :
    Calls Tryz.prog 50 #[.string (bstr l)] w fun r w' => ∃ g, r = .returned (.pointer (some ⟨g, 0, none⟩)) ∧ Up w' g 0 l ∧ Below w.heap.size w w' ∧ w.heap.size ≤ g := by
  go_enter Tryz.func50, Tryz.ntmps50
  go_wp2_with fail
  refine (clone_any l _ h).mono ?_
  rintro r w1 ⟨rfl, hb⟩
  have Hb := Lib.hid hb
  clear hb
  go_wp2
  go_ret
  exact ⟨w1.heap.size, rfl, Blk.new _ _ _, Hb.out.alloc Hb.out.size _, Hb.out.size⟩

def uTake (e : Int) (b : List UInt8) (n : Nat) : Int × List UInt8 × List UInt8 :=
  if e = 0 then (if b.length < n then (5, b, []) else (0, b.drop n, b.take n)) else (e, b, [])
theorem Up.setE {w : World} {g : Nat} {e e' : Int} {b : List UInt8} (h : Up w g e b) : Up (w.setCell ⟨g, 0, none⟩ (.int .i64 e')) g e' b ∧ Fr (fun k => k = g) w (w.setCell ⟨g, 0, none⟩ (.int .i64 e')) :=
  ⟨h.set_ 0 _, (Fr.refl (fun k => k = g) w).setCell (p := ⟨g, 0, none⟩) (.inl rfl) _⟩
theorem Up.setB {w : World} {g : Nat} {e : Int} {b b' : List UInt8} (h : Up w g e b) : Up (w.setCell ⟨g, 1, none⟩ (.string (bstr b'))) g e b' ∧ Fr (fun k => k = g) w (w.setCell ⟨g, 1, none⟩ (.string (bstr b'))) :=
  ⟨h.set_ 1 _, (Fr.refl (fun k => k = g) w).setCell (p := ⟨g, 1, none⟩) (.inl rfl) _⟩

set_option maxRecDepth 100000 in
theorem take_any (g : Nat) (e : Int) (b : List UInt8) (n : Nat) (w : World) (h : Up w g e b) (hb : b.length ≤ 1099511627776) (hn : n ≤ 1099511627776) :
    Calls Tryz.prog 124 #[.pointer (some ⟨g, 0, none⟩), .int .i64 n] w fun r w' => r = .returned (.string (bstr (uTake e b n).2.2)) ∧ Up w' g (uTake e b n).1 (uTake e b n).2.1 ∧ Fr (fun k => k = g) w w' := by
  have c0 := h.cell 0
  have c1 := h.cell 1
  have f0 := h.frozen 0
  have f1 := h.frozen 1
  simp only [List.getElem?_toArray, List.getElem?_cons_succ, List.getElem?_cons_zero] at c0 c1
  have hsz := bstr_size b
  by_cases he : e = 0
  · subst he
    by_cases hl : b.length < n
    · have hl' : (bstr b).size < n := by omega
      have Hz := Lib.hid hsz
      clear hsz
      go_enter Tryz.func124, Tryz.ntmps124
      go_wp2_with fail
      refine (fail_new _ _ w c0 f0).mono ?_
      rintro r w1 ⟨rfl, rfl⟩
      go_wp2
      go_ret
      simp only [uTake, if_true, if_pos hl]
      exact ⟨rfl, h.setE⟩
    · have hl' : n ≤ (bstr b).size := by omega
      have hb' : (bstr b).size ≤ 1099511627776 := by omega
      have Hz := Lib.hid hsz
      clear hsz
      go_enter Tryz.func124, Tryz.ntmps124
      go_wp2
      go_ret
      simp only [uTake, if_true, if_neg hl]
      have e1 : (bstr b).extract 0 n = bstr (b.take n) := by rw [bstr_extract]; simp
      have e2 : (bstr b).extract n (bstr b).size = bstr (b.drop n) := by rw [bstr_extract, List.take_of_length_le (by rw [Hz.out]; exact Nat.le_refl _)]
      rw [e1, e2]
      exact ⟨rfl, h.setB⟩
  · have he1 : (e == 0) = false := by simpa using he
    have he2 : (e != 0) = true := by simpa using he
    have He := Lib.hid he
    clear he hsz
    go_enter Tryz.func124, Tryz.ntmps124
    go_wp2
    go_ret
    simp only [uTake, if_neg He.out]
    exact ⟨rfl, h, Fr.refl _ _⟩

theorem take_int (g : Nat) (e : Int) (b : List UInt8) (n : Int) (w : World) (h : Up w g e b) (hb : b.length ≤ 1099511627776) (h0 : 0 ≤ n) (hn : n ≤ 1099511627776) :
    Calls Tryz.prog 124 #[.pointer (some ⟨g, 0, none⟩), .int .i64 n] w fun r w' => r = .returned (.string (bstr (uTake e b n.toNat).2.2)) ∧ Up w' g (uTake e b n.toNat).1 (uTake e b n.toNat).2.1 ∧ Fr (fun k => k = g) w w' := by
  obtain ⟨m, rfl⟩ := Int.eq_ofNat_of_zero_le h0
  exact take_any g e b m w h hb (by omega)
def ofLe : List UInt8 → Nat
  | [] => 0
  | b :: t => b.toNat + 256 * ofLe t
theorem ofLe_le (x k : Nat) : ofLe (le x k) = x % 256 ^ k := by
  induction k generalizing x with
  | zero => simp [le, ofLe, Nat.mod_one]
  | succ k ih =>
    rw [le, ofLe, ih, Nat.pow_succ, Nat.mul_comm (256 ^ k) 256, Nat.mod_mul]
    simp
theorem ofLe_lt (l : List UInt8) : ofLe l < 256 ^ l.length := by
  induction l with
  | nil => simp [ofLe]
  | cons b t ih =>
    have := b.toNat_lt
    rw [ofLe, List.length_cons, Nat.pow_succ]
    omega
theorem ofLe_snoc (l : List UInt8) (b : UInt8) : ofLe (l ++ [b]) = ofLe l + b.toNat * 256 ^ l.length := by
  induction l with
  | nil => simp [ofLe]
  | cons c t ih =>
    rw [List.cons_append, ofLe, ih, ofLe, List.length_cons, Nat.pow_succ, Nat.mul_add, Nat.mul_comm (256 ^ t.length) 256]
    rw [Nat.mul_left_comm, Nat.add_assoc]

theorem or_byte {k v x : Nat} (hk : k < 8) (hv : v < 256 ^ k) (hx : x < 256) : bits .or .u64 (v : Int) (IntKind.u64.wrap ((x : Int) * 2 ^ (8 * k))) = ((v + x * 256 ^ k : Nat) : Int) := by
  have e1 : ((x : Int) * 2 ^ (8 * k)) = ((x * 256 ^ k : Nat) : Int) := by
    rw [pow_bytes]; simp
  have h1 : 256 ^ (k + 1) ≤ 256 ^ 8 := Nat.pow_le_pow_right (by decide) (by omega)
  have h2 : (256 : Nat) ^ 8 = 18446744073709551616 := by decide
  have h3 : (x + 1) * 256 ^ k ≤ 256 * 256 ^ k := Nat.mul_le_mul_right _ (by omega)
  have h4 : 256 * 256 ^ k = 256 ^ (k + 1) := by rw [Nat.pow_succ, Nat.mul_comm]
  have h5 : (x + 1) * 256 ^ k = x * 256 ^ k + 256 ^ k := by rw [Nat.add_mul, Nat.one_mul]
  have h6 : x * 256 ^ k < 18446744073709551616 := by omega
  rw [e1, IntKind.wrap_u64, show (((x * 256 ^ k : Nat) : Int) % 18446744073709551616) = ((x * 256 ^ k : Nat) : Int) by omega, u64_or_nat _ _ (by omega) h6]
  congr 1
  have e2 : x * 256 ^ k = 2 ^ (8 * k) * x := by rw [Nat.pow_mul, Nat.mul_comm]
  rw [e2, Nat.or_comm, ← Nat.two_pow_add_eq_or_of_lt (by rw [Nat.pow_mul]; exact hv) x, Nat.add_comm]

set_option maxRecDepth 100000 in
theorem high_any (b : List UInt8) (w : World) (hb : b.length ≤ 8) :
    Calls Tryz.prog 123 #[.string (bstr b)] w fun r w' => r = .returned (.int .u64 (ofLe b)) ∧ Below w.heap.size w w' := by
  obtain ⟨c, w1, hcv, hfr, hrd⟩ := run_bytes_of (P := Tryz.prog) (w := w) 9 104 5 Tryz.underlying9 Tryz.underlying104 Tryz.underlying5 (bstr b)
  rw [bstr_list] at hrd
  have hz := bstr_size b
  generalize hn : (bstr b).size = n at *
  have Hn := Lib.hid hn
  have Hz := Lib.hid hz
  have hn8 : n ≤ 8 := by omega
  clear hn hz
  go_enter Tryz.func123, Tryz.ntmps123
  go_wp2
  go_loop [3, 9] (fun v i => ∃ k : Nat, k ≤ n ∧ i = .int .i64 k ∧ v = .int .u64 (ofLe (b.take k))) (fun _ i => n - (intOf i).toNat)
  case atStart => exact ⟨0, Nat.zero_le _, rfl, rfl⟩
  case round =>
    obtain ⟨k, hk, rfl, rfl⟩ := hrel
    by_cases hlt : k < n
    · obtain ⟨ad, x, hA, hu, hc⟩ := hrd.at_map hlt
      injection hA with hA
      subst hA
      have Hu := Lib.hid hu
      have hx := x.toNat_lt
      clear hu
      rw [add_lit, Nat.zero_add] at hc
      have hvl := ofLe_lt (b.take k)
      generalize hv : ofLe (b.take k) = v at *
      have Hv := Lib.hid hv
      have Hvl := Lib.hid hvl
      clear hv hvl
      go_wp2
      go_round
      case rel => exact ⟨k + 1, by omega, by go_num, by rw [or_byte (by omega) (by have := Hvl.out; rwa [List.length_take, Nat.min_eq_left (by have := Hn.out; have := Hz.out; omega)] at this) hx, take_snoc Hu.out, ofLe_snoc, Hv.out, List.length_take, Nat.min_eq_left (by have := Hn.out; have := Hz.out; omega)]⟩
      case measure => simp [intOf]; omega
    · go_wp2
      go_ret
      rw [List.take_of_length_le (by have := Hn.out; have := Hz.out; omega)]
      exact ⟨rfl, hfr.below (fun _ h => h.elim)⟩

theorem bad_any (g : Nat) (e : Int) (b : List UInt8) (w : World) (h : Up w g e b) :
    Calls Tryz.prog 55 #[.pointer (some ⟨g, 0, none⟩)] w fun r w' => r = .returned (.int .i64 e) ∧ w = w' := by
  have c0 := h.cell 0
  simp only [List.getElem?_toArray, List.getElem?_cons_succ, List.getElem?_cons_zero] at c0
  go_enter Tryz.func55, Tryz.ntmps55
  go_wp2
  go_ret
  exact ⟨rfl, rfl⟩
theorem uTake_len (e : Int) (b : List UInt8) (n : Nat) : (uTake e b n).2.2.length ≤ n := by
  unfold uTake
  split
  · split <;> simp <;> omega
  · simp

theorem word_any (g : Nat) (e : Int) (b : List UInt8) (w : World) (h : Up w g e b) (hb : b.length ≤ 1099511627776) :
    Calls Tryz.prog 51 #[.pointer (some ⟨g, 0, none⟩)] w fun r w' => r = .returned (.int .u64 (ofLe (uTake e b 8).2.2)) ∧ Up w' g (uTake e b 8).1 (uTake e b 8).2.1 ∧ Fr (fun k => k = g) w w' := by
  have hl := uTake_len e b 8
  have hc := take_int g e b 8 w h hb (by omega) (by omega)
  rw [show Int.toNat 8 = 8 from rfl] at hc
  generalize uTake e b 8 = t at *
  have Hl := Lib.hid hl
  have Hc := Lib.hid hc
  clear hl hc h
  go_enter Tryz.func51, Tryz.ntmps51
  go_wp2_with fail
  refine Hc.out.mono ?_
  rintro r w1 ⟨rfl, hu, hf⟩
  go_wp2_with fail
  refine (high_any t.2.2 w1 Hl.out).mono ?_
  rintro r w2 ⟨rfl, hb2⟩
  have Hb2 := Lib.hid hb2
  clear hb2
  go_wp2
  go_ret
  exact ⟨rfl, Blk.fr hu (Fr.of_below Hb2.out (F := fun _ => False)) (fun h => h), hf.trans (Fr.of_below Hb2.out (F := fun _ => False)) (fun _ h => h.elim)⟩
def sgn (n : Nat) : Int := if n < 9223372036854775808 then n else (n : Int) - 18446744073709551616
theorem wrap_sgn (n : Nat) (h : n < 18446744073709551616) : IntKind.i64.wrap (n : Int) = sgn n := by
  rw [IntKind.wrap_i64]
  unfold sgn
  split <;> omega

theorem int_any (g : Nat) (e : Int) (b : List UInt8) (w : World) (h : Up w g e b) (hb : b.length ≤ 1099511627776) :
    Calls Tryz.prog 52 #[.pointer (some ⟨g, 0, none⟩)] w fun r w' => r = .returned (.int .i64 (sgn (ofLe (uTake e b 8).2.2))) ∧ Up w' g (uTake e b 8).1 (uTake e b 8).2.1 ∧ Fr (fun k => k = g) w w' := by
  have hl := uTake_len e b 8
  have hc := word_any g e b w h hb
  generalize uTake e b 8 = t at *
  have hv := ofLe_lt t.2.2
  have hp := Nat.pow_le_pow_right (show 256 > 0 by decide) hl
  have hv2 : ofLe t.2.2 < 18446744073709551616 := by have : (256 : Nat) ^ 8 = 18446744073709551616 := by decide
                                                     omega
  have Hv := Lib.hid hv2
  have Hc := Lib.hid hc
  clear hl hv hp hv2 hc h
  go_enter Tryz.func52, Tryz.ntmps52
  go_wp2_with fail
  refine Hc.out.mono ?_
  rintro r w1 ⟨rfl, hu, hf⟩
  go_wp2
  go_ret
  exact ⟨ret_int ((IntWalk.i64_left _).symm.trans (wrap_sgn _ Hv.out)), hu, hf⟩
end Go.Proofs.YteajonicnkpbbaaGreatDoor
namespace Go.Proofs.YteajonicnkpbbaaGreatDoor
set_option linter.all false
open Go.RowKit

theorem Up.c0 {w : World} {g : Nat} {e : Int} {b : List UInt8} (h : Up w g e b) : w.cell? ⟨g, 0, none⟩ = some (.int .i64 e) := h.cell 0
theorem Up.c1 {w : World} {g : Nat} {e : Int} {b : List UInt8} (h : Up w g e b) : w.cell? ⟨g, 1, none⟩ = some (.string (bstr b)) := h.cell 1
theorem Up.fr0 {w w' : World} {g : Nat} {e : Int} {b : List UInt8} (h : Up w g e b) (hf : Fr (fun _ => False) w w') : Up w' g e b := Blk.fr h hf (fun h => h)

def uSmall (size : Int) (e : Int) (b : List UInt8) : Int × List UInt8 × Nat :=
  if e = 0 then (if fitsB size 0 = true then ((uTake 0 b size.toNat).1, (uTake 0 b size.toNat).2.1, ofLe (uTake 0 b size.toNat).2.2) else (1, b, 0)) else (e, b, 0)

theorem usmall_err (g : Nat) (e size : Int) (b : List UInt8) (w : World) (h : Up w g e b) (he1 : (e == 0) = false) (he2 : (e != 0) = true) :
    Calls Tryz.prog 56 #[.pointer (some ⟨g, 0, none⟩), .int .i64 size] w fun r w' => r = .returned (.int .i64 0) ∧ ∃ m, w' = w.drewN m := by
  have c0 := h.c0
  go_enter Tryz.func56, Tryz.ntmps56
  go_wp2
  go_quiet ((first | (go_at_call 119; exact quiet_left (fits_any _ _ _)) | (go_at_call 118; exact quiet_left (fail_keep _ _ _ _ c0 he1 he2))))
  go_wp2
  go_ret
  exact ⟨rfl, nq, rfl⟩
set_option maxRecDepth 100000 in
theorem usmall_size (g : Nat) (size : Int) (b : List UInt8) (w : World) (h : Up w g 0 b) (hs : fitsB size 0 = false) :
    Calls Tryz.prog 56 #[.pointer (some ⟨g, 0, none⟩), .int .i64 size] w fun r w' => r = .returned (.int .i64 0) ∧ Up w' g 1 b ∧ Fr (fun k => k = g) w w' := by
  have c0 := h.c0
  have f0 := h.frozen 0
  go_enter Tryz.func56, Tryz.ntmps56
  go_wp2
  go_still_tail 8, (by kernel_rfl)
  still_call (still_left (fits_bad _ _ _ hs))
  repeat still_step
  refine wpStill_nil ?_
  change wpList _ _ _ _ _ w.drew
  go_wp2_with fail
  refine (fail_new _ _ w.drew c0 f0).mono ?_
  rintro r w1 ⟨rfl, rfl⟩
  go_wp2
  go_ret
  have h1 : Up w.drew g 0 b := h
  exact ⟨rfl, h1.setE.1, ((Fr.refl _ w).drew).trans h1.setE.2 (fun _ h => .inl h)⟩

theorem fits_of {size x : Int} (h : fitsB size x = true) : 1 ≤ size ∧ size ≤ 7 ∧ 0 ≤ x ∧ x < 256 ^ size.toNat := of_decide_eq_true h
theorem ofLe_lt8 {l : List UInt8} {k : Nat} (h : l.length ≤ k) (hk : k ≤ 7) : ofLe l < 72057594037927936 := by
  have h1 := ofLe_lt l
  have h2 := Nat.pow_le_pow_right (show 256 > 0 by decide) (Nat.le_trans h hk)
  have h3 : (256 : Nat) ^ 7 = 72057594037927936 := by decide
  omega
set_option maxRecDepth 100000 in
theorem usmall_ok (g : Nat) (size : Int) (b : List UInt8) (w : World) (h : Up w g 0 b) (hs : fitsB size 0 = true) (hb : b.length ≤ 1099511627776) :
    Calls Tryz.prog 56 #[.pointer (some ⟨g, 0, none⟩), .int .i64 size] w fun r w' => r = .returned (.int .i64 (ofLe (uTake 0 b size.toNat).2.2)) ∧ Up w' g (uTake 0 b size.toNat).1 (uTake 0 b size.toNat).2.1 ∧ Fr (fun k => k = g) w w' := by
  have c0 := h.c0
  have f0 := h.frozen 0
  have Hs := Lib.hid hs
  obtain ⟨s1, s7, _, _⟩ := fits_of hs
  have hl := uTake_len 0 b size.toNat
  have hc : ∀ w, Up w g 0 b → Calls Tryz.prog 124 #[.pointer (some ⟨g, 0, none⟩), .int .i64 size] w fun r w' => r = .returned (.string (bstr (uTake 0 b size.toNat).2.2)) ∧ Up w' g (uTake 0 b size.toNat).1 (uTake 0 b size.toNat).2.1 ∧ Fr (fun k => k = g) w w' :=
    fun w hw => take_int g 0 b size w hw hb (by omega) (by omega)
  generalize uTake 0 b size.toNat = t at *
  have hv := ofLe_lt8 hl (by omega)
  have Hc := Lib.hid hc
  have Hl := Lib.hid hl
  clear hc hl hs
  go_enter Tryz.func56, Tryz.ntmps56
  go_wp2
  go_quiet ((first | (go_at_call 119; exact quiet_left (fits_yes _ _ _ Hs.out)) | (go_at_call 118; exact quiet_left (fail_zero _ _ _ c0 f0))))
  go_wp2_with fail
  refine (Hc.out _ (h.fr0 (Fr.none_drewN w nq))).mono ?_
  rintro r w1 ⟨rfl, hu, hf⟩
  have Hf := Lib.hid (((Fr.refl (fun k => k = g) w).drewN nq).trans hf (fun _ h => .inl h))
  clear hf c0 f0
  go_wp2_with fail
  refine (high_any t.2.2 w1 (by have := Hl.out; omega)).mono ?_
  rintro r w2 ⟨rfl, hb2⟩
  have Hb2 := Lib.hid hb2
  clear hb2
  go_wp2
  go_ret
  exact ⟨rfl, hu.fr0 (Fr.of_below Hb2.out), Hf.out.trans (Fr.of_below Hb2.out (F := fun _ => False)) (fun _ h => h.elim)⟩

theorem usmall_any (g : Nat) (e size : Int) (b : List UInt8) (w : World) (h : Up w g e b) (hb : b.length ≤ 1099511627776) :
    Calls Tryz.prog 56 #[.pointer (some ⟨g, 0, none⟩), .int .i64 size] w fun r w' => r = .returned (.int .i64 (uSmall size e b).2.2) ∧ Up w' g (uSmall size e b).1 (uSmall size e b).2.1 ∧ Fr (fun k => k = g) w w' := by
  by_cases he : e = 0
  · subst he
    by_cases hs : fitsB size 0 = true
    · simpa [uSmall, hs] using usmall_ok g size b w h hs hb
    · simpa [uSmall, hs] using usmall_size g size b w h (by simpa using hs)
  · refine (usmall_err g e size b w h (by simpa using he) (by simpa using he)).mono fun r w' ⟨h1, m, h2⟩ => ?_
    subst h2
    simp only [uSmall, if_neg he]
    exact ⟨h1, h.fr0 (Fr.none_drewN w m), (Fr.refl _ w).drewN m⟩

def uText (e : Int) (b : List UInt8) : Int × List UInt8 × List UInt8 :=
  if e = 0 then (if b.length < 2 then (5, b, []) else if b.length - 2 < ofLe (b.take 2) then (5, b, []) else (0, b.drop (2 + ofLe (b.take 2)), (b.drop 2).take (ofLe (b.take 2)))) else (e, b, [])

def UInv (g : Nat) (b : List UInt8) (w w' : World) : Prop := Up w' g 0 b ∧ Fr (fun _ => False) w w'
theorem UInv.start {g : Nat} {b : List UInt8} {w : World} (h : Up w g 0 b) : UInv g b w w.drew := ⟨h, (Fr.refl _ w).drew⟩
theorem uhigh {g : Nat} {b : List UInt8} {w : World} (l : List UInt8) (w' : World) (hl : l.length ≤ 8) (h : w'.cell? ⟨g, 1, none⟩ = some (.string (bstr b)) ∧ UInv g b w w') :
    Calls Tryz.prog 123 #[.string (bstr l)] w' fun r w'' => r = .returned (.int .u64 (ofLe l)) ∧ (w''.cell? ⟨g, 1, none⟩ = some (.string (bstr b)) ∧ UInv g b w w'') :=
  (high_any l w' hl).mono fun _ _ ⟨h1, h2⟩ => ⟨h1, (h.2.1.fr0 (Fr.of_below h2)).c1, h.2.1.fr0 (Fr.of_below h2), h.2.2.trans (Fr.of_below h2 (F := fun _ => False)) (fun _ h => .inl h)⟩

set_option maxRecDepth 100000 in
theorem utext_any (g : Nat) (e : Int) (b : List UInt8) (w : World) (h : Up w g e b) (hb : b.length ≤ 1099511627776) :
    Calls Tryz.prog 54 #[.pointer (some ⟨g, 0, none⟩)] w fun r w' => r = .returned (.string (bstr (uText e b).2.2)) ∧ Up w' g (uText e b).1 (uText e b).2.1 ∧ Fr (fun k => k = g) w w' := by
  have c0 := h.c0
  have c1 := h.c1
  have f0 := h.frozen 0
  by_cases he : e = 0
  · subst he
    unfold uText
    rw [if_pos rfl]
    have hz := bstr_size b
    have hsz : (bstr b).size ≤ 1099511627776 := by omega
    by_cases h2 : b.length < 2
    · rw [if_pos h2]
      have h2' : ((bstr b).size : Int) < 2 := by omega
      have hd : decide (((bstr b).size : Int) < 2) = true := by simpa using h2'
      clear hz h2
      go_enter Tryz.func54, Tryz.ntmps54
      go_wp2
      go_quiet (fail)
      go_wp2_with fail
      refine (fail_new _ _ (w.drewN nq) c0 f0).mono ?_
      rintro r w2 ⟨rfl, rfl⟩
      go_wp2
      go_ret
      have h3 : Up (w.drewN nq) g 0 b := h
      exact ⟨rfl, h3.setE.1, ((Fr.refl _ w).drewN nq).trans h3.setE.2 (fun _ h => .inl h)⟩
    · rw [if_neg h2]
      have h2' : 2 ≤ (bstr b).size := by omega
      have hd : decide (((bstr b).size : Int) < 2) = false := by simp; omega
      have e1 : (bstr b).extract 0 2 = bstr (b.take 2) := by rw [bstr_extract]; simp
      have hl2 : (b.take 2).length = 2 := by rw [List.length_take]; omega
      have hv := ofLe_lt (b.take 2)
      rw [hl2] at hv
      have hv2 : ofLe (b.take 2) < 65536 := by have : (256 : Nat) ^ 2 = 65536 := by decide
                                               omega
      have h2i : (2 : Int) ≤ ((bstr b).size : Int) := by omega
      have hhigh : ∀ (w w' : World), (w'.cell? ⟨g, 1, none⟩ = some (.string (bstr b)) ∧ UInv g b w w') → Calls Tryz.prog 123 #[.string ((bstr b).extract 0 2)] w' fun r w'' => r = .returned (.int .u64 (ofLe (b.take 2))) ∧ (w''.cell? ⟨g, 1, none⟩ = some (.string (bstr b)) ∧ UInv g b w w'') := by
        intro w w' hi
        rw [e1]
        exact uhigh (b.take 2) w' (by omega) hi
      have Hh := Lib.hid hhigh
      have hsm : uSmall 2 0 b = (0, b.drop 2, ofLe (b.take 2)) := by
        simp only [uSmall, if_true, if_pos (show fitsB 2 0 = true by decide), show Int.toNat 2 = 2 from rfl, uTake, if_neg h2]
      have Hsm := Lib.hid hsm
      have Hz := Lib.hid hz
      have Hhb := Lib.hid hb
      clear e1 hl2 h2 hv hhigh hsm
      by_cases hlt : b.length - 2 < ofLe (b.take 2)
      · rw [if_pos hlt]
        generalize ofLe (b.take 2) = v at *
        have hlt' : ((bstr b).size : Int) - 2 < (v : Int) := by omega
        have hw1 : IntKind.i64.wrap (((bstr b).size : Int) - 2) = ((bstr b).size : Int) - 2 := IntWalk.i64_in _ (by omega)
        have hw2 : IntKind.i64.wrap (v : Int) = v := IntWalk.i64_in _ (by omega)
        clear hlt hz hb
        go_enter Tryz.func54, Tryz.ntmps54
        go_wp2
        go_region_held3 (fun w' => w'.cell? ⟨g, 1, none⟩ = some (.string (bstr b)) ∧ UInv g b w w') (first | exact ⟨c1, UInv.start h⟩ | assumption) (first | (go_at_call 123; refine (Hh.out w _ (by assumption)).mono ?_; rintro r w1 ⟨rfl, hb1⟩))
        have Hw := Lib.hid hb1.2
        clear hb1 hw1 hw2 c1 c0 f0
        go_wp2_with fail
        refine (fail_new _ _ w1 Hw.out.1.c0 (Hw.out.1.frozen 0)).mono ?_
        rintro r w4 ⟨rfl, rfl⟩
        go_wp2
        go_ret
        exact ⟨rfl, Hw.out.1.setE.1, (Hw.out.2.mono (G := fun k => k = g) (fun _ h => h.elim)).trans Hw.out.1.setE.2 (fun _ h => .inl h)⟩
      · rw [if_neg hlt]
        generalize hv3 : ofLe (b.take 2) = v at *
        have hlt' : (v : Int) ≤ ((bstr b).size : Int) - 2 := by omega
        have Hlt := Lib.hid hlt
        have Hv := Lib.hid hv3
        have hw1 : IntKind.i64.wrap (((bstr b).size : Int) - 2) = ((bstr b).size : Int) - 2 := IntWalk.i64_in _ (by omega)
        have hw2 : IntKind.i64.wrap (v : Int) = v := IntWalk.i64_in _ (by omega)
        clear hlt hz hb hv3
        go_enter Tryz.func54, Tryz.ntmps54
        go_wp2
        go_region_held3 (fun w' => w'.cell? ⟨g, 1, none⟩ = some (.string (bstr b)) ∧ UInv g b w w') (first | exact ⟨c1, UInv.start h⟩ | assumption) (first | (go_at_call 123; refine (Hh.out w _ (by assumption)).mono ?_; rintro r w1 ⟨rfl, hb1⟩))
        have Hw := Lib.hid hb1.2
        clear hb1 hw1 hw2 c1 c0 f0
        go_wp2_with fail
        refine (usmall_any g 0 2 b w1 Hw.out.1 Hhb.out).mono ?_
        rw [Hsm.out]
        rintro r w4 ⟨rfl, hu4, hf4⟩
        have Hf4 := Lib.hid hf4
        clear hf4
        go_wp2_with fail
        refine (take_any g 0 (b.drop 2) v w4 hu4 (by have := Hhb.out; rw [List.length_drop]; omega) (by omega)).mono ?_
        rw [show uTake 0 (b.drop 2) v = (0, (b.drop 2).drop v, (b.drop 2).take v) by simp only [uTake, if_true]; rw [if_neg]; have := Hlt.out; rw [List.length_drop]; exact this]
        rintro r w5 ⟨rfl, hu5, hf5⟩
        have Hf5 := Lib.hid hf5
        clear hf5
        go_wp2
        go_ret
        rw [List.drop_drop] at hu5
        exact ⟨rfl, hu5, ((Hw.out.2.mono (G := fun k => k = g) (fun _ h => h.elim)).trans Hf4.out (fun _ h => .inl h)).trans Hf5.out (fun _ h => .inl h)⟩
  · have he1 : (e == 0) = false := by simpa using he
    have he2 : (e != 0) = true := by simpa using he
    unfold uText
    rw [if_neg he]
    clear he
    go_enter Tryz.func54, Tryz.ntmps54
    go_wp2
    go_ret
    exact ⟨rfl, h, Fr.refl _ _⟩
end Go.Proofs.YteajonicnkpbbaaGreatDoor
namespace Go.Proofs.YteajonicnkpbbaaGreatDoor
set_option linter.all false
open Go.RowKit

theorem Pk.new (w : World) : Pk (w.alloc (.cells #[.int .i64 0, .slice none 0 0] 106)) w.heap.size (pkF w.heap.size none 0 0) 0 [] ∧ ∀ k, pkF w.heap.size none 0 0 k → w.heap.size ≤ k := by
  refine ⟨⟨none, 0, 0, Blk.new _ _ _, World.ownsRow_nil _ _ _ _, rfl⟩, ?_⟩
  rintro k (rfl | hk)
  · exact Nat.le_refl _
  · cases hk

end Go.Proofs.YteajonicnkpbbaaGreatDoor
namespace Go.Proofs.YteajonicnkpbbaaGreatDoor
set_option linter.all false
open Go.RowKit

theorem uTake_app {a t : List UInt8} {n : Nat} (h : a.length = n) : uTake 0 (a ++ t) n = (0, t, a) := by
  subst h
  unfold uTake
  rw [if_pos rfl, if_neg (by simp), List.drop_left, List.take_left]
theorem u64_lt (x : Int) : u64 x < 18446744073709551616 := by unfold u64; omega
theorem pow8 : (256 : Nat) ^ 8 = 18446744073709551616 := by decide
theorem ofLe_le8 (x : Nat) (h : x < 18446744073709551616) : ofLe (le x 8) = x := by rw [ofLe_le, pow8, Nat.mod_eq_of_lt h]
theorem sgn_u64 {x : Int} (h0 : -9223372036854775808 ≤ x) (h1 : x ≤ 9223372036854775807) : sgn (u64 x) = x := by
  unfold sgn u64
  split <;> omega
theorem textB_back {s : ByteArray} (h : s.size ≤ 60000) (t : List UInt8) : uText 0 (textB s ++ t) = (0, t, s.data.toList) := by
  have hl : (le s.size 2).length = 2 := le_length _ _
  have e0 : textB s ++ t = le s.size 2 ++ (s.data.toList ++ t) := by simp [textB]
  have e1 : (textB s ++ t).take 2 = le s.size 2 := by rw [e0, List.take_append_of_le_length (by omega), List.take_of_length_le (by omega)]
  have e2 : (textB s ++ t).drop 2 = s.data.toList ++ t := by rw [e0, List.drop_append_of_le_length (by omega), List.drop_of_length_le (by omega), List.nil_append]
  have e3 : ofLe (le s.size 2) = s.size := by
    rw [ofLe_le, show (256 : Nat) ^ 2 = 65536 by decide, Nat.mod_eq_of_lt (by omega)]
  unfold uText
  rw [if_pos rfl, e1, e3, if_neg (by rw [e0, List.length_append, hl]; omega), if_neg (by rw [e0]; simp only [List.length_append, hl, str_len]; omega)]
  rw [e2, ← List.drop_drop, e2]
  rw [List.take_append_of_le_length (by rw [str_len]; exact Nat.le_refl _), List.take_of_length_le (by rw [str_len]; exact Nat.le_refl _)]
  rw [List.drop_append_of_le_length (by rw [str_len]; exact Nat.le_refl _), List.drop_of_length_le (by rw [str_len]; exact Nat.le_refl _), List.nil_append]
end Go.Proofs.YteajonicnkpbbaaGreatDoor
namespace Go.Proofs.YteajonicnkpbbaaGreatDoor
set_option linter.all false
open Go.RowKit

def Tab (w : World) : Prop := Lib.TabIs Tryz.prog w "internal/strconv.uint64pow10" .u64 Lib.pow10Tab
theorem Tab.below {w w' : World} (h : Tab w) (hb : Below w.heap.size w w') : Tab w' := tab_below h hb

theorem digits_any (n : Int) (h0 : -9223372036854775808 ≤ n) (h1 : n ≤ 9223372036854775807) (w : World) (ht : Tab w) :
    Calls Tryz.prog 114 #[.int .i64 n] w fun r w' => r = .returned (.string (bstr (Lib.itoa n))) ∧ Below w.heap.size w w' := by
  have hc := Tryz.strconv_Itoa n h0 h1 w ht
  have hc' : Calls Tryz.prog 171 #[.int .i64 n] w fun r w' => r = .returned (.string (bstr (Lib.itoa n))) ∧ Below w.heap.size w w' :=
    hc.mono fun r w' ⟨e, k, os, hw⟩ => ⟨e, by rw [hw]; exact Lib.below_grow _ _ (Nat.le_refl _) _ _⟩
  have Hc := Lib.hid hc'
  clear hc hc' h0 h1 ht
  go_enter Tryz.func114, Tryz.ntmps114
  go_wp2_with fail
  refine Hc.out.mono ?_
  rintro r w1 ⟨rfl, hb⟩
  have Hb := Lib.hid hb
  clear hb
  go_wp2
  go_ret
  exact ⟨rfl, Hb.out⟩

end Go.Proofs.YteajonicnkpbbaaGreatDoor
namespace Go.Proofs.YteajonicnkpbbaaGreatDoor
set_option linter.all false
open Go.RowKit

def digVal (l : List UInt8) : Int := l.foldl (fun n c => 10 * n + ((c.toNat : Int) - 48)) 0
def isDig (c : UInt8) : Bool := decide (48 ≤ c.toNat ∧ c.toNat ≤ 57)
def numBad (d : List UInt8) (neg : Bool) : Bool := decide (d.length < 1 ∨ 18 < d.length ∨ ((d.headD 0).toNat = 48 ∧ (1 < d.length ∨ neg = true)))
def numD (d : List UInt8) (neg : Bool) : Int × Int :=
  if numBad d neg = true then (0, 1) else if d.all isDig = true then ((if neg = true then -(digVal d) else digVal d), 0) else (0, 1)
def numV (s : List UInt8) : Int × Int := numD (Lib.trimPrefix s [45]) (Lib.hasPrefix s [45])

theorem digVal_snoc (l : List UInt8) (c : UInt8) : digVal (l ++ [c]) = 10 * digVal l + ((c.toNat : Int) - 48) := by simp [digVal]
theorem numD_no {d : List UInt8} {neg : Bool} (h : numBad d neg = false) (h2 : d.all isDig = false) : numD d neg = (0, 1) := by simp [numD, h, h2]
theorem numD_yes {d : List UInt8} {neg : Bool} (h : numBad d neg = false) (h2 : d.all isDig = true) : numD d neg = ((if neg = true then -(digVal d) else digVal d), 0) := by simp [numD, h, h2]

set_option maxRecDepth 100000 in
theorem number_bad (s : List UInt8) (w : World) (h : numBad (Lib.trimPrefix s [45]) (Lib.hasPrefix s [45]) = true) (hs : s.length ≤ 1099511627776) :
    Calls Tryz.prog 238 #[.string (bstr s)] w fun r w' => r = .returned (.tuple #[.int .i64 0, .int .i64 1]) ∧ w = w' := by
  have hc := Tryz.strings_CutPrefix (bstr s) ⟨#[45]⟩ w
  rw [bstr_list] at hc
  change Calls _ _ _ _ (fun e w' => e = .returned (.tuple #[.string (bstr (Lib.trimPrefix s [45])), .bool (Lib.hasPrefix s [45])]) ∧ w' = w) at hc
  generalize Lib.trimPrefix s [45] = d at *
  generalize Lib.hasPrefix s [45] = neg at *
  have Hc := Lib.hid hc
  have h := of_decide_eq_true h
  have hsz := bstr_size d
  clear hc
  rcases h with h | h | ⟨h1, h2⟩
  · have hz : (((bstr d).size : Int) == 0) = true := beq_iff_eq.2 (by omega)
    clear h hsz
    go_enter Tryz.func238, Tryz.ntmps238
    go_wp2_with fail
    refine Hc.out.mono ?_
    rintro r w' ⟨rfl, rfl⟩
    go_wp2
    go_ret2
    exact ⟨rfl, rfl⟩
  · have hz : (((bstr d).size : Int) == 0) = false := beq_eq_false_iff_ne.2 (by omega)
    have hz2 : (18 : Int) < ((bstr d).size : Int) := by omega
    clear h hsz
    go_enter Tryz.func238, Tryz.ntmps238
    go_wp2_with fail
    refine Hc.out.mono ?_
    rintro r w' ⟨rfl, rfl⟩
    go_wp2
    go_ret2
    exact ⟨rfl, rfl⟩
  · rcases d with _ | ⟨c, t⟩
    · simp at h1
    · have hidx : ∀ h : 0 < (bstr (c :: t)).size, (bstr (c :: t))[0]'h = c := by intro h; rfl
      have h1' : ((c.toNat : Int) == 48) = true := by simp at h1; simp; omega
      have hlen : (c :: t).length = t.length + 1 := rfl
      rw [hlen] at hsz h2
      clear h1
      generalize bstr (c :: t) = x at *
      have hz : ((x.size : Int) == 0) = false := beq_eq_false_iff_ne.2 (by omega)
      have hz0 : 0 < x.size := by omega
      by_cases h18 : 18 < t.length + 1
      · have hz2 : (18 : Int) < (x.size : Int) := by omega
        clear hsz h2 h18
        go_enter Tryz.func238, Tryz.ntmps238
        go_wp2_with fail
        refine Hc.out.mono ?_
        rintro r w' ⟨rfl, rfl⟩
        go_wp2
        go_ret2
        exact ⟨rfl, rfl⟩
      · have hz2 : (x.size : Int) ≤ 18 := by omega
        by_cases h3 : 1 < t.length + 1
        · have hz3 : (1 : Int) < (x.size : Int) := by omega
          clear hsz h2 h18 h3
          go_enter Tryz.func238, Tryz.ntmps238
          go_wp2_with fail
          refine Hc.out.mono ?_
          rintro r w' ⟨rfl, rfl⟩
          go_wp2
          go_ret2
          exact ⟨rfl, rfl⟩
        · have hz3 : (x.size : Int) ≤ 1 := by omega
          have hneg : neg = true := by rcases h2 with h2 | h2
                                       · omega
                                       · exact h2
          subst hneg
          clear hsz h2 h18 h3
          go_enter Tryz.func238, Tryz.ntmps238
          go_wp2_with fail
          refine Hc.out.mono ?_
          rintro r w' ⟨rfl, rfl⟩
          go_wp2
          go_ret2
          exact ⟨rfl, rfl⟩

set_option maxRecDepth 100000 in
theorem number_ok (s : List UInt8) (w : World) (h : numBad (Lib.trimPrefix s [45]) (Lib.hasPrefix s [45]) = false) :
    Calls Tryz.prog 238 #[.string (bstr s)] w fun r w' => r = .returned (.tuple #[.int .i64 (numV s).1, .int .i64 (numV s).2]) ∧ w = w' := by
  have hc := Tryz.strings_CutPrefix (bstr s) ⟨#[45]⟩ w
  rw [bstr_list] at hc
  change Calls _ _ _ _ (fun e w' => e = .returned (.tuple #[.string (bstr (Lib.trimPrefix s [45])), .bool (Lib.hasPrefix s [45])]) ∧ w' = w) at hc
  unfold numV
  generalize Lib.trimPrefix s [45] = d at *
  generalize Lib.hasPrefix s [45] = neg at *
  have Hc := Lib.hid hc
  have hbad := of_decide_eq_false h
  have hsz := bstr_size d
  have Hbd := Lib.hid h
  clear hc h
  rcases d with _ | ⟨c, t⟩
  · simp at hbad
  · have hidx : ∀ h : 0 < (bstr (c :: t)).size, (bstr (c :: t))[0]'h = c := by intro h; rfl
    have hget : ∀ (k : Nat) (x : UInt8), (c :: t)[k]? = some x → ∀ h : k < (bstr (c :: t)).size, (bstr (c :: t))[k]'h = x := by
      intro k x hk h
      have : (bstr (c :: t))[k]'h = (c :: t)[k]'(by rw [bstr_size] at h; exact h) := rfl
      rw [this]
      exact (List.getElem?_eq_some_iff.1 hk).2
    have Hget := Lib.hid hget
    have Hbad := Lib.hid hbad
    have hlen : (c :: t).length = t.length + 1 := rfl
    have Hz := Lib.hid (hsz.trans hlen)
    have hz18 : ((bstr (c :: t)).size : Int) ≤ 18 := by simp only [hlen] at hbad; omega
    have hz0 : 0 < (bstr (c :: t)).size := by omega
    have hz : (((bstr (c :: t)).size : Int) == 0) = false := beq_eq_false_iff_ne.2 (by omega)
    -- the loop, once the tests are behind it
    have hcase : ((c.toNat : Int) == 48) = false ∨ (((c.toNat : Int) == 48) = true ∧ ((bstr (c :: t)).size : Int) ≤ 1 ∧ neg = false) := by
      by_cases h48 : c.toNat = 48
      · right
        simp only [List.headD_cons, h48, true_and, not_or] at hbad
        refine ⟨beq_iff_eq.2 (by omega), by omega, by simpa using hbad.2.2.2⟩
      · left; exact beq_eq_false_iff_ne.2 (by omega)
    have hd18 : decide ((18 : Int) < ((bstr (c :: t)).size : Int)) = false := decide_eq_false (by omega)
    have hL := hlen ▸ bstr_size (c :: t)
    have HL := Lib.hid (bstr_size (c :: t))
    clear hget hbad hsz hlen hL
    generalize hl : (c :: t) = l at *
    generalize bstr l = x at *
    have Hl := Lib.hid hl
    clear hl
    have hpow : ∀ k, k ≤ 17 → (10 : Int) ^ k ≤ 100000000000000000 := by
      intro k hk
      have h6 : (10 : Nat) ^ k ≤ 10 ^ 17 := Nat.pow_le_pow_right (by decide) hk
      have h7 := Int.ofNat_le.2 h6
      rw [Int.natCast_pow, Int.natCast_pow] at h7
      have h8 : (10 : Int) ^ 17 = 100000000000000000 := by decide
      rw [← h8]
      exact h7
    have Hpow := Lib.hid hpow
    clear hpow
    have hcase2 : ((c.toNat : Int) == 48) = false ∨ (((c.toNat : Int) == 48) = true ∧ decide ((1 : Int) < (x.size : Int)) = false ∧ neg = false) := by
      rcases hcase with h | ⟨h1, h2, h3⟩
      · exact .inl h
      · exact .inr ⟨h1, decide_eq_false (by omega), h3⟩
    clear hcase
    have hcase3 : (((c.toNat : Int) == 48) = false ∧ neg = true) ∨ (((c.toNat : Int) == 48) = false ∧ neg = false) ∨ (((c.toNat : Int) == 48) = true ∧ decide ((1 : Int) < (x.size : Int)) = false ∧ neg = false) := by
      rcases hcase2 with h | h
      · cases neg
        · exact .inr (.inl ⟨h, rfl⟩)
        · exact .inl ⟨h, rfl⟩
      · exact .inr (.inr h)
    clear hcase2
    rcases hcase3 with ⟨hcase, rfl⟩ | ⟨hcase, rfl⟩ | ⟨hc1, hc2, rfl⟩
    all_goals
      go_enter Tryz.func238, Tryz.ntmps238
      go_wp2_with fail
      refine Hc.out.mono ?_
      rintro r w' ⟨rfl, rfl⟩
      go_wp2
      go_loop [6, 36] (fun v i => ∃ (k : Nat) (n : Int), k ≤ x.size ∧ i = .int .i64 k ∧ v = .int .i64 n ∧ Hid (n = digVal (l.take k)) ∧ Hid (∀ c ∈ l.take k, isDig c = true) ∧ 0 ≤ n ∧ Hid (n < 10 ^ k)) (fun _ i => x.size - (intOf i).toNat)
      case atStart => exact ⟨0, 0, Nat.zero_le _, rfl, rfl, rfl, fun _ h => by simp at h, by omega, by show (0 : Int) < 10 ^ 0; decide⟩
      case round =>
        obtain ⟨k, n, hk, rfl, rfl, hn, hall, hn0, hlt⟩ := hrel
        by_cases hkl : k < x.size
        · obtain ⟨y, hy⟩ : ∃ y, l[k]? = some y := ⟨_, List.getElem?_eq_getElem (by have := HL.out; omega)⟩
          have hix := Hget.out k y hy
          have Hy := Lib.hid hy
          have hyb := y.toNat_lt
          have hn17 : n < 100000000000000000 := by
            have := Hpow.out k (by omega)
            have := hlt.out
            omega
          have hki : (k : Int) < (x.size : Int) := by omega
          clear hy
          by_cases hd : 48 ≤ y.toNat ∧ y.toNat ≤ 57
          · obtain ⟨hd1, hd2⟩ := hd
            have hd1' : (48 : Int) ≤ (y.toNat : Int) := by omega
            have hd2' : (y.toNat : Int) ≤ 57 := by omega
            go_wp2
            go_round
            case rel =>
              refine ⟨k + 1, 10 * n + ((y.toNat : Int) - 48), by omega, by go_num, rfl, ?_, ?_, by omega, ?_⟩
              · show _ = _
                rw [take_snoc Hy.out, digVal_snoc, hn.out]
              · show ∀ c ∈ _, _
                rw [take_snoc Hy.out]
                intro c hc
                rcases List.mem_append.1 hc with h | h
                · exact hall.out c h
                · rw [List.mem_singleton.1 h]; exact decide_eq_true ⟨hd1, hd2⟩
              · show _ < _
                have := hlt.out
                rw [Int.pow_succ]
                omega
            case measure => simp [intOf]; omega
          · have hno : l.all isDig = false := by
              rw [List.all_eq_false]
              exact ⟨y, mem_of_get Hy.out, by simp only [isDig, hd]; decide⟩
            have Hno := Lib.hid hno
            clear hno
            have hd' : (y.toNat : Int) < 48 ∨ (48 ≤ (y.toNat : Int) ∧ 57 < (y.toNat : Int)) := by omega
            clear hd
            rcases hd' with hd | ⟨hd1, hd2⟩
            all_goals
              go_wp2
              go_ret2
              rw [numD_no Hbd.out Hno.out]
              exact ⟨rfl, rfl⟩
        · obtain rfl : k = x.size := by omega
          have hfull : l.take x.size = l := List.take_of_length_le (by have := HL.out; omega)
          have hyes : l.all isDig = true := by
            have := hall.out
            rw [hfull] at this
            exact List.all_eq_true.2 this
          have Hyes := Lib.hid hyes
          have hb : -1000000000000000000 ≤ n ∧ n ≤ 1000000000000000000 := by
            have h1 := hlt.out
            have h2 := Hpow.out (x.size - 1) (by omega)
            have h3 : (10 : Int) ^ x.size = 10 ^ (x.size - 1) * 10 := by rw [← Int.pow_succ, Nat.succ_eq_add_one, Nat.sub_add_cancel hz0]
            omega
          obtain ⟨hb1, hb2⟩ := hb
          have hfin := hn.out
          rw [hfull] at hfin
          have Hfin := Lib.hid hfin
          clear hfin hyes hfull
          go_wp2
          go_ret2
          rw [numD_yes Hbd.out Hyes.out, ← Hfin.out]
          exact ⟨rfl, rfl⟩

theorem number_any (s : List UInt8) (w : World) (hs : s.length ≤ 1099511627776) :
    Calls Tryz.prog 238 #[.string (bstr s)] w fun r w' => r = .returned (.tuple #[.int .i64 (numV s).1, .int .i64 (numV s).2]) ∧ w = w' := by
  by_cases h : numBad (Lib.trimPrefix s [45]) (Lib.hasPrefix s [45]) = true
  · have e : numV s = (0, 1) := by unfold numV numD; rw [if_pos h]
    rw [e]
    exact number_bad s w h hs
  · exact number_ok s w (by simpa using h)
end Go.Proofs.YteajonicnkpbbaaGreatDoor
