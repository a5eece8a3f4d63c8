/- Walks of the small functions of package pack: fits, fail, low, Words, Ints, Small. -/
import Derived.Test.YtbdhmoeadakipaaGreatChecked
import Derived.Test.YtbdhmoeadakipaaGreatBase
namespace Go.Proofs.YtbdhmoeadakipaaGreat
open Go.RowKit

theorem ret_int {k : IntKind} {a b : Int} (h : a = b) : Ending.returned (.int k a) = .returned (.int k b) := by rw [h]
theorem info_u8 : (Tryz.prog.info? 5).map (fun i => (i.zero, i.size, i.bytes)) = some (some (.int .u8 0), 1, 1) := by kernel_rfl

/-- append onto a list of bytes, at the operation. -/
theorem wpList_app_u8 {w : World} {ops : Array Oper} {rest : List Oper} {o : Oper} {a : Act} {Q : Exit → Act → World → Prop} (hgd : o.guard = none) (s x : Operand)
    (ho : o.op = .call { callee := .builtin .append, args := #[s, x], argTypes := #[140, 140] })
    (v : Value) (n : Nat) (xs : List Value) (hs : a.eval s = v) (hown : w.ownsRow 0 5 1 v n xs)
    (A : Option Addr) (m c : Nat) (news : List Value) (hx : a.eval x = .slice A m c) (hr : Rd w 1 A m news) (h1 : ∀ u ∈ news, u.oneCell' = true)
    (hb : n + m ≤ 2199023255552)
    (h : ∀ A' c' w', w'.ownsRow 0 5 1 (.slice A' (n + m) c') (n + m) (xs ++ news) → Mv (rowF v) (rowF (.slice A' (n + m) c')) w w' → wpList Tryz.prog ops Q rest (a.put o.dst (.slice A' (n + m) c')) w') : wpList Tryz.prog ops Q (o :: rest) a w := by
  obtain ⟨i0, hi, hz0, hz1, hz2⟩ := info_parts info_u8
  exact wpList_app hgd s x 140 ho 5 i0 (.int .u8 0) 1 1 Tryz.underlying140 hi hz0 hz1 hz2 rfl (by decide) v n xs hs hown A m c news hx hr h1 (by unfold maxLen; omega) (by omega) h

/-- The lowest bytes of a number, the lowest first. -/
def le : Nat → Nat → List UInt8
  | _, 0 => []
  | x, k + 1 => UInt8.ofNat x :: le (x / 256) k

theorem le_length (x k : Nat) : (le x k).length = k := by
  induction k generalizing x with
  | zero => rfl
  | succ k ih => simp [le, ih]

theorem le_snoc (x k : Nat) : le x (k + 1) = le x k ++ [UInt8.ofNat (x / 256 ^ k)] := by
  induction k generalizing x with
  | zero => simp [le]
  | succ k ih =>
    rw [le, ih (x / 256), le, List.cons_append, Nat.div_div_eq_div_mul, Nat.pow_succ, Nat.mul_comm]

/-- Can n be of 'size' bytes? -/
def fitsB (size n : Int) : Bool := decide (1 ≤ size ∧ size ≤ 7 ∧ 0 ≤ n ∧ n < 256 ^ size.toNat)
theorem pow_bytes (k : Nat) : (2 : Int) ^ (8 * k) = 256 ^ k := by
  rw [Int.pow_mul]; rfl
theorem shr_zero (size n : Int) (h1 : 1 ≤ size) (h3 : 0 ≤ n) : (n / 2 ^ (8 * size).toNat != 0) = !decide (n < 256 ^ size.toNat) := by
  obtain ⟨k, rfl⟩ := Int.eq_ofNat_of_zero_le (show 0 ≤ size by omega)
  have e1 : (8 * (k : Int)).toNat = 8 * k := by omega
  rw [e1, pow_bytes, Int.toNat_natCast]
  have hp : (0 : Int) < 256 ^ k := Int.pow_pos (by decide)
  by_cases h : n < 256 ^ k
  · simp [h, Int.ediv_eq_zero_of_lt h3 h]
  · have : 1 ≤ n / 256 ^ k := (Int.le_ediv_iff_mul_le hp).2 (by omega)
    simp only [h, decide_false, Bool.not_false, bne_iff_ne, ne_eq]
    omega
theorem low_byte {x z : Int} {k : Nat} (hx : 0 ≤ x) (hz : z = x / 256 ^ k) : bys [UInt8.ofNat (x.toNat / 256 ^ k)] = [Value.int .u8 (z % 256)] := by
  obtain ⟨n, rfl⟩ := Int.eq_ofNat_of_zero_le hx
  subst hz
  simp [bys]
theorem div_step {x z : Int} {k : Nat} (hz : z = x / 256 ^ k) : Hid (z / 256 = x / 256 ^ (k + 1)) := by
  show z / 256 = x / 256 ^ (k + 1)
  subst hz
  rw [Int.ediv_ediv_of_nonneg (by exact Int.le_of_lt (Int.pow_pos (by decide))), Int.pow_succ]

theorem flat_len (l : List Int) (m : Nat) : (l.flatMap fun x => le x.toNat m).length = m * l.length := by
  induction l with
  | nil => simp
  | cons a t ih => simp only [List.flatMap_cons, List.length_append, le_length, ih, List.length_cons]; rw [Nat.mul_add]; omega

end Go.Proofs.YtbdhmoeadakipaaGreat
namespace Go.Proofs.YtbdhmoeadakipaaGreat
open Go.RowKit

/-- What is put behind l where no error stands. -/
def pW (e : Int) (l m : List UInt8) : List UInt8 := if e = 0 then l ++ m else l
theorem pW_zero (l m : List UInt8) : pW 0 l m = l ++ m := rfl
theorem pW_nil (e : Int) (l : List UInt8) : pW e l [] = l := by unfold pW; split <;> simp
theorem pW_pW (e : Int) (l a b : List UInt8) : pW e (pW e l a) b = pW e l (a ++ b) := by unfold pW; split <;> simp
theorem pW_len (e : Int) (l m : List UInt8) : (pW e l m).length ≤ l.length + m.length := by unfold pW; split <;> simp

/-- A number of 64 bits as a Nat. -/
def u64 (x : Int) : Nat := (x % 18446744073709551616).toNat
def le8 (l : List Int) : List UInt8 := l.flatMap fun x => le (u64 x) 8
theorem le8_append (a b : List Int) : le8 (a ++ b) = le8 a ++ le8 b := by simp [le8]
theorem le8_len (l : List Int) : (le8 l).length = 8 * l.length := by
  induction l with
  | nil => simp [le8]
  | cons a t ih => simp only [le8, List.flatMap_cons, List.length_append, le_length, List.length_cons] at ih ⊢; omega

/-- What Small does, where the size is fine and no error stands. -/
def smallGo (size : Int) (l : List UInt8) : List Int → Int × List UInt8
  | [] => (0, l)
  | v :: vs => if fitsB size v = true then smallGo size (l ++ le v.toNat size.toNat) vs else (1, l)
def pSmall (size e : Int) (l : List UInt8) (vs : List Int) : Int × List UInt8 :=
  if e = 0 then (if fitsB size 0 = true then smallGo size l vs else (1, l)) else (e, l)

theorem smallGo_len (size : Int) (l : List UInt8) (vs : List Int) : (smallGo size l vs).2.length ≤ l.length + 7 * vs.length := by
  induction vs generalizing l with
  | nil => simp [smallGo]
  | cons v vs ih =>
    simp only [smallGo]
    split
    · rename_i h
      have h2 := of_decide_eq_true h
      have := ih (l ++ le v.toNat size.toNat)
      simp only [List.length_append, le_length, List.length_cons] at this ⊢
      omega
    · simp only [List.length_cons]; omega

theorem fits_lt {size x : Int} (h : fitsB size x = true) : x < 18446744073709551616 := by
  obtain ⟨h1, h2, h3, h4⟩ := of_decide_eq_true h
  have h5 : (256 : Int) ^ size.toNat ≤ 256 ^ 7 := by
    have h6 : (256 : Nat) ^ size.toNat ≤ 256 ^ 7 := Nat.pow_le_pow_right (by decide) (by omega)
    have h7 := Int.ofNat_le.2 h6
    rw [Int.natCast_pow, Int.natCast_pow] at h7
    exact h7
  have h6 : (256 : Int) ^ 7 = 72057594037927936 := by decide
  omega
theorem wrap_small {x : Int} (h : x < 18446744073709551616) (h0 : 0 ≤ x) : IntKind.u64.wrap x = x := by
  rw [IntKind.wrap_u64]; omega

end Go.Proofs.YtbdhmoeadakipaaGreat
namespace Go.Proofs.YtbdhmoeadakipaaGreat
open Go.RowKit

def pkF (g : Nat) (A : Option Addr) (m c : Nat) : Nat → Prop := fun k => k = g ∨ rowF (.slice A m c) k
section
variable {w w1 : World} {g m c m' c' : Nat} {A A' : Option Addr} {e : Int} {l l' : List UInt8}
end

/-- append of a string onto a list of bytes, at the operation. -/
theorem wpList_app_str {w : World} {ops : Array Oper} {rest : List Oper} {o : Oper} {a : Act} {Q : Exit → Act → World → Prop} (hgd : o.guard = none) (s x : Operand)
    (ho : o.op = .call { callee := .builtin .append, args := #[s, x], argTypes := #[140, 9] })
    (v : Value) (n : Nat) (l : List UInt8) (hs : a.eval s = v) (hown : w.ownsRow 0 5 1 v n (bys l)) (t : ByteArray) (hx : a.eval x = .string t)
    (hb : n + t.size ≤ 2199023255552)
    (h : ∀ A' c' w', w'.ownsRow 0 5 1 (.slice A' (n + t.size) c') (n + t.size) (bys (l ++ t.data.toList)) → Mv (rowF v) (rowF (.slice A' (n + t.size) c')) w w' → wpList Tryz.prog ops Q rest (a.put o.dst (.slice A' (n + t.size) c')) w') : wpList Tryz.prog ops Q (o :: rest) a w := by
  obtain ⟨i0, hi, hz0, hz1, hz2⟩ := info_parts info_u8
  exact wpList_app_string hgd s x 140 9 ho 5 i0 Tryz.underlying140 Tryz.underlying9 hi hz0 hz1 hz2 v n (bys l) hs hown t hx (by unfold maxLen; omega) (by omega) (fun A' c' w' h1 h2 => h A' c' w' (by rw [bys_append]; exact h1) h2)

/-- A name's place of sixteen bytes. -/
def nameB (s : ByteArray) : List UInt8 := UInt8.ofNat s.size :: s.data.toList ++ List.replicate (15 - s.size) 0
def pNames : Int → List UInt8 → List ByteArray → Int × List UInt8
  | e, l, [] => (e, l)
  | e, l, s :: ss => if e = 0 then (if 15 < s.size then (2, l) else pNames 0 (l ++ nameB s) ss) else (e, l)
theorem le_zero (k : Nat) : le 0 k = List.replicate k 0 := by
  induction k with
  | zero => rfl
  | succ k ih => simp [le, ih, List.replicate_succ]
theorem nameB_len (s : ByteArray) (h : s.size ≤ 15) : (nameB s).length = 16 := by
  have : s.data.toList.length = s.size := by rw [Array.length_toList]; rfl
  simp only [nameB, List.cons_append, List.length_cons, List.length_append, List.length_replicate, this]; omega


/-- Text. -/
def textB (s : ByteArray) : List UInt8 := le s.size 2 ++ s.data.toList
def pText (e : Int) (l : List UInt8) (s : ByteArray) : Int × List UInt8 := if e = 0 then (if 60000 < s.size then (2, l) else (0, l ++ textB s)) else (e, l)

/-- Fill. -/
def pFill (e : Int) (l : List UInt8) (n : Int) : Int × List UInt8 :=
  if e = 0 then (if n < 0 ∨ 60000 < n then (1, l) else if n < l.length then (2, l) else (0, l ++ List.replicate (n.toNat - l.length) 0)) else (e, l)

end Go.Proofs.YtbdhmoeadakipaaGreat
