/- Walks of package pack: From, take, high, Int, Word, Small, Bad, Left, Rest. -/
import Derived.Test.YtbdhmoeadakipaaGreatPkC
import Derived.Test.YtbdhmoeadakipaaGreatShelf
import Derived.Laws.BitsAllLaws
import Derived.Lib.TrimByte
namespace Go.Proofs.YtbdhmoeadakipaaGreat
open Go.RowKit

/-- A text of bytes. -/
def bstr (l : List UInt8) : ByteArray := ⟨l.toArray⟩
theorem bstr_size (l : List UInt8) : (bstr l).size = l.length := by simp [bstr, ByteArray.size]
theorem bstr_list (l : List UInt8) : (bstr l).data.toList = l := by simp [bstr]
theorem bstr_of (s : ByteArray) : s = bstr s.data.toList := by simp [bstr]
theorem bstr_extract (l : List UInt8) (i j : Nat) : (bstr l).extract i j = bstr ((l.take j).drop i) := by
  apply ByteArray.ext
  simp [bstr, List.drop_take]

def uTake (e : Int) (b : List UInt8) (n : Nat) : Int × List UInt8 × List UInt8 :=
  if e = 0 then (if b.length < n then (5, b, []) else (0, b.drop n, b.take n)) else (e, b, [])
/-- The number of bytes, the lowest first. -/
def ofLe : List UInt8 → Nat
  | [] => 0
  | b :: t => b.toNat + 256 * ofLe t
theorem ofLe_le (x k : Nat) : ofLe (le x k) = x % 256 ^ k := by
  induction k generalizing x with
  | zero => simp [le, ofLe, Nat.mod_one]
  | succ k ih =>
    rw [le, ofLe, ih, Nat.pow_succ, Nat.mul_comm (256 ^ k) 256, Nat.mod_mul]
    simp
theorem ofLe_lt (l : List UInt8) : ofLe l < 256 ^ l.length := by
  induction l with
  | nil => simp [ofLe]
  | cons b t ih =>
    have := b.toNat_lt
    rw [ofLe, List.length_cons, Nat.pow_succ]
    omega
theorem le_ofLe (l : List UInt8) : le (ofLe l) l.length = l := by
  induction l with
  | nil => rfl
  | cons b t ih =>
    have h := b.toNat_lt
    rw [ofLe, List.length_cons, le, show (b.toNat + 256 * ofLe t) / 256 = ofLe t by omega, ih]
    congr 1
    apply UInt8.toNat_inj.1
    simp
theorem ofLe_snoc (l : List UInt8) (b : UInt8) : ofLe (l ++ [b]) = ofLe l + b.toNat * 256 ^ l.length := by
  induction l with
  | nil => simp [ofLe]
  | cons c t ih =>
    rw [List.cons_append, ofLe, ih, ofLe, List.length_cons, Nat.pow_succ, Nat.mul_add, Nat.mul_comm (256 ^ t.length) 256]
    rw [Nat.mul_left_comm, Nat.add_assoc]

theorem or_byte {k v x : Nat} (hk : k < 8) (hv : v < 256 ^ k) (hx : x < 256) : bits .or .u64 (v : Int) (IntKind.u64.wrap ((x : Int) * 2 ^ (8 * k))) = ((v + x * 256 ^ k : Nat) : Int) := by
  have e1 : ((x : Int) * 2 ^ (8 * k)) = ((x * 256 ^ k : Nat) : Int) := by
    rw [pow_bytes]; simp
  have h1 : 256 ^ (k + 1) ≤ 256 ^ 8 := Nat.pow_le_pow_right (by decide) (by omega)
  have h2 : (256 : Nat) ^ 8 = 18446744073709551616 := by decide
  have h3 : (x + 1) * 256 ^ k ≤ 256 * 256 ^ k := Nat.mul_le_mul_right _ (by omega)
  have h4 : 256 * 256 ^ k = 256 ^ (k + 1) := by rw [Nat.pow_succ, Nat.mul_comm]
  have h5 : (x + 1) * 256 ^ k = x * 256 ^ k + 256 ^ k := by rw [Nat.add_mul, Nat.one_mul]
  have h6 : x * 256 ^ k < 18446744073709551616 := by omega
  rw [e1, IntKind.wrap_u64, show (((x * 256 ^ k : Nat) : Int) % 18446744073709551616) = ((x * 256 ^ k : Nat) : Int) by omega, u64_or_nat _ _ (by omega) h6]
  congr 1
  have e2 : x * 256 ^ k = 2 ^ (8 * k) * x := by rw [Nat.pow_mul, Nat.mul_comm]
  rw [e2, Nat.or_comm, ← Nat.two_pow_add_eq_or_of_lt (by rw [Nat.pow_mul]; exact hv) x, Nat.add_comm]

theorem uTake_len (e : Int) (b : List UInt8) (n : Nat) : (uTake e b n).2.2.length ≤ n := by
  unfold uTake
  split
  · split <;> simp <;> omega
  · simp

/-- A number of 64 bits as an int. -/
def sgn (n : Nat) : Int := if n < 9223372036854775808 then n else (n : Int) - 18446744073709551616
theorem wrap_sgn (n : Nat) (h : n < 18446744073709551616) : IntKind.i64.wrap (n : Int) = sgn n := by
  rw [IntKind.wrap_i64]
  unfold sgn
  split <;> omega

end Go.Proofs.YtbdhmoeadakipaaGreat
namespace Go.Proofs.YtbdhmoeadakipaaGreat
open Go.RowKit

/-- What Small reads: the new error, what is left, the number. -/
def uSmall (size : Int) (e : Int) (b : List UInt8) : Int × List UInt8 × Nat :=
  if e = 0 then (if fitsB size 0 = true then ((uTake 0 b size.toNat).1, (uTake 0 b size.toNat).2.1, ofLe (uTake 0 b size.toNat).2.2) else (1, b, 0)) else (e, b, 0)

theorem fits_of {size x : Int} (h : fitsB size x = true) : 1 ≤ size ∧ size ≤ 7 ∧ 0 ≤ x ∧ x < 256 ^ size.toNat := of_decide_eq_true h
theorem ofLe_lt8 {l : List UInt8} {k : Nat} (h : l.length ≤ k) (hk : k ≤ 7) : ofLe l < 72057594037927936 := by
  have h1 := ofLe_lt l
  have h2 := Nat.pow_le_pow_right (show 256 > 0 by decide) (Nat.le_trans h hk)
  have h3 : (256 : Nat) ^ 7 = 72057594037927936 := by decide
  omega
/-- Name: what is read of the sixteen bytes. -/
def allZ (l : List UInt8) : Bool := l.all (· == 0)
def nameOk (t : List UInt8) : Bool := decide ((t.headD 0).toNat ≤ 15) && allZ (t.drop (1 + (t.headD 0).toNat))
def uName (e : Int) (b : List UInt8) : Int × List UInt8 × List UInt8 :=
  if (uTake e b 16).2.2 = [] then ((uTake e b 16).1, (uTake e b 16).2.1, [])
  else if nameOk (uTake e b 16).2.2 = true then ((uTake e b 16).1, (uTake e b 16).2.1, ((uTake e b 16).2.2.drop 1).take ((uTake e b 16).2.2.headD 0).toNat)
  else (6, (uTake e b 16).2.1, [])
theorem dropWhile_nil {l : List UInt8} : l.dropWhile (· == 0) = [] ↔ l.all (· == 0) = true := by
  induction l with
  | nil => simp
  | cons a t ih => by_cases h : a = 0 <;> simp [List.dropWhile_cons, h, ih]
theorem trim_zero (l : List UInt8) : (Lib.trimB l 0 = []) ↔ l.all (· == 0) = true := by
  unfold Lib.trimB Lib.trimLeftB Lib.trimRightB
  rw [dropWhile_nil, List.all_reverse]
  constructor
  · intro h
    by_cases hl : l.reverse.dropWhile (· == 0) = []
    · rw [dropWhile_nil, List.all_reverse] at hl
      exact hl
    · have := List.head_dropWhile_not (p := (· == (0 : UInt8))) hl
      have h2 := List.all_eq_true.1 h _ (List.head_mem hl)
      rw [h2] at this
      cases this
  · intro h
    apply List.all_eq_true.2
    intro x hx
    exact List.all_eq_true.1 h x (List.mem_reverse.1 ((List.dropWhile_sublist _).mem hx))

/-- What Text reads. -/
def uText (e : Int) (b : List UInt8) : Int × List UInt8 × List UInt8 :=
  if e = 0 then (if b.length < 2 then (5, b, []) else if b.length - 2 < ofLe (b.take 2) then (5, b, []) else (0, b.drop (2 + ofLe (b.take 2)), (b.drop 2).take (ofLe (b.take 2)))) else (e, b, [])

end Go.Proofs.YtbdhmoeadakipaaGreat
namespace Go.Proofs.YtbdhmoeadakipaaGreat
open Go.RowKit

end Go.Proofs.YtbdhmoeadakipaaGreat
