/- Walks of the small functions of package pack: fits, fail, low, Words, Ints, Small. -/
import Derived.Test.YtfhhepfkjndkgaaGreatChecked
import Derived.Test.YtfhhepfkjndkgaaGreatBase
import Derived.Test.YtfhhepfkjndkgaaGreatShelf
import Derived.Laws.BitsAllLaws
import Derived.Lib.TrimByte
namespace Go.Proofs.YtfhhepfkjndkgaaGreat
set_option linter.all false
open Go.RowKit

theorem ret_int {k : IntKind} {a b : Int} (h : a = b) : Ending.returned (.int k a) = .returned (.int k b) := by rw [h]
theorem info_u8 : (Tryz.prog.info? 5).map (fun i => (i.zero, i.size, i.bytes)) = some (some (.int .u8 0), 1, 1) := by kernel_rfl

/-- append onto a list of bytes, at the operation. -/
theorem wpList_app_u8 {w : World} {ops : Array Oper} {rest : List Oper} {o : Oper} {a : Act} {Q : Exit → Act → World → Prop} (hgd : o.guard = none) (s x : Operand)
    (ho : o.op = .call { callee := .builtin .append, args := #[s, x], argTypes := #[261, 261] })
    (v : Value) (n : Nat) (xs : List Value) (hs : a.eval s = v) (hown : w.ownsRow 0 5 1 v n xs)
    (A : Option Addr) (m c : Nat) (news : List Value) (hx : a.eval x = .slice A m c) (hr : Rd w 1 A m news) (h1 : ∀ u ∈ news, u.oneCell' = true)
    (hb : n + m ≤ 2199023255552)
    (h : ∀ A' c' w', w'.ownsRow 0 5 1 (.slice A' (n + m) c') (n + m) (xs ++ news) → Mv (rowF v) (rowF (.slice A' (n + m) c')) w w' → wpList Tryz.prog ops Q rest (a.put o.dst (.slice A' (n + m) c')) w') : wpList Tryz.prog ops Q (o :: rest) a w := by
  obtain ⟨i0, hi, hz0, hz1, hz2⟩ := info_parts info_u8
  exact wpList_app hgd s x 261 ho 5 i0 (.int .u8 0) 1 1 Tryz.underlying261 hi hz0 hz1 hz2 rfl (by decide) v n xs hs hown A m c news hx hr h1 (by unfold maxLen; omega) (by omega) h

/-- The lowest bytes of a number, the lowest first. -/
def le : Nat → Nat → List UInt8
  | _, 0 => []
  | x, k + 1 => UInt8.ofNat x :: le (x / 256) k

theorem le_length (x k : Nat) : (le x k).length = k := by
  induction k generalizing x with
  | zero => rfl
  | succ k ih => simp [le, ih]

theorem le_snoc (x k : Nat) : le x (k + 1) = le x k ++ [UInt8.ofNat (x / 256 ^ k)] := by
  induction k generalizing x with
  | zero => simp [le]
  | succ k ih =>
    rw [le, ih (x / 256), le, List.cons_append, Nat.div_div_eq_div_mul, Nat.pow_succ, Nat.mul_comm]

/-- Can n be of 'size' bytes? -/
def fitsB (size n : Int) : Bool := decide (1 ≤ size ∧ size ≤ 7 ∧ 0 ≤ n ∧ n < 256 ^ size.toNat)
theorem pow_bytes (k : Nat) : (2 : Int) ^ (8 * k) = 256 ^ k := by
  rw [Int.pow_mul]; rfl
theorem shr_zero (size n : Int) (h1 : 1 ≤ size) (h3 : 0 ≤ n) : (n / 2 ^ (8 * size).toNat != 0) = !decide (n < 256 ^ size.toNat) := by
  obtain ⟨k, rfl⟩ := Int.eq_ofNat_of_zero_le (show 0 ≤ size by omega)
  have e1 : (8 * (k : Int)).toNat = 8 * k := by omega
  rw [e1, pow_bytes, Int.toNat_natCast]
  have hp : (0 : Int) < 256 ^ k := Int.pow_pos (by decide)
  by_cases h : n < 256 ^ k
  · simp [h, Int.ediv_eq_zero_of_lt h3 h]
  · have : 1 ≤ n / 256 ^ k := (Int.le_ediv_iff_mul_le hp).2 (by omega)
    simp only [h, decide_false, Bool.not_false, bne_iff_ne, ne_eq]
    omega
theorem low_byte {x z : Int} {k : Nat} (hx : 0 ≤ x) (hz : z = x / 256 ^ k) : bys [UInt8.ofNat (x.toNat / 256 ^ k)] = [Value.int .u8 (z % 256)] := by
  obtain ⟨n, rfl⟩ := Int.eq_ofNat_of_zero_le hx
  subst hz
  simp [bys]
theorem div_step {x z : Int} {k : Nat} (hz : z = x / 256 ^ k) : Hid (z / 256 = x / 256 ^ (k + 1)) := by
  show z / 256 = x / 256 ^ (k + 1)
  subst hz
  rw [Int.ediv_ediv_of_nonneg (by exact Int.le_of_lt (Int.pow_pos (by decide))), Int.pow_succ]

theorem flat_len (l : List Int) (m : Nat) : (l.flatMap fun x => le x.toNat m).length = m * l.length := by
  induction l with
  | nil => simp
  | cons a t ih => simp only [List.flatMap_cons, List.length_append, le_length, ih, List.length_cons]; rw [Nat.mul_add]; omega

end Go.Proofs.YtfhhepfkjndkgaaGreat
namespace Go.Proofs.YtfhhepfkjndkgaaGreat
set_option linter.all false
open Go.RowKit

/-- What is put behind l where no error stands. -/
def pW (e : Int) (l m : List UInt8) : List UInt8 := if e = 0 then l ++ m else l
theorem pW_zero (l m : List UInt8) : pW 0 l m = l ++ m := rfl
theorem pW_nil (e : Int) (l : List UInt8) : pW e l [] = l := by unfold pW; split <;> simp
theorem pW_pW (e : Int) (l a b : List UInt8) : pW e (pW e l a) b = pW e l (a ++ b) := by unfold pW; split <;> simp
theorem pW_len (e : Int) (l m : List UInt8) : (pW e l m).length ≤ l.length + m.length := by unfold pW; split <;> simp

/-- A number of 64 bits as a Nat. -/
def u64 (x : Int) : Nat := (x % 18446744073709551616).toNat
def le8 (l : List Int) : List UInt8 := l.flatMap fun x => le (u64 x) 8
theorem le8_append (a b : List Int) : le8 (a ++ b) = le8 a ++ le8 b := by simp [le8]
theorem le8_len (l : List Int) : (le8 l).length = 8 * l.length := by
  induction l with
  | nil => simp [le8]
  | cons a t ih => simp only [le8, List.flatMap_cons, List.length_append, le_length, List.length_cons] at ih ⊢; omega

/-- What Small does, where the size is fine and no error stands. -/
def smallGo (size : Int) (l : List UInt8) : List Int → Int × List UInt8
  | [] => (0, l)
  | v :: vs => if fitsB size v = true then smallGo size (l ++ le v.toNat size.toNat) vs else (1, l)
def pSmall (size e : Int) (l : List UInt8) (vs : List Int) : Int × List UInt8 :=
  if e = 0 then (if fitsB size 0 = true then smallGo size l vs else (1, l)) else (e, l)

theorem smallGo_len (size : Int) (l : List UInt8) (vs : List Int) : (smallGo size l vs).2.length ≤ l.length + 7 * vs.length := by
  induction vs generalizing l with
  | nil => simp [smallGo]
  | cons v vs ih =>
    simp only [smallGo]
    split
    · rename_i h
      have h2 := of_decide_eq_true h
      have := ih (l ++ le v.toNat size.toNat)
      simp only [List.length_append, le_length, List.length_cons] at this ⊢
      omega
    · simp only [List.length_cons]; omega

theorem fits_lt {size x : Int} (h : fitsB size x = true) : x < 18446744073709551616 := by
  obtain ⟨h1, h2, h3, h4⟩ := of_decide_eq_true h
  have h5 : (256 : Int) ^ size.toNat ≤ 256 ^ 7 := by
    have h6 : (256 : Nat) ^ size.toNat ≤ 256 ^ 7 := Nat.pow_le_pow_right (by decide) (by omega)
    have h7 := Int.ofNat_le.2 h6
    rw [Int.natCast_pow, Int.natCast_pow] at h7
    exact h7
  have h6 : (256 : Int) ^ 7 = 72057594037927936 := by decide
  omega
theorem wrap_small {x : Int} (h : x < 18446744073709551616) (h0 : 0 ≤ x) : IntKind.u64.wrap x = x := by
  rw [IntKind.wrap_u64]; omega

end Go.Proofs.YtfhhepfkjndkgaaGreat
namespace Go.Proofs.YtfhhepfkjndkgaaGreat
set_option linter.all false
open Go.RowKit

def pkF (g : Nat) (A : Option Addr) (m c : Nat) : Nat → Prop := fun k => k = g ∨ rowF (.slice A m c) k
section
variable {w w1 : World} {g m c m' c' : Nat} {A A' : Option Addr} {e : Int} {l l' : List UInt8}
end

/-- append of a string onto a list of bytes, at the operation. -/
theorem wpList_app_str {w : World} {ops : Array Oper} {rest : List Oper} {o : Oper} {a : Act} {Q : Exit → Act → World → Prop} (hgd : o.guard = none) (s x : Operand)
    (ho : o.op = .call { callee := .builtin .append, args := #[s, x], argTypes := #[261, 9] })
    (v : Value) (n : Nat) (l : List UInt8) (hs : a.eval s = v) (hown : w.ownsRow 0 5 1 v n (bys l)) (t : ByteArray) (hx : a.eval x = .string t)
    (hb : n + t.size ≤ 2199023255552)
    (h : ∀ A' c' w', w'.ownsRow 0 5 1 (.slice A' (n + t.size) c') (n + t.size) (bys (l ++ t.data.toList)) → Mv (rowF v) (rowF (.slice A' (n + t.size) c')) w w' → wpList Tryz.prog ops Q rest (a.put o.dst (.slice A' (n + t.size) c')) w') : wpList Tryz.prog ops Q (o :: rest) a w := by
  obtain ⟨i0, hi, hz0, hz1, hz2⟩ := info_parts info_u8
  exact wpList_app_string hgd s x 261 9 ho 5 i0 Tryz.underlying261 Tryz.underlying9 hi hz0 hz1 hz2 v n (bys l) hs hown t hx (by unfold maxLen; omega) (by omega) (fun A' c' w' h1 h2 => h A' c' w' (by rw [bys_append]; exact h1) h2)

/-- A name's place of sixteen bytes. -/
def nameB (s : ByteArray) : List UInt8 := UInt8.ofNat s.size :: s.data.toList ++ List.replicate (15 - s.size) 0
def pNames : Int → List UInt8 → List ByteArray → Int × List UInt8
  | e, l, [] => (e, l)
  | e, l, s :: ss => if e = 0 then (if 15 < s.size then (2, l) else pNames 0 (l ++ nameB s) ss) else (e, l)
theorem le_zero (k : Nat) : le 0 k = List.replicate k 0 := by
  induction k with
  | zero => rfl
  | succ k ih => simp [le, ih, List.replicate_succ]
theorem nameB_len (s : ByteArray) (h : s.size ≤ 15) : (nameB s).length = 16 := by
  have : s.data.toList.length = s.size := by rw [Array.length_toList]; rfl
  simp only [nameB, List.cons_append, List.length_cons, List.length_append, List.length_replicate, this]; omega


/-- Text. -/
def textB (s : ByteArray) : List UInt8 := le s.size 2 ++ s.data.toList
def pText (e : Int) (l : List UInt8) (s : ByteArray) : Int × List UInt8 := if e = 0 then (if 60000 < s.size then (2, l) else (0, l ++ textB s)) else (e, l)

/-- Fill. -/
def pFill (e : Int) (l : List UInt8) (n : Int) : Int × List UInt8 :=
  if e = 0 then (if n < 0 ∨ 60000 < n then (1, l) else if n < l.length then (2, l) else (0, l ++ List.replicate (n.toNat - l.length) 0)) else (e, l)

end Go.Proofs.YtfhhepfkjndkgaaGreat
namespace Go.Proofs.YtfhhepfkjndkgaaGreat
set_option linter.all false
open Go.RowKit

/-- A text of bytes. -/
def bstr (l : List UInt8) : ByteArray := ⟨l.toArray⟩
theorem bstr_size (l : List UInt8) : (bstr l).size = l.length := by simp [bstr, ByteArray.size]
theorem bstr_list (l : List UInt8) : (bstr l).data.toList = l := by simp [bstr]
theorem bstr_of (s : ByteArray) : s = bstr s.data.toList := by simp [bstr]
theorem bstr_extract (l : List UInt8) (i j : Nat) : (bstr l).extract i j = bstr ((l.take j).drop i) := by
  apply ByteArray.ext
  simp [bstr, List.drop_take]

def uTake (e : Int) (b : List UInt8) (n : Nat) : Int × List UInt8 × List UInt8 :=
  if e = 0 then (if b.length < n then (5, b, []) else (0, b.drop n, b.take n)) else (e, b, [])
/-- The number of bytes, the lowest first. -/
def ofLe : List UInt8 → Nat
  | [] => 0
  | b :: t => b.toNat + 256 * ofLe t
theorem ofLe_le (x k : Nat) : ofLe (le x k) = x % 256 ^ k := by
  induction k generalizing x with
  | zero => simp [le, ofLe, Nat.mod_one]
  | succ k ih =>
    rw [le, ofLe, ih, Nat.pow_succ, Nat.mul_comm (256 ^ k) 256, Nat.mod_mul]
    simp
theorem ofLe_lt (l : List UInt8) : ofLe l < 256 ^ l.length := by
  induction l with
  | nil => simp [ofLe]
  | cons b t ih =>
    have := b.toNat_lt
    rw [ofLe, List.length_cons, Nat.pow_succ]
    omega
theorem le_ofLe (l : List UInt8) : le (ofLe l) l.length = l := by
  induction l with
  | nil => rfl
  | cons b t ih =>
    have h := b.toNat_lt
    rw [ofLe, List.length_cons, le, show (b.toNat + 256 * ofLe t) / 256 = ofLe t by omega, ih]
    congr 1
    apply UInt8.toNat_inj.1
    simp
theorem ofLe_snoc (l : List UInt8) (b : UInt8) : ofLe (l ++ [b]) = ofLe l + b.toNat * 256 ^ l.length := by
  induction l with
  | nil => simp [ofLe]
  | cons c t ih =>
    rw [List.cons_append, ofLe, ih, ofLe, List.length_cons, Nat.pow_succ, Nat.mul_add, Nat.mul_comm (256 ^ t.length) 256]
    rw [Nat.mul_left_comm, Nat.add_assoc]

theorem or_byte {k v x : Nat} (hk : k < 8) (hv : v < 256 ^ k) (hx : x < 256) : bits .or .u64 (v : Int) (IntKind.u64.wrap ((x : Int) * 2 ^ (8 * k))) = ((v + x * 256 ^ k : Nat) : Int) := by
  have e1 : ((x : Int) * 2 ^ (8 * k)) = ((x * 256 ^ k : Nat) : Int) := by
    rw [pow_bytes]; simp
  have h1 : 256 ^ (k + 1) ≤ 256 ^ 8 := Nat.pow_le_pow_right (by decide) (by omega)
  have h2 : (256 : Nat) ^ 8 = 18446744073709551616 := by decide
  have h3 : (x + 1) * 256 ^ k ≤ 256 * 256 ^ k := Nat.mul_le_mul_right _ (by omega)
  have h4 : 256 * 256 ^ k = 256 ^ (k + 1) := by rw [Nat.pow_succ, Nat.mul_comm]
  have h5 : (x + 1) * 256 ^ k = x * 256 ^ k + 256 ^ k := by rw [Nat.add_mul, Nat.one_mul]
  have h6 : x * 256 ^ k < 18446744073709551616 := by omega
  rw [e1, IntKind.wrap_u64, show (((x * 256 ^ k : Nat) : Int) % 18446744073709551616) = ((x * 256 ^ k : Nat) : Int) by omega, u64_or_nat _ _ (by omega) h6]
  congr 1
  have e2 : x * 256 ^ k = 2 ^ (8 * k) * x := by rw [Nat.pow_mul, Nat.mul_comm]
  rw [e2, Nat.or_comm, ← Nat.two_pow_add_eq_or_of_lt (by rw [Nat.pow_mul]; exact hv) x, Nat.add_comm]

theorem uTake_len (e : Int) (b : List UInt8) (n : Nat) : (uTake e b n).2.2.length ≤ n := by
  unfold uTake
  split
  · split <;> simp <;> omega
  · simp

/-- A number of 64 bits as an int. -/
def sgn (n : Nat) : Int := if n < 9223372036854775808 then n else (n : Int) - 18446744073709551616
theorem wrap_sgn (n : Nat) (h : n < 18446744073709551616) : IntKind.i64.wrap (n : Int) = sgn n := by
  rw [IntKind.wrap_i64]
  unfold sgn
  split <;> omega

end Go.Proofs.YtfhhepfkjndkgaaGreat
namespace Go.Proofs.YtfhhepfkjndkgaaGreat
set_option linter.all false
open Go.RowKit

/-- What Small reads: the new error, what is left, the number. -/
def uSmall (size : Int) (e : Int) (b : List UInt8) : Int × List UInt8 × Nat :=
  if e = 0 then (if fitsB size 0 = true then ((uTake 0 b size.toNat).1, (uTake 0 b size.toNat).2.1, ofLe (uTake 0 b size.toNat).2.2) else (1, b, 0)) else (e, b, 0)

theorem fits_of {size x : Int} (h : fitsB size x = true) : 1 ≤ size ∧ size ≤ 7 ∧ 0 ≤ x ∧ x < 256 ^ size.toNat := of_decide_eq_true h
theorem ofLe_lt8 {l : List UInt8} {k : Nat} (h : l.length ≤ k) (hk : k ≤ 7) : ofLe l < 72057594037927936 := by
  have h1 := ofLe_lt l
  have h2 := Nat.pow_le_pow_right (show 256 > 0 by decide) (Nat.le_trans h hk)
  have h3 : (256 : Nat) ^ 7 = 72057594037927936 := by decide
  omega
/-- Name: what is read of the sixteen bytes. -/
def allZ (l : List UInt8) : Bool := l.all (· == 0)
def nameOk (t : List UInt8) : Bool := decide ((t.headD 0).toNat ≤ 15) && allZ (t.drop (1 + (t.headD 0).toNat))
def uName (e : Int) (b : List UInt8) : Int × List UInt8 × List UInt8 :=
  if (uTake e b 16).2.2 = [] then ((uTake e b 16).1, (uTake e b 16).2.1, [])
  else if nameOk (uTake e b 16).2.2 = true then ((uTake e b 16).1, (uTake e b 16).2.1, ((uTake e b 16).2.2.drop 1).take ((uTake e b 16).2.2.headD 0).toNat)
  else (6, (uTake e b 16).2.1, [])
theorem dropWhile_nil {l : List UInt8} : l.dropWhile (· == 0) = [] ↔ l.all (· == 0) = true := by
  induction l with
  | nil => simp
  | cons a t ih => by_cases h : a = 0 <;> simp [List.dropWhile_cons, h, ih]
theorem trim_zero (l : List UInt8) : (Lib.trimB l 0 = []) ↔ l.all (· == 0) = true := by
  unfold Lib.trimB Lib.trimLeftB Lib.trimRightB
  rw [dropWhile_nil, List.all_reverse]
  constructor
  · intro h
    by_cases hl : l.reverse.dropWhile (· == 0) = []
    · rw [dropWhile_nil, List.all_reverse] at hl
      exact hl
    · have := List.head_dropWhile_not (p := (· == (0 : UInt8))) hl
      have h2 := List.all_eq_true.1 h _ (List.head_mem hl)
      rw [h2] at this
      cases this
  · intro h
    apply List.all_eq_true.2
    intro x hx
    exact List.all_eq_true.1 h x (List.mem_reverse.1 ((List.dropWhile_sublist _).mem hx))

/-- What Text reads. -/
def uText (e : Int) (b : List UInt8) : Int × List UInt8 × List UInt8 :=
  if e = 0 then (if b.length < 2 then (5, b, []) else if b.length - 2 < ofLe (b.take 2) then (5, b, []) else (0, b.drop (2 + ofLe (b.take 2)), (b.drop 2).take (ofLe (b.take 2)))) else (e, b, [])

end Go.Proofs.YtfhhepfkjndkgaaGreat
namespace Go.Proofs.YtfhhepfkjndkgaaGreat
set_option linter.all false
open Go.RowKit

end Go.Proofs.YtfhhepfkjndkgaaGreat
namespace Go.Proofs.YtfhhepfkjndkgaaGreat
set_option linter.all false
open Go.RowKit

theorem uTake_app {a t : List UInt8} {n : Nat} (h : a.length = n) : uTake 0 (a ++ t) n = (0, t, a) := by
  subst h
  unfold uTake
  rw [if_pos rfl, if_neg (by simp), List.drop_left, List.take_left]
theorem u64_lt (x : Int) : u64 x < 18446744073709551616 := by unfold u64; omega
theorem pow8 : (256 : Nat) ^ 8 = 18446744073709551616 := by decide
theorem ofLe_le8 (x : Nat) (h : x < 18446744073709551616) : ofLe (le x 8) = x := by rw [ofLe_le, pow8, Nat.mod_eq_of_lt h]
theorem sgn_u64 {x : Int} (h0 : -9223372036854775808 ≤ x) (h1 : x ≤ 9223372036854775807) : sgn (u64 x) = x := by
  unfold sgn u64
  split <;> omega
theorem le8_cons (x : Int) (t : List Int) : le8 (x :: t) = le (u64 x) 8 ++ le8 t := by simp [le8]

theorem allZ_rep (n : Nat) : allZ (List.replicate n 0) = true := by simp [allZ]
theorem nameB_back {s : ByteArray} (h : s.size ≤ 15) (t : List UInt8) : uName 0 (nameB s ++ t) = (0, t, s.data.toList) := by
  have hb : (UInt8.ofNat s.size).toNat = s.size := by simp; omega
  have hd : (nameB s).headD 0 = UInt8.ofNat s.size := rfl
  have h1 : (nameB s).drop 1 = s.data.toList ++ List.replicate (15 - s.size) 0 := rfl
  have h2 : (nameB s).drop (1 + s.size) = List.replicate (15 - s.size) 0 := by
    rw [← List.drop_drop, h1]
    rw [List.drop_append_of_le_length (by rw [str_len]; exact Nat.le_refl _), List.drop_of_length_le (by rw [str_len]; exact Nat.le_refl _), List.nil_append]
  unfold uName
  rw [uTake_app (nameB_len s h)]
  rw [if_neg (by simp [nameB])]
  have hok : nameOk (nameB s) = true := by
    unfold nameOk
    rw [hd, hb, h2, allZ_rep]
    simp [h]
  rw [if_pos hok]
  simp only [hd, hb, h1]
  rw [List.take_append_of_le_length (by rw [str_len]; exact Nat.le_refl _), List.take_of_length_le (by rw [str_len]; exact Nat.le_refl _)]
theorem textB_back {s : ByteArray} (h : s.size ≤ 60000) (t : List UInt8) : uText 0 (textB s ++ t) = (0, t, s.data.toList) := by
  have hl : (le s.size 2).length = 2 := le_length _ _
  have e0 : textB s ++ t = le s.size 2 ++ (s.data.toList ++ t) := by simp [textB]
  have e1 : (textB s ++ t).take 2 = le s.size 2 := by rw [e0, List.take_append_of_le_length (by omega), List.take_of_length_le (by omega)]
  have e2 : (textB s ++ t).drop 2 = s.data.toList ++ t := by rw [e0, List.drop_append_of_le_length (by omega), List.drop_of_length_le (by omega), List.nil_append]
  have e3 : ofLe (le s.size 2) = s.size := by
    rw [ofLe_le, show (256 : Nat) ^ 2 = 65536 by decide, Nat.mod_eq_of_lt (by omega)]
  unfold uText
  rw [if_pos rfl, e1, e3, if_neg (by rw [e0, List.length_append, hl]; omega), if_neg (by rw [e0]; simp only [List.length_append, hl, str_len]; omega)]
  rw [e2, ← List.drop_drop, e2]
  rw [List.take_append_of_le_length (by rw [str_len]; exact Nat.le_refl _), List.take_of_length_le (by rw [str_len]; exact Nat.le_refl _)]
  rw [List.drop_append_of_le_length (by rw [str_len]; exact Nat.le_refl _), List.drop_of_length_le (by rw [str_len]; exact Nat.le_refl _), List.nil_append]
theorem pNames_ok {e : List UInt8} {ss : List ByteArray} (h : ∀ s ∈ ss, s.size ≤ 15) : pNames 0 e ss = (0, e ++ ss.flatMap nameB) := by
  induction ss generalizing e with
  | nil => simp [pNames]
  | cons s ss ih =>
    have h1 := h s (List.mem_cons_self ..)
    simp only [pNames, if_true, if_neg (show ¬ 15 < s.size by omega)]
    rw [ih (fun x hx => h x (List.mem_cons_of_mem _ hx)), List.flatMap_cons, List.append_assoc]
theorem pNames_long {e : List UInt8} {ss : List ByteArray} (h : ∃ s ∈ ss, 15 < s.size) : (pNames 0 e ss).1 = 2 := by
  induction ss generalizing e with
  | nil => obtain ⟨s, hs, _⟩ := h; cases hs
  | cons s ss ih =>
    simp only [pNames, if_true]
    split
    · rfl
    · rename_i hn
      obtain ⟨x, hx, h15⟩ := h
      rcases List.mem_cons.1 hx with rfl | hx
      · exact absurd h15 hn
      · exact ih ⟨x, hx, h15⟩
theorem flat_nameB_len {ss : List ByteArray} (h : ∀ s ∈ ss, s.size ≤ 15) : (ss.flatMap nameB).length = 16 * ss.length := by
  induction ss with
  | nil => rfl
  | cons s ss ih =>
    rw [List.flatMap_cons, List.length_append, nameB_len s (h s (List.mem_cons_self ..)), ih (fun x hx => h x (List.mem_cons_of_mem _ hx)), List.length_cons]
    omega
theorem drop_cons {α : Type} {l : List α} {k : Nat} {x : α} (h : l[k]? = some x) : l.drop k = x :: l.drop (k + 1) := by
  rw [List.drop_eq_getElem?_toList_append, h]; rfl
end Go.Proofs.YtfhhepfkjndkgaaGreat
