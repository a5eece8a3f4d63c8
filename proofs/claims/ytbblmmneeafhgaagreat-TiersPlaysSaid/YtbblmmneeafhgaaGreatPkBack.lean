/- Walks of the small functions of package pack: fits, fail, low, Words, Ints, Small. -/
import Derived.Test.YtbblmmneeafhgaaGreatChecked
import Derived.Test.YtbblmmneeafhgaaGreatBase
import Derived.Test.YtbblmmneeafhgaaGreatShelf
import Derived.Laws.BitsAllLaws
import Derived.Lib.TrimByte
namespace Go.Proofs.YtbblmmneeafhgaaGreat
set_option linter.all false
open Go.RowKit

def le : Nat → Nat → List UInt8
 | _, 0 => []
 | x, k + 1 => UInt8.ofNat x :: le (x / 256) k

theorem le_length (x k : Nat) : (le x k).length = k := by
 induction k generalizing x with
 | zero => rfl
 | succ k ih => simp [le, ih]

end Go.Proofs.YtbblmmneeafhgaaGreat
namespace Go.Proofs.YtbblmmneeafhgaaGreat
set_option linter.all false
open Go.RowKit

def u64 (x : Int) : Nat := (x % 18446744073709551616).toNat
def le8 (l : List Int) : List UInt8 := l.flatMap fun x => le (u64 x) 8
theorem le8_len (l : List Int) : (le8 l).length = 8 * l.length := by
 induction l with
 | nil => simp [le8]
 | cons a t ih => simp only [le8, List.flatMap_cons, List.length_append, le_length, List.length_cons] at ih ⊢; omega

end Go.Proofs.YtbblmmneeafhgaaGreat
namespace Go.Proofs.YtbblmmneeafhgaaGreat
set_option linter.all false
open Go.RowKit

section
variable {w w1 : World} {g m c m' c' : Nat} {A A' : Option Addr} {e : Int} {l l' : List UInt8}
end

def nameB (s : ByteArray) : List UInt8 := UInt8.ofNat s.size :: s.data.toList ++ List.replicate (15 - s.size) 0
theorem nameB_len (s : ByteArray) (h : s.size ≤ 15) : (nameB s).length = 16 := by
 have : s.data.toList.length = s.size := by rw [Array.length_toList]; rfl
 simp only [nameB, List.cons_append, List.length_cons, List.length_append, List.length_replicate, this]; omega


end Go.Proofs.YtbblmmneeafhgaaGreat
namespace Go.Proofs.YtbblmmneeafhgaaGreat
set_option linter.all false
open Go.RowKit

end Go.Proofs.YtbblmmneeafhgaaGreat
namespace Go.Proofs.YtbblmmneeafhgaaGreat
set_option linter.all false
open Go.RowKit

end Go.Proofs.YtbblmmneeafhgaaGreat
namespace Go.Proofs.YtbblmmneeafhgaaGreat
set_option linter.all false
open Go.RowKit

end Go.Proofs.YtbblmmneeafhgaaGreat
namespace Go.Proofs.YtbblmmneeafhgaaGreat
set_option linter.all false
open Go.RowKit

end Go.Proofs.YtbblmmneeafhgaaGreat
