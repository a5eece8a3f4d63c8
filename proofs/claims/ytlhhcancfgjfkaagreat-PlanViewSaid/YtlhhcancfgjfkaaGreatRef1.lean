/- Walks of sedimentref1: Packer (Word, Int, Name), Unpacker (take, Word, Int, Name), Name, Valid. -/
import Derived.Test.YtlhhcancfgjfkaaGreatSame
namespace Go.Proofs.YtlhhcancfgjfkaaGreat
set_option linter.all false
open Go.RowKit

theorem wrap_quo {z : Int} (h0 : 0 ≤ z) (h1 : z < 18446744073709551616) : IntKind.u64.wrap (z.tdiv 256) = z / 256 := by
  rw [IntKind.wrap_u64, Int.tdiv_eq_ediv_of_nonneg h0]; omega
theorem quo_le {x z : Int} {k : Nat} (hx : 0 ≤ x) (hz : z = x / 256 ^ k) : z ≤ x := by
  subst hz
  exact Int.ediv_le_self _ hx
/-- What follows the length of a name. -/
def nameT (s : ByteArray) : List UInt8 := s.data.toList ++ List.replicate (15 - s.size) 0
theorem nameT_len (s : ByteArray) (h : s.size ≤ 15) : (nameT s).length = 15 := by
  unfold nameT
  rw [List.length_append, str_len, List.length_replicate]; omega
theorem nameB_T (s : ByteArray) : nameB s = UInt8.ofNat s.size :: nameT s := rfl
theorem nameT_lo {s : ByteArray} {k : Nat} (h : k < s.size) : (nameT s)[k]? = some s[k] := by
  unfold nameT
  rw [List.getElem?_append_left (by rw [str_len]; exact h)]
  exact byte_at h
theorem nameT_hi {s : ByteArray} {k : Nat} (h : s.size ≤ k) (hk : k < 15) : (nameT s)[k]? = some 0 := by
  unfold nameT
  rw [List.getElem?_append_right (by rw [str_len]; exact h), str_len, List.getElem?_replicate, if_pos (by omega)]

theorem ofLe_drop {l : List UInt8} {k : Nat} (h : k < l.length) : ofLe (l.drop k) = l[k].toNat + 256 * ofLe (l.drop (k + 1)) := by
  rw [List.drop_eq_getElem_cons h]; rfl
theorem wrap_acc {c d : Nat} (h : c + 256 * d < 18446744073709551616) : IntKind.u64.wrap (IntKind.u64.wrap ((d : Int) * 256) + IntKind.u64.wrap (c : Int)) = ((c + 256 * d : Nat) : Int) := by
  rw [IntKind.wrap_u64, IntKind.wrap_u64, IntKind.wrap_u64]; omega
theorem allZ_drop {l : List UInt8} {k : Nat} (h : k < l.length) : allZ (l.drop k) = ((l[k] == 0) && allZ (l.drop (k + 1))) := by
  rw [List.drop_eq_getElem_cons h]; rfl
end Go.Proofs.YtlhhcancfgjfkaaGreat
