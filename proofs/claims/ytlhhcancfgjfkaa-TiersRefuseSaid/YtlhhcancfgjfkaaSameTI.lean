/- Tiers and ints compared: walks of sedimentbook.SameTiers, SameInts. -/
import Derived.Test.YtlhhcancfgjfkaaSame
import Derived.Test.YtlhhcancfgjfkaaFrom
namespace Go.Proofs.Ytlhhcancfgjfkaa
set_option linter.all false
open Go.RowKit

def tierEq (x y : TierV) : Bool := (x.name.toList == y.name.toList) && ((x.every == y.every) && ((x.keep == y.keep) && (x.shards == y.shards)))
theorem tierEq_iff (x y : TierV) : tierEq x y = true ↔ x = y := by
  obtain ⟨a, b, c, d⟩ := x
  obtain ⟨a', b', c', d'⟩ := y
  unfold tierEq
  simp only [Bool.and_eq_true, beq_iff_eq, TierV.mk.injEq]
  exact ⟨fun h => ⟨toList_inj h.1, h.2⟩, fun h => ⟨by rw [h.1], h.2⟩⟩
instance tierDec : DecidableEq TierV := fun x y => if h : tierEq x y = true then isTrue ((tierEq_iff x y).1 h) else isFalse fun e => h ((tierEq_iff x y).2 e)
theorem run_eqtier (x y : TierV) (w : World) : (binOp .eql 30 x.val y.val).run Try.prog w = .ok (.bool (tierEq x y)) w := by
  have hu : Try.prog.underlying 30 = some (.struct (Try.prog.fieldsOf 30)) := by kernel_rfl
  have hp : Try.prog.stoodInHeld 30 = false := by kernel_rfl
  have hf : (Try.prog.fieldsOf 30).toList = [⟨"Name", 9, 0, false, "", "", 0⟩, ⟨"Every", 3, 1, false, "", "", 16⟩, ⟨"Keep", 3, 2, false, "", "", 24⟩, ⟨"Shards", 3, 3, false, "", "", 32⟩] := by kernel_rfl
  unfold TierV.val tierEq
  rw [run_eql_struct, run_equalIn_struct (P := Try.prog) w 9999 _ _ _ hu hp, hf]
  simp [Op.eqFields, part, eqs_string 9998, eqs_int 9998]
  by_cases h1 : x.name.toList = y.name.toList <;> by_cases h2 : x.every = y.every <;> by_cases h3 : x.keep = y.keep <;> by_cases h4 : x.shards = y.shards <;> simp [h1, h2, h3, h4]
theorem tier_len (t : TierV) : t.cells.length = 4 := rfl
theorem tcells_append (a b : List TierV) : tcells (a ++ b) = tcells a ++ tcells b := by simp [tcells]
theorem tierEq_true {x y : TierV} (h : x = y) (w : World) : (binOp .eql 30 x.val y.val).run Try.prog w = .ok (.bool true) w := by rw [run_eqtier, ((tierEq_iff x y).2 h)]
theorem tierEq_false {x y : TierV} (h : x ≠ y) (w : World) : (binOp .eql 30 x.val y.val).run Try.prog w = .ok (.bool false) w := by
  rw [run_eqtier]
  cases hb : tierEq x y
  · rfl
  · exact absurd ((tierEq_iff x y).1 hb) h
/-- An int's cell. -/
def icell (x : Int) : List Value := [.int .i64 x]
def icells (l : List Int) : List Value := l.flatMap icell
theorem icells_is (l : List Int) : icells l = l.map (Value.int .i64) := by
  induction l with
  | nil => rfl
  | cons a l ih => unfold icells at ih ⊢; rw [List.flatMap_cons, ih]; rfl
theorem icell_len (x : Int) : (icell x).length = 1 := rfl
theorem Rd.icell_ {w : World} {n k : Nat} {A : Option Addr} {l : List Int} (h : Rd w 1 A n (icells l)) (hk : k < n) : ∃ ad x, A = some ad ∧ l[k]? = some x ∧ w.cell? (ad.add k) = some (.int .i64 x) := by
  rw [icells_is] at h
  exact h.at_map hk
theorem Rd.icells_len {w : World} {n : Nat} {A : Option Addr} {l : List Int} (h : Rd w 1 A n (icells l)) : l.length = n := by
  rw [icells_is] at h
  exact h.len_map
theorem icells_one (l : List Int) : ∀ u ∈ icells l, u.oneCell' = true := by
  rw [icells_is]
  intro u hu
  rw [List.mem_map] at hu
  obtain ⟨x, _, rfl⟩ := hu
  rfl
theorem icells_append (a b : List Int) : icells (a ++ b) = icells a ++ icells b := by simp [icells]
end Go.Proofs.Ytlhhcancfgjfkaa
