/- Walk of plan.source. -/
import Derived.Test.YteajonicnkpbbaaGreatDoorFrom
import Derived.Deep.RegionLaw
namespace Go.Proofs.YteajonicnkpbbaaGreatDoor
set_option linter.all false
open Go.RowKit

def srcGo (now : Int) (l : List TierV) (fl : List Int) (every : Int) : Nat → Int
  | 0 => -1
  | k + 1 => match l[k]? with
    | some t => if dividesB t.every every && (decide (srcGo now l fl every k < 0) || decide (fromV now l fl k ≤ fromV now l fl (srcGo now l fl every k).toNat)) then (k : Int) else srcGo now l fl every k
    | none => srcGo now l fl every k
theorem srcGo_in (now : Int) (l : List TierV) (fl : List Int) (every : Int) (k : Nat) : -1 ≤ srcGo now l fl every k ∧ srcGo now l fl every k < k := by
  induction k with
  | zero => simp [srcGo]
  | succ k ih =>
    simp only [srcGo]
    split
    · split <;> omega
    · omega


end Go.Proofs.YteajonicnkpbbaaGreatDoor
namespace Go.Proofs.YteajonicnkpbbaaGreatDoor
set_option linter.all false
open Go.RowKit

def planV (nm : ByteArray) (A : Option Addr) (n c : Nat) (B : Option Addr) (m d : Nat) : Value := .agg #[.string nm, .slice A n c, .slice B m d]
def srcs (now : Int) (lf : List TierV) (fl : List Int) (lt : List TierV) : List Int := lt.map fun t => srcGo now lf fl t.every lf.length

end Go.Proofs.YteajonicnkpbbaaGreatDoor
namespace Go.Proofs.YteajonicnkpbbaaGreatDoor
set_option linter.all false
open Go.RowKit

def fromI (now : Int) (l : List TierV) (fl : List Int) (i : Int) : Int := if 0 ≤ i ∧ i < l.length then fromV now l fl i.toNat else 0
theorem fromV_in {now : Int} {l : List TierV} {fl : List Int} (hnow : i64 now) (hl : ∀ t ∈ l, t.wf) (hf : ∀ f ∈ fl, i64 f) (k : Nat) : i64 (fromV now l fl k) := by
  unfold fromV
  split
  · rename_i a b ha hb
    have wa := hl a (mem_of_get ha)
    have hb2 := back_in (now := now) (keep := a.keep) (every := b.every) hnow.2 wa.2.1.2
    split
    · rename_i f hfk
      have := hf f (mem_of_get hfk)
      show i64 (max (backV now a.keep b.every) f)
      unfold i64 at this ⊢
      omega
    · show i64 (backV now a.keep b.every)
      unfold i64; omega
  · unfold i64; omega
theorem fromI_any (now : Int) (hnow : i64 now) (nm : ByteArray) (l : List TierV) (A : Option Addr) (n c : Nat) (fl : List Int) (B : Option Addr) (m d : Nat) (i : Int) (w : World) (hr : Rd w 4 A n (tcells l)) (hf : Rd w 1 B m (ints fl)) (hwf : ∀ t ∈ l, t.wf) (hn : n ≤ 1099511627776) :
    Calls Tryz.prog 110 #[reachV now nm A n c B m d, .int .i64 i] w fun r w' => r = .returned (.int .i64 (fromI now l fl i)) ∧ Below w.heap.size w w' := by
  have hl := hr.tiers_len
  unfold fromI
  rw [hl]
  by_cases h : 0 ≤ i ∧ i < (n : Int)
  · rw [if_pos h]
    obtain ⟨k, rfl⟩ := Int.eq_ofNat_of_zero_le h.1
    exact rfrom_any now hnow nm l A n c fl B m d k w hr hf hwf (by omega) hn
  · rw [if_neg h]
    exact from_bad now nm A n c B m d i w (by simp; omega)

def basesV (now : Int) (lf : List TierV) (fl : List Int) (ss : List Int) (lt : List TierV) : List Int := List.zipWith (fun s t => ceilV (fromI now lf fl s) t.every) ss lt

end Go.Proofs.YteajonicnkpbbaaGreatDoor
