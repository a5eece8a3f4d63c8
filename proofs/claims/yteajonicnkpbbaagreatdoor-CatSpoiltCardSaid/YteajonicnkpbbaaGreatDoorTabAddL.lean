/- Walks of package table: none, New, Every, Len. -/
import Derived.Test.YteajonicnkpbbaaGreatDoorTabM
import Derived.Carry
import Derived.Test.YteajonicnkpbbaaGreatDoorBase
import Derived.Test.YteajonicnkpbbaaGreatDoorTk
namespace Go.Proofs.YteajonicnkpbbaaGreatDoor
set_option linter.all false
open Go.RowKit
open Go.Maps (Keyed)

structure TabAt (w : World) (g : Nat) (every : Int) (b : Nat) (l : List RecV) : Prop where
 blk : Blk w g 244 #[.int .i64 every, .map (some b)]
 own : OwnsT w b l
theorem TabAt.fr {w w' : World} {F : Nat → Prop} {g b : Nat} {every : Int} {l : List RecV} (h : TabAt w g every b l) (hf : Fr F w w') (hg : ¬ F g) (hb : ¬ F b) : TabAt w' g every b l := ⟨h.blk.fr hf hg, h.own.fr hf hb⟩
theorem TabAt.fr0 {w w' : World} {g b : Nat} {every : Int} {l : List RecV} (h : TabAt w g every b l) (hf : Fr (fun _ => False) w w') : TabAt w' g every b l := h.fr hf (fun h => h) (fun h => h)
theorem TabAt.ne {w : World} {g b : Nat} {every : Int} {l : List RecV} (h : TabAt w g every b l) : g ≠ b := by
 rintro rfl
 obtain ⟨D, ⟨es, clock, hb, _⟩, _⟩ := h.own
 have hg : w.heap[g]? = some (.cells #[.int .i64 every, .map (some g)] 244 (0, 0)) := h.blk
 rw [hb] at hg
 cases hg
theorem OwnsT.made (w : World) : OwnsT (w.alloc (.map #[] 0)) w.heap.size [] := OwnsT.of (World.ownsMap_made w _ _ _) TabD.nil

theorem tabnew_any (e : Int) (w : World) :
  Calls Tryz.prog 142 #[.int .i64 e] w fun r w' => (∃ g b, r = .returned (.pointer (some ⟨g, 0, none⟩)) ∧ TabAt w' g (max e 1) b [] ∧ w.heap.size ≤ g ∧ w.heap.size ≤ b) ∧ Below w.heap.size w w' := by
 have hb : OwnsT ((w.alloc (.map #[] 0)).alloc (.cells #[.int .i64 (max e 1), .map (some w.heap.size)] 244)) w.heap.size [] := (OwnsT.made w).fr (Fr.none_alloc _ _) (fun h => h)
 have hg : Blk ((w.alloc (.map #[] 0)).alloc (.cells #[.int .i64 (max e 1), .map (some w.heap.size)] 244)) (w.heap.size + 1) 244 #[.int .i64 (max e 1), .map (some w.heap.size)] := Blk.new' (by simp) _ _
 have hO := Lib.hid (((Own.start w).skip (Fr.none_alloc w (.map #[] 0))).skip (Fr.none_alloc _ (.cells #[.int .i64 (max e 1), .map (some w.heap.size)] 244)))
 have HB := Lib.hid (TabAt.mk hg hb)
 clear hb hg
 obtain ⟨m, hm⟩ : ∃ m, max e 1 = m := ⟨_, rfl⟩
 rw [hm] at HB hO ⊢
 have hmm := @run_makeMap Tryz.prog
 go_enter Tryz.func142, Tryz.ntmps142
 go_wp2_with fail
 go_ret
 exact ⟨⟨_, _, rfl, HB.out, by omega, by omega⟩, hO.out.bel⟩
theorem fr_grown {w w' : World} {r : Nat} (h : w.grownBy w' (some r)) : Fr (fun j => j = r) w w' := ⟨h.os, h.tape, h.output, h.size, fun i hi hn => h.block i hi (fun e => hn (Option.some.inj e))⟩
end Go.Proofs.YteajonicnkpbbaaGreatDoor
namespace Go.Proofs.YteajonicnkpbbaaGreatDoor
set_option linter.all false
open Go.RowKit
open Go.Maps (Keyed)

end Go.Proofs.YteajonicnkpbbaaGreatDoor
namespace Go.Proofs.YteajonicnkpbbaaGreatDoor
set_option linter.all false
open Go.RowKit
open Go.Maps (Keyed)

def onB (t e : Int) : Bool := decide (1 ≤ e) && decide (t.tmod e = 0)
theorem on_any (t e : Int) (w : World) :
  Calls Tryz.prog 140 #[.int .i64 t, .int .i64 e] w fun r w' => r = .returned (.bool (onB t e)) ∧ w = w' := by
 by_cases h1 : 1 ≤ e
 ·by_cases h2 : t.tmod e = 0
  ·rw [show onB t e = true by simp [onB, h1, h2]]
   go_enter Tryz.func140, Tryz.ntmps140
   go_wp2_with fail
   all_goals (go_ret <;> simp [*])
  ·rw [show onB t e = false by simp [onB, h2]]
   go_enter Tryz.func140, Tryz.ntmps140
   go_wp2_with fail
   all_goals (go_ret <;> simp [*])
 ·rw [show onB t e = false by simp [onB, h1]]
  go_enter Tryz.func140, Tryz.ntmps140
  go_wp2_with fail
  all_goals (go_ret <;> simp [*])
def rightR (every : Int) (r : RecV) : Bool := validB r.name && decide (0 ≤ r.start) && onB r.start every && aggOk r.agg

end Go.Proofs.YteajonicnkpbbaaGreatDoor
namespace Go.Proofs.YteajonicnkpbbaaGreatDoor
set_option linter.all false
open Go.RowKit
open Go.Maps (Keyed)

section
variable {P : Program} {w w' : World}
end

def mgM (o : Option AggV) (a : AggV) : AggV := mergeL [o.getD agg0, a]
def addV (every : Int) (l : List RecV) (r : RecV) : List RecV := if rightR every r then insR mgM l r else l
def addsV (every : Int) (l : List RecV) (rs : List RecV) : List RecV := rs.foldl (addV every) l
end Go.Proofs.YteajonicnkpbbaaGreatDoor
namespace Go.Proofs.YteajonicnkpbbaaGreatDoor
set_option linter.all false
open Go.RowKit
open Go.Maps (Keyed)

theorem OwnsT.isMap {w : World} {b : Nat} {l : List RecV} (h : OwnsT w b l) : ∃ es ck, w.heap[b]? = some (.map es ck) := by
 obtain ⟨D, ⟨es, ck, hb, _⟩, _⟩ := h
 exact ⟨es, ck, hb⟩

end Go.Proofs.YteajonicnkpbbaaGreatDoor
