/- Walks of package reach: Start, Cover, All. -/
import Derived.Test.YteajonicnkpbbaaGreatDoorBases
import Derived.Test.YteajonicnkpbbaaGreatDoorBase
import Derived.Test.YteajonicnkpbbaaGreatDoorSame
import Derived.Test.YteajonicnkpbbaaGreatDoorTk
namespace Go.Proofs.YteajonicnkpbbaaGreatDoor
set_option linter.all false
open Go.RowKit

def startV (now : Int) (l : List TierV) (fl : List Int) (i t : Int) : Int × Bool :=
 if 0 ≤ i ∧ i < (l.length : Int) ∧ 0 ≤ t then
  match l[i.toNat]? with
  | some x => (floorV t x.every, decide (fromI now l fl i ≤ floorV t x.every))
  | none => (0, false)
 else (0, false)
def fromsV (now : Int) (l : List TierV) (fl : List Int) : List Int := (List.range l.length).map fun k => fromV now l fl k
theorem fromsV_get {now : Int} {l : List TierV} {fl : List Int} {k : Nat} (h : k < l.length) : (fromsV now l fl)[k]? = some (fromV now l fl k) := by
 unfold fromsV
 rw [List.getElem?_map, List.getElem?_range h]
 rfl
set_option maxRecDepth 100000 in
set_option maxHeartbeats 4000000 in
theorem rall_any (now : Int) (hnow : i64 now) (nm : ByteArray) (l : List TierV) (A : Option Addr) (n c : Nat) (fl : List Int) (B : Option Addr) (m d : Nat) (w : World) (hr : Rd w 4 A n (tcells l)) (hf : Rd w 1 B m (ints fl)) (hwf : ∀ t ∈ l, t.wf) (hn : n ≤ 1099511627776) :
  Calls Tryz.prog 33 #[reachV now nm A n c B m d] w fun r w' => (∃ R cs, r = .returned (.slice R n cs) ∧ w'.ownsRow w.heap.size 3 1 (.slice R n cs) n (ints (fromsV now l fl))) ∧ Below w.heap.size w w' := by
 have HV : Hid (∀ (k : Nat), k < n → ∀ W, Fr (fun _ => False) w W → Calls Tryz.prog 110 #[.agg #[.int .i64 now, .string nm, .slice A n c, .slice B m d], .int .i64 k] W fun r w'' => r = .returned (.int .i64 (fromV now l fl k)) ∧ Below W.heap.size W w'') := fun k hk W h => rfrom_any now hnow nm l A n c fl B m d k W (hr.fr0 h) (hf.fr0 h) hwf hk hn
 unfold reachV
 have HI : Hid (∀ (i : Int) W, Fr (fun _ => False) w W → Calls Tryz.prog 110 #[.agg #[.int .i64 now, .string nm, .slice A n c, .slice B m d], .int .i64 i] W fun r w'' => r = .returned (.int .i64 (fromI now l fl i)) ∧ Below W.heap.size W w'') := fun i W h => fromI_any now hnow nm l A n c fl B m d i W (hr.fr0 h) (hf.fr0 h) hwf hn
 have HIs : Hid (∀ (i : Int) W, Calls Tryz.prog 165 #[.agg #[.int .i64 now, .string nm, .slice A n c, .slice B m d], .int .i64 i] W fun r w'' => r = .returned (.bool (decide (0 ≤ i) && decide (i < n))) ∧ Below W.heap.size W w'') := fun i W => is_any now nm A n c B m d i W
 have Hr := Lib.hid hr
 have Hlen := Lib.hid hr.tiers_len
 have Hwf := Lib.hid hwf
 obtain ⟨W1, hW1⟩ : ∃ W1, W1 = w.alloc (.cells #[.int .i64 now, .string nm, .slice A n c, .slice B m d] 84) := ⟨_, rfl⟩
 have HW1 := Lib.hid hW1
 have B1 : Hid (Blk W1 w.heap.size 84 #[.int .i64 now, .string nm, .slice A n c, .slice B m d]) := hW1 ▸ Blk.new _ _ _
 have F1 : Hid (Fr (fun _ => False) w W1) := by show Fr _ _ _; rw [hW1]; exact Fr.none_alloc _ _
 have O1 : Hid (Own w W1 (fun _ => False)) := by show Own _ _ _; rw [hW1]; exact (Own.start w).skip (Fr.none_alloc _ _)
 clear hW1 hr hf hwf HI HIs
 obtain ⟨i0, hi, hz0, hz1, hz2⟩ := info_parts info_int
 go_enter Tryz.func33, Tryz.ntmps33
 go_wp2_with fail
 rw [← HW1.out]
 go_loopw [3, 9] (fun o i wr => ∃ (k : Nat) (R : Option Addr) (cs : Nat), k ≤ n ∧ i = .int .i64 k ∧ o = .slice R k cs ∧ wr.ownsRow w.heap.size 3 1 (.slice R k cs) k (ints ((fromsV now l fl).take k)) ∧ Blk wr w.heap.size 84 #[.int .i64 now, .string nm, .slice A n c, .slice B m d] ∧ Own w wr (rowF (.slice R k cs))) (fun _ i _ => n - (intOf i).toNat)
 case atStart => exact ⟨0, none, 0, Nat.zero_le _, rfl, rfl, World.ownsRow_nil _ _ _ _, B1.out, O1.out.also (fun k hk => by cases hk)⟩
 case round =>
  obtain ⟨k, R, cs, hk, rfl, rfl, hrow, hb2, ho⟩ := hrel
  have B2 := Lib.hid hb2
  have Hrow := Lib.hid hrow
  have Ho := Lib.hid ho
  clear hb2 hrow ho
  have a0 := B2.out.cell 0
  have a1 := B2.out.cell 1
  have a2 := B2.out.cell 2
  have a3 := B2.out.cell 3
  simp only [List.getElem?_toArray, List.getElem?_cons_succ, List.getElem?_cons_zero] at a0 a1 a2 a3
  by_cases hlt : k < n
  ·have HVk := Lib.hid (HV.out k hlt wr (Fr.b0 Ho.out.bel))
   have Hget := Lib.hid (fromsV_get (now := now) (fl := fl) (show k < l.length by rw [Hlen.out]; exact hlt))
   obtain ⟨fv, hfv⟩ : ∃ fv, fromV now l fl k = fv := ⟨_, rfl⟩
   rw [hfv] at HVk Hget
   have hw0 := Ho.out.bel.size
   clear hfv
   go_wp2_with fail
   refine HVk.out.mono ?_
   rintro r w3 ⟨rfl, b3⟩
   have Hrow3 := Lib.hid (own_fr0 Hrow.out (Fr.b0 b3))
   have B3 := Lib.hid (B2.out.below b3)
   have O3 := Lib.hid (Ho.out.skip (Fr.b0 b3))
   have hw3 : w.heap.size ≤ w3.heap.size := Nat.le_trans hw0 b3.size
   clear b3 a0 a1 a2 a3
   go_wp2_with (at_builtin; refine wpList_app2 rfl _ _ 26 rfl 3 i0 _ 1 8 Tryz.underlying26 hi hz0 hz1 hz2 rfl (by decide) (.slice R k cs) k _ rfl w.heap.size (by simp; omega) (own_fr0 Hrow3.out (Fr.none_alloc _ _)) (some ⟨w3.heap.size, 0, none⟩) 1 1 [.int .i64 fv] rfl (Rd.newS (by simp) _ _ _ _ rfl) (by simp [Value.oneCell']) ?q1 ?q2 ?_)
   case q1 => unfold maxLen; omega
   case q2 => omega
   intro R6 c6 w6 ho6 hm6 _
   have Ho6 := Lib.hid ho6
   have B6 := Lib.hid ((B3.out.alloc _).fr hm6.fr (own_blk_ne Hrow3.out B3.out (by decide)))
   have O6 := Lib.hid ((O3.out.skip (Fr.none_alloc _ _)).mv hm6)
   clear ho6 hm6
   go_wp2
   go_roundw
   case rel =>
    refine ⟨k + 1, R6, c6, by omega, by go_num, rfl, ?_, B6.out, O6.out⟩
    have h := Ho6.out
    rw [take_snoc Hget.out]
    unfold ints at h ⊢
    rw [List.map_append]
    exact h
   case measure => simp [intOf]; omega
  ·obtain rfl : k = n := by omega
   have hl : (fromsV now l fl).take k = fromsV now l fl := take_all (by unfold fromsV; rw [List.length_map, List.length_range, Hlen.out]; exact Nat.le_refl _)
   rw [hl] at Hrow
   clear hl
   go_wp2_with fail
   go_ret
   exact ⟨⟨R, cs, rfl, Hrow.out⟩, Ho.out.bel⟩
end Go.Proofs.YteajonicnkpbbaaGreatDoor
namespace Go.Proofs.YteajonicnkpbbaaGreatDoor
set_option linter.all false
open Go.RowKit

def takesV (now : Int) (l : List TierV) (fl : List Int) (s : SampV) : Int :=
 if validB s.name = true ∧ 0 ≤ s.time then
  if now < s.time then 25 else if 0 < l.length ∧ fromI now l fl 0 ≤ s.time then 0 else 24
 else 1
end Go.Proofs.YteajonicnkpbbaaGreatDoor
