/- Walks of package reach: Start, Cover, All. -/
import Derived.Test.YtkfdgodngbinlaaGreatDoorBases
import Derived.Test.YtkfdgodngbinlaaGreatDoorBase
import Derived.Test.YtkfdgodngbinlaaGreatDoorSame
import Derived.Test.YtkfdgodngbinlaaGreatDoorTk
namespace Go.Proofs.YtkfdgodngbinlaaGreatDoor
set_option linter.all false
open Go.RowKit

def startV (now : Int) (l : List TierV) (fl : List Int) (i t : Int) : Int × Bool :=
 if 0 ≤ i ∧ i < (l.length : Int) ∧ 0 ≤ t then
  match l[i.toNat]? with
  | some x => (floorV t x.every, decide (fromI now l fl i ≤ floorV t x.every))
  | none => (0, false)
 else (0, false)
set_option maxRecDepth 100000 in
set_option maxHeartbeats 4000000 in
theorem start_any (now : Int) (hnow : i64 now) (nm : ByteArray) (l : List TierV) (A : Option Addr) (n c : Nat) (fl : List Int) (B : Option Addr) (m d : Nat) (i t : Int) (ht : i64 t) (w : World) (hr : Rd w 4 A n (tcells l)) (hf : Rd w 1 B m (ints fl)) (hwf : ∀ t ∈ l, t.wf) (hn : n ≤ 1099511627776) :
  Calls Tryz.prog 88 #[reachV now nm A n c B m d, .int .i64 i, .int .i64 t] w fun r w' => r = .returned (.tuple #[.int .i64 (startV now l fl i t).1, .bool (startV now l fl i t).2]) ∧ Below w.heap.size w w' := by
 unfold reachV
 have HI : Hid (∀ (i : Int) W, Fr (fun _ => False) w W → Calls Tryz.prog 54 #[.agg #[.int .i64 now, .string nm, .slice A n c, .slice B m d], .int .i64 i] W fun r w'' => r = .returned (.int .i64 (fromI now l fl i)) ∧ Below W.heap.size W w'') := fun i W h => fromI_any now hnow nm l A n c fl B m d i W (hr.fr0 h) (hf.fr0 h) hwf hn
 have HIs : Hid (∀ (i : Int) W, Calls Tryz.prog 53 #[.agg #[.int .i64 now, .string nm, .slice A n c, .slice B m d], .int .i64 i] W fun r w'' => r = .returned (.bool (decide (0 ≤ i) && decide (i < n))) ∧ Below W.heap.size W w'') := fun i W => is_any now nm A n c B m d i W
 have Hr := Lib.hid hr
 have Hlen := Lib.hid hr.tiers_len
 have Hwf := Lib.hid hwf
 obtain ⟨W1, hW1⟩ : ∃ W1, W1 = w.alloc (.cells #[.int .i64 now, .string nm, .slice A n c, .slice B m d] 39) := ⟨_, rfl⟩
 have HW1 := Lib.hid hW1
 have B1 : Hid (Blk W1 w.heap.size 39 #[.int .i64 now, .string nm, .slice A n c, .slice B m d]) := hW1 ▸ Blk.new _ _ _
 have F1 : Hid (Fr (fun _ => False) w W1) := by show Fr _ _ _; rw [hW1]; exact Fr.none_alloc _ _
 clear hW1 hr hf hwf
 unfold startV
 rw [Hlen.out]
 by_cases hi : 0 ≤ i ∧ i < (n : Int)
 ·have hib : (decide (0 ≤ i) && decide (i < (n : Int))) = true := by simp [hi.1, hi.2]
  by_cases h0 : 0 ≤ t
  ·have h0d : decide (t < 0) = false := decide_eq_false (by omega)
   rw [if_pos ⟨hi.1, hi.2, h0⟩]
   obtain ⟨k, rfl⟩ := Int.eq_ofNat_of_zero_le hi.1
   have hkn : k < n := by omega
   obtain ⟨ad, x, rfl, hx, e0, e1, e2, e3⟩ := (Hr.out.fr0 F1.out).tier hkn
   have HIk := Lib.hid (HI.out (k : Int))
   have hxw := Hwf.out x (mem_of_get hx)
   unfold i64 at ht
   have HF : Hid (∀ W, Calls Tryz.prog 91 #[.int .i64 t, .int .i64 x.every] W fun r w' => r = .returned (.int .i64 (floorV t x.every)) ∧ W = w') := fun W => floor_any t x.every ht.1 ht.2 hxw.1.1 hxw.1.2 W
   rw [Int.toNat_natCast, hx]
   simp only
   obtain ⟨fv, hfv⟩ : ∃ fv, floorV t x.every = fv := ⟨_, rfl⟩
   obtain ⟨gv, hgv⟩ : ∃ gv, fromI now l fl (k : Int) = gv := ⟨_, rfl⟩
   rw [hfv] at HF ⊢
   rw [hgv] at HIk ⊢
   have HIb := Lib.hid (HIs.out (k : Int))
   rw [hib] at HIb
   have E1 := Lib.hid e1
   clear hfv hgv hx hxw e0 e1 e2 e3 HI HIs
   go_enter Tryz.func88, Tryz.ntmps88
   have a0 := B1.out.cell 0
   have a1 := B1.out.cell 1
   have a2 := B1.out.cell 2
   have a3 := B1.out.cell 3
   simp only [List.getElem?_toArray, List.getElem?_cons_succ, List.getElem?_cons_zero] at a0 a1 a2 a3
   go_wp2_with fail
   rw [← HW1.out]
   refine (HIb.out W1).mono ?_
   rintro r w2 ⟨rfl, b2⟩
   have F2 := Lib.hid (Fr.b0 b2)
   have B2 := Lib.hid (B1.out.below b2)
   have e1 := F2.out.cell E1.out (fun h => h)
   clear a0 a1 a2 a3 b2
   have a0 := B2.out.cell 0
   have a1 := B2.out.cell 1
   have a2 := B2.out.cell 2
   have a3 := B2.out.cell 3
   simp only [List.getElem?_toArray, List.getElem?_cons_succ, List.getElem?_cons_zero] at a0 a1 a2 a3
   go_wp2_with (first | (go_at_call 91; refine (HF.out _).mono ?_; rintro r w3 ⟨rfl, rfl⟩) | (go_at_call 54; refine (HIk.out _ (F1.out.trans F2.out (fun _ h => h.elim))).mono ?_; rintro r w4 ⟨rfl, b4⟩))
   have O4 := Lib.hid ((F1.out.trans F2.out (fun _ h => h.elim)).trans (Fr.b0 b4) (fun _ h => h.elim))
   clear b4
   go_ret2
   exact ⟨rfl, O4.out.below (fun _ h => h.elim)⟩
  ·have h0d : decide (t < 0) = true := decide_eq_true (by omega)
   rw [if_neg (by omega)]
   have HIb := Lib.hid (HIs.out i)
   rw [hib] at HIb
   go_enter Tryz.func88, Tryz.ntmps88
   have a0 := B1.out.cell 0
   have a1 := B1.out.cell 1
   have a2 := B1.out.cell 2
   have a3 := B1.out.cell 3
   simp only [List.getElem?_toArray, List.getElem?_cons_succ, List.getElem?_cons_zero] at a0 a1 a2 a3
   go_wp2_with fail
   rw [← HW1.out]
   refine (HIb.out W1).mono ?_
   rintro r w2 ⟨rfl, b2⟩
   have O2 := Lib.hid (F1.out.trans (Fr.b0 b2) (fun _ h => h.elim))
   clear b2
   go_wp2_with fail
   go_ret2
   exact ⟨rfl, O2.out.below (fun _ h => h.elim)⟩
 ·have hib : (decide (0 ≤ i) && decide (i < (n : Int))) = false := by
   rw [Bool.and_eq_false_iff]
   by_cases h : 0 ≤ i
   ·exact .inr (decide_eq_false (fun k => hi ⟨h, k⟩))
   ·exact .inl (decide_eq_false h)
  rw [if_neg (by omega)]
  have HIb := Lib.hid (HIs.out i)
  rw [hib] at HIb
  go_enter Tryz.func88, Tryz.ntmps88
  have a0 := B1.out.cell 0
  have a1 := B1.out.cell 1
  have a2 := B1.out.cell 2
  have a3 := B1.out.cell 3
  simp only [List.getElem?_toArray, List.getElem?_cons_succ, List.getElem?_cons_zero] at a0 a1 a2 a3
  go_wp2_with fail
  rw [← HW1.out]
  refine (HIb.out W1).mono ?_
  rintro r w2 ⟨rfl, b2⟩
  have O2 := Lib.hid (F1.out.trans (Fr.b0 b2) (fun _ h => h.elim))
  clear b2
  go_wp2_with fail
  go_ret2
  exact ⟨rfl, O2.out.below (fun _ h => h.elim)⟩

def fromsV (now : Int) (l : List TierV) (fl : List Int) : List Int := (List.range l.length).map fun k => fromV now l fl k
theorem fromsV_get {now : Int} {l : List TierV} {fl : List Int} {k : Nat} (h : k < l.length) : (fromsV now l fl)[k]? = some (fromV now l fl k) := by
 unfold fromsV
 rw [List.getElem?_map, List.getElem?_range h]
 rfl
set_option maxRecDepth 100000 in
set_option maxHeartbeats 4000000 in
theorem rall_any (now : Int) (hnow : i64 now) (nm : ByteArray) (l : List TierV) (A : Option Addr) (n c : Nat) (fl : List Int) (B : Option Addr) (m d : Nat) (w : World) (hr : Rd w 4 A n (tcells l)) (hf : Rd w 1 B m (ints fl)) (hwf : ∀ t ∈ l, t.wf) (hn : n ≤ 1099511627776) :
  Calls Tryz.prog 65 #[reachV now nm A n c B m d] w fun r w' => (∃ R cs, r = .returned (.slice R n cs) ∧ w'.ownsRow w.heap.size 3 1 (.slice R n cs) n (ints (fromsV now l fl))) ∧ Below w.heap.size w w' := by
 have HV : Hid (∀ (k : Nat), k < n → ∀ W, Fr (fun _ => False) w W → Calls Tryz.prog 54 #[.agg #[.int .i64 now, .string nm, .slice A n c, .slice B m d], .int .i64 k] W fun r w'' => r = .returned (.int .i64 (fromV now l fl k)) ∧ Below W.heap.size W w'') := fun k hk W h => rfrom_any now hnow nm l A n c fl B m d k W (hr.fr0 h) (hf.fr0 h) hwf hk hn
 unfold reachV
 have HI : Hid (∀ (i : Int) W, Fr (fun _ => False) w W → Calls Tryz.prog 54 #[.agg #[.int .i64 now, .string nm, .slice A n c, .slice B m d], .int .i64 i] W fun r w'' => r = .returned (.int .i64 (fromI now l fl i)) ∧ Below W.heap.size W w'') := fun i W h => fromI_any now hnow nm l A n c fl B m d i W (hr.fr0 h) (hf.fr0 h) hwf hn
 have HIs : Hid (∀ (i : Int) W, Calls Tryz.prog 53 #[.agg #[.int .i64 now, .string nm, .slice A n c, .slice B m d], .int .i64 i] W fun r w'' => r = .returned (.bool (decide (0 ≤ i) && decide (i < n))) ∧ Below W.heap.size W w'') := fun i W => is_any now nm A n c B m d i W
 have Hr := Lib.hid hr
 have Hlen := Lib.hid hr.tiers_len
 have Hwf := Lib.hid hwf
 obtain ⟨W1, hW1⟩ : ∃ W1, W1 = w.alloc (.cells #[.int .i64 now, .string nm, .slice A n c, .slice B m d] 39) := ⟨_, rfl⟩
 have HW1 := Lib.hid hW1
 have B1 : Hid (Blk W1 w.heap.size 39 #[.int .i64 now, .string nm, .slice A n c, .slice B m d]) := hW1 ▸ Blk.new _ _ _
 have F1 : Hid (Fr (fun _ => False) w W1) := by show Fr _ _ _; rw [hW1]; exact Fr.none_alloc _ _
 have O1 : Hid (Own w W1 (fun _ => False)) := by show Own _ _ _; rw [hW1]; exact (Own.start w).skip (Fr.none_alloc _ _)
 clear hW1 hr hf hwf HI HIs
 obtain ⟨i0, hi, hz0, hz1, hz2⟩ := info_parts info_int
 go_enter Tryz.func65, Tryz.ntmps65
 go_wp2_with fail
 rw [← HW1.out]
 go_loopw [3, 9] (fun o i wr => ∃ (k : Nat) (R : Option Addr) (cs : Nat), k ≤ n ∧ i = .int .i64 k ∧ o = .slice R k cs ∧ wr.ownsRow w.heap.size 3 1 (.slice R k cs) k (ints ((fromsV now l fl).take k)) ∧ Blk wr w.heap.size 39 #[.int .i64 now, .string nm, .slice A n c, .slice B m d] ∧ Own w wr (rowF (.slice R k cs))) (fun _ i _ => n - (intOf i).toNat)
 case atStart => exact ⟨0, none, 0, Nat.zero_le _, rfl, rfl, World.ownsRow_nil _ _ _ _, B1.out, O1.out.also (fun k hk => by cases hk)⟩
 case round =>
  obtain ⟨k, R, cs, hk, rfl, rfl, hrow, hb2, ho⟩ := hrel
  have B2 := Lib.hid hb2
  have Hrow := Lib.hid hrow
  have Ho := Lib.hid ho
  clear hb2 hrow ho
  have a0 := B2.out.cell 0
  have a1 := B2.out.cell 1
  have a2 := B2.out.cell 2
  have a3 := B2.out.cell 3
  simp only [List.getElem?_toArray, List.getElem?_cons_succ, List.getElem?_cons_zero] at a0 a1 a2 a3
  by_cases hlt : k < n
  ·have HVk := Lib.hid (HV.out k hlt wr (Fr.b0 Ho.out.bel))
   have Hget := Lib.hid (fromsV_get (now := now) (fl := fl) (show k < l.length by rw [Hlen.out]; exact hlt))
   obtain ⟨fv, hfv⟩ : ∃ fv, fromV now l fl k = fv := ⟨_, rfl⟩
   rw [hfv] at HVk Hget
   have hw0 := Ho.out.bel.size
   clear hfv
   go_wp2_with fail
   refine HVk.out.mono ?_
   rintro r w3 ⟨rfl, b3⟩
   have Hrow3 := Lib.hid (own_fr0 Hrow.out (Fr.b0 b3))
   have B3 := Lib.hid (B2.out.below b3)
   have O3 := Lib.hid (Ho.out.skip (Fr.b0 b3))
   have hw3 : w.heap.size ≤ w3.heap.size := Nat.le_trans hw0 b3.size
   clear b3 a0 a1 a2 a3
   go_wp2_with (at_builtin; refine wpList_app2 rfl _ _ 37 rfl 3 i0 _ 1 8 Tryz.underlying37 hi hz0 hz1 hz2 rfl (by decide) (.slice R k cs) k _ rfl w.heap.size (by simp; omega) (own_fr0 Hrow3.out (Fr.none_alloc _ _)) (some ⟨w3.heap.size, 0, none⟩) 1 1 [.int .i64 fv] rfl (Rd.newS (by simp) _ _ _ _ rfl) (by simp [Value.oneCell']) ?q1 ?q2 ?_)
   case q1 => unfold maxLen; omega
   case q2 => omega
   intro R6 c6 w6 ho6 hm6 _
   have Ho6 := Lib.hid ho6
   have B6 := Lib.hid ((B3.out.alloc _).fr hm6.fr (own_blk_ne Hrow3.out B3.out (by decide)))
   have O6 := Lib.hid ((O3.out.skip (Fr.none_alloc _ _)).mv hm6)
   clear ho6 hm6
   go_wp2
   go_roundw
   case rel =>
    refine ⟨k + 1, R6, c6, by omega, by go_num, rfl, ?_, B6.out, O6.out⟩
    have h := Ho6.out
    rw [take_snoc Hget.out]
    unfold ints at h ⊢
    rw [List.map_append]
    exact h
   case measure => simp [intOf]; omega
  ·obtain rfl : k = n := by omega
   have hl : (fromsV now l fl).take k = fromsV now l fl := take_all (by unfold fromsV; rw [List.length_map, List.length_range, Hlen.out]; exact Nat.le_refl _)
   rw [hl] at Hrow
   clear hl
   go_wp2_with fail
   go_ret
   exact ⟨⟨R, cs, rfl, Hrow.out⟩, Ho.out.bel⟩
end Go.Proofs.YtkfdgodngbinlaaGreatDoor
namespace Go.Proofs.YtkfdgodngbinlaaGreatDoor
set_option linter.all false
open Go.RowKit

def takesV (now : Int) (l : List TierV) (fl : List Int) (s : SampV) : Int :=
 if validB s.name = true ∧ 0 ≤ s.time then
  if now < s.time then 25 else if 0 < l.length ∧ fromI now l fl 0 ≤ s.time then 0 else 24
 else 1
set_option maxRecDepth 100000 in
set_option maxHeartbeats 4000000 in
theorem takes_any (now : Int) (hnow : i64 now) (nm : ByteArray) (l : List TierV) (A : Option Addr) (n c : Nat) (fl : List Int) (B : Option Addr) (m d : Nat) (s : SampV) (hs : s.name.size ≤ maxLen) (w : World) (hr : Rd w 4 A n (tcells l)) (hf : Rd w 1 B m (ints fl)) (hwf : ∀ t ∈ l, t.wf) (hn : n ≤ 1099511627776) :
  Calls Tryz.prog 16 #[reachV now nm A n c B m d, s.val] w fun r w' => r = .returned (.int .i64 (takesV now l fl s)) ∧ Below w.heap.size w w' := by
 have HF0 : Hid (∀ W, Fr (fun _ => False) w W → Calls Tryz.prog 54 #[.agg #[.int .i64 now, .string nm, .slice A n c, .slice B m d], .int .i64 0] W fun r w'' => r = .returned (.int .i64 (fromI now l fl 0)) ∧ Below W.heap.size W w'') := fun W h => fromI_any now hnow nm l A n c fl B m d 0 W (hr.fr0 h) (hf.fr0 h) hwf hn
 have HI0 : Hid (∀ W, Calls Tryz.prog 53 #[.agg #[.int .i64 now, .string nm, .slice A n c, .slice B m d], .int .i64 0] W fun r w'' => r = .returned (.bool (decide (0 ≤ (0 : Int)) && decide ((0 : Int) < n))) ∧ Below W.heap.size W w'') := fun W => is_any now nm A n c B m d 0 W
 have Hlen := Lib.hid hr.tiers_len
 have HVd := Lib.hid (fun b c w hc => valid_one s.name hs b c w hc)
 obtain ⟨W1, hW1⟩ : ∃ W1, W1 = (w.alloc (.cells #[.int .i64 now, .string nm, .slice A n c, .slice B m d] 39)).alloc (.cells #[.string s.name, .int .i64 s.time, .int .i64 s.value] 44) := ⟨_, rfl⟩
 have HW1 := Lib.hid hW1
 have B1 : Blk W1 w.heap.size 39 #[.int .i64 now, .string nm, .slice A n c, .slice B m d] := by rw [hW1]; exact (Blk.new _ _ _).alloc _
 have B2 : Blk W1 (w.heap.size + 1) 44 #[.string s.name, .int .i64 s.time, .int .i64 s.value] := by rw [hW1]; exact Blk.new' (by simp) _ _
 have FW : Hid (Fr (fun _ => False) w W1) := by show Fr _ _ _; rw [hW1]; exact (Fr.none_alloc _ _).trans (Fr.none_alloc _ _) (fun _ h => h.elim)
 have HC : Hid (∀ W, Fr (fun _ => False) W1 W → W.cell? ⟨w.heap.size, 0, none⟩ = some (.int .i64 now) ∧ W.cell? ⟨w.heap.size, 1, none⟩ = some (.string nm) ∧ W.cell? ⟨w.heap.size, 2, none⟩ = some (.slice A n c) ∧ W.cell? ⟨w.heap.size, 3, none⟩ = some (.slice B m d) ∧ W.cell? ⟨w.heap.size + 1, 0, none⟩ = some (.string s.name) ∧ W.cell? ⟨w.heap.size + 1, 1, none⟩ = some (.int .i64 s.time)) := fun W f => ⟨(B1.fr f (fun h => h)).cell 0, (B1.fr f (fun h => h)).cell 1, (B1.fr f (fun h => h)).cell 2, (B1.fr f (fun h => h)).cell 3, (B2.fr f (fun h => h)).cell 0, (B2.fr f (fun h => h)).cell 1⟩
 have HSz : Hid (w.heap.size + 1 + 1 = W1.heap.size) := by show _ = _; rw [hW1]; simp
 unfold reachV SampV.val takesV
 rw [Hlen.out]
 clear hr hf hwf hW1 B1 B2
 cases hv : validB s.name
 ·rw [hv] at HVd
  rw [if_neg (by simp)]
  clear hv
  obtain ⟨a0, a1, a2, a3, t0, t1⟩ := HC.out W1 (Fr.refl _ _)
  go_enter Tryz.func16, Tryz.ntmps16
  go_wp2_with fail
  rw [← HW1.out]
  refine (HVd.out _ _ _ ((Blk.new' HSz.out _ _).cell 0)).mono ?_
  rintro r w2 ⟨rfl, rfl⟩
  clear a0 a1 a2 a3 t0 t1
  obtain ⟨a0, a1, a2, a3, t0, t1⟩ := HC.out _ (Fr.none_alloc W1 (.cells #[.string s.name] 9))
  have F2 : Hid (Fr (fun _ => False) W1 (W1.alloc (.cells #[.string s.name] 9))) := Fr.none_alloc _ _
  have F02 : Hid (Below w.heap.size w (W1.alloc (.cells #[.string s.name] 9))) := (FW.out.trans F2.out (fun _ h => h.elim)).below (fun _ h => h.elim)
  obtain ⟨W2, hW2⟩ : ∃ W2, W2 = W1.alloc (.cells #[.string s.name] 9) := ⟨_, rfl⟩
  rw [← hW2] at F2 F02 a0 a1 a2 a3 t0 t1 ⊢
  clear hW2
  go_wp2_with fail
  go_ret
  exact ⟨rfl, F02.out⟩
 ·rw [hv] at HVd
  by_cases h0 : 0 ≤ s.time
  ·rw [if_pos ⟨rfl, h0⟩]
   have h0d : decide (s.time < 0) = false := decide_eq_false (by omega)
   by_cases hnw : now < s.time
   ·rw [if_pos hnw]
    have hnd : decide (now < s.time) = true := decide_eq_true hnw
    clear hv
    obtain ⟨a0, a1, a2, a3, t0, t1⟩ := HC.out W1 (Fr.refl _ _)
    go_enter Tryz.func16, Tryz.ntmps16
    go_wp2_with fail
    rw [← HW1.out]
    refine (HVd.out _ _ _ ((Blk.new' HSz.out _ _).cell 0)).mono ?_
    rintro r w2 ⟨rfl, rfl⟩
    clear a0 a1 a2 a3 t0 t1
    obtain ⟨a0, a1, a2, a3, t0, t1⟩ := HC.out _ (Fr.none_alloc W1 (.cells #[.string s.name] 9))
    have F2 : Hid (Fr (fun _ => False) W1 (W1.alloc (.cells #[.string s.name] 9))) := Fr.none_alloc _ _
    have F02 : Hid (Below w.heap.size w (W1.alloc (.cells #[.string s.name] 9))) := (FW.out.trans F2.out (fun _ h => h.elim)).below (fun _ h => h.elim)
    obtain ⟨W2, hW2⟩ : ∃ W2, W2 = W1.alloc (.cells #[.string s.name] 9) := ⟨_, rfl⟩
    rw [← hW2] at F2 F02 a0 a1 a2 a3 t0 t1 ⊢
    clear hW2
    go_wp2_with fail
    go_ret
    exact ⟨rfl, F02.out⟩
   ·rw [if_neg hnw]
    have hnd : decide (now < s.time) = false := decide_eq_false hnw
    clear hv
    by_cases hn0 : 0 < n
    ·have hib : (decide (0 ≤ (0 : Int)) && decide ((0 : Int) < n)) = true := by simp; omega
     rw [hib] at HI0
     obtain ⟨fv, hfv⟩ : ∃ fv, fromI now l fl 0 = fv := ⟨_, rfl⟩
     rw [hfv] at HF0 ⊢
     by_cases hle : fv ≤ s.time
     ·rw [if_pos ⟨hn0, hle⟩]
      have hld : decide (s.time < fv) = false := decide_eq_false (by omega)
      clear hib hfv
      obtain ⟨a0, a1, a2, a3, t0, t1⟩ := HC.out W1 (Fr.refl _ _)
      go_enter Tryz.func16, Tryz.ntmps16
      go_wp2_with fail
      rw [← HW1.out]
      refine (HVd.out _ _ _ ((Blk.new' HSz.out _ _).cell 0)).mono ?_
      rintro r w2 ⟨rfl, rfl⟩
      clear a0 a1 a2 a3 t0 t1
      obtain ⟨a0, a1, a2, a3, t0, t1⟩ := HC.out _ (Fr.none_alloc W1 (.cells #[.string s.name] 9))
      have F2 : Hid (Fr (fun _ => False) W1 (W1.alloc (.cells #[.string s.name] 9))) := Fr.none_alloc _ _
      have F02 : Hid (Below w.heap.size w (W1.alloc (.cells #[.string s.name] 9))) := (FW.out.trans F2.out (fun _ h => h.elim)).below (fun _ h => h.elim)
      obtain ⟨W2, hW2⟩ : ∃ W2, W2 = W1.alloc (.cells #[.string s.name] 9) := ⟨_, rfl⟩
      rw [← hW2] at F2 F02 a0 a1 a2 a3 t0 t1 ⊢
      clear hW2
      go_wp2_with fail
      have HT := Lib.hid (FW.out.trans F2.out (fun _ h => h.elim))
      refine wp_region_held_drew (S := fun W => Fr (fun _ => False) W2 W) (by kernel_rfl) ((Fr.refl _ W2).drew) (fun hHeld => ?_)
      refine tl 0 ?v1 rfl ?q1 ?r1
      case q1 => intro W hSw; (try obtain ⟨a0, a1, a2, a3, t0, t1⟩ := HC.out W (F2.out.trans hSw (fun _ h => h.elim))); go_simp; try rfl
      try simp only [Act.put, sA, sB, sC]
      refine rl 1 rfl (fun K hK => ?_)
      go_simp
      go_wp2_with (first | (go_at_call 53; refine (HI0.out _).mono ?_; rintro r w5 ⟨rfl, b5⟩))
      refine hK.out _ _ (hHeld.trans (Fr.b0 b5) (fun _ h => h.elim)) (fun hHeld => ?_)
      clear hK K
      refine tq 5 [2,3,4,5,6] ?_
      refine sk ?_
      iterate 4 (refine sf (fun W hSw => HC.out W (F2.out.trans hSw (fun _ h => h.elim))) ?_; try simp only [Act.put, sA, sB, sC])
      refine sz ?_
      try simp only [Act.put, sA, sB, sC]
      refine rl 7 rfl (fun K hK => ?_)
      go_simp
      go_wp2_with (first | (go_at_call 54; refine (HF0.out _ (HT.out.trans hHeld (fun _ h => h.elim))).mono ?_; rintro r w6 ⟨rfl, b6⟩))
      refine hK.out _ _ (hHeld.trans (Fr.b0 b6) (fun _ h => h.elim)) (fun hHeld => ?_)
      clear hK K
      try simp only [Act.put, sA, sB, sC]
      refine tq 3 [8,9,10] ?_
      iterate 2 refine sf (fun W hSw => HC.out W (F2.out.trans hSw (fun _ h => h.elim))) ?_
      refine sf (fun W hSw => HC.out W (F2.out.trans hSw (fun _ h => h.elim))) ?_
      try simp only [Act.put, sA, sB, sC]
      refine sz ?_
      try simp only [Act.put, sA, sB, sC]
      refine wpAnyH_done (by kernel_rfl) ?_ _
      go_wp2_with fail
      go_ret
      exact ⟨rfl, F02.out.trans ((hHeld.below (fun _ h => h.elim)).mono F02.out.size)⟩
     ·rw [if_neg (by omega)]
      have hld : decide (s.time < fv) = true := decide_eq_true (by omega)
      clear hib hfv
      obtain ⟨a0, a1, a2, a3, t0, t1⟩ := HC.out W1 (Fr.refl _ _)
      go_enter Tryz.func16, Tryz.ntmps16
      go_wp2_with fail
      rw [← HW1.out]
      refine (HVd.out _ _ _ ((Blk.new' HSz.out _ _).cell 0)).mono ?_
      rintro r w2 ⟨rfl, rfl⟩
      clear a0 a1 a2 a3 t0 t1
      obtain ⟨a0, a1, a2, a3, t0, t1⟩ := HC.out _ (Fr.none_alloc W1 (.cells #[.string s.name] 9))
      have F2 : Hid (Fr (fun _ => False) W1 (W1.alloc (.cells #[.string s.name] 9))) := Fr.none_alloc _ _
      have F02 : Hid (Below w.heap.size w (W1.alloc (.cells #[.string s.name] 9))) := (FW.out.trans F2.out (fun _ h => h.elim)).below (fun _ h => h.elim)
      obtain ⟨W2, hW2⟩ : ∃ W2, W2 = W1.alloc (.cells #[.string s.name] 9) := ⟨_, rfl⟩
      rw [← hW2] at F2 F02 a0 a1 a2 a3 t0 t1 ⊢
      clear hW2
      go_wp2_with fail
      have HT := Lib.hid (FW.out.trans F2.out (fun _ h => h.elim))
      refine wp_region_held_drew (S := fun W => Fr (fun _ => False) W2 W) (by kernel_rfl) ((Fr.refl _ W2).drew) (fun hHeld => ?_)
      refine tl 0 ?v10 rfl ?q10 ?r10
      case q10 => intro W hSw; (try obtain ⟨a0, a1, a2, a3, t0, t1⟩ := HC.out W (F2.out.trans hSw (fun _ h => h.elim))); go_simp; try rfl
      try simp only [Act.put, sA, sB, sC]
      refine rl 1 rfl (fun K hK => ?_)
      go_simp
      go_wp2_with (first | (go_at_call 53; refine (HI0.out _).mono ?_; rintro r w5 ⟨rfl, b5⟩))
      refine hK.out _ _ (hHeld.trans (Fr.b0 b5) (fun _ h => h.elim)) (fun hHeld => ?_)
      clear hK K
      refine tq 5 [2,3,4,5,6] ?_
      refine sk ?_
      iterate 4 (refine sf (fun W hSw => HC.out W (F2.out.trans hSw (fun _ h => h.elim))) ?_; try simp only [Act.put, sA, sB, sC])
      refine sz ?_
      try simp only [Act.put, sA, sB, sC]
      refine rl 7 rfl (fun K hK => ?_)
      go_simp
      go_wp2_with (first | (go_at_call 54; refine (HF0.out _ (HT.out.trans hHeld (fun _ h => h.elim))).mono ?_; rintro r w6 ⟨rfl, b6⟩))
      refine hK.out _ _ (hHeld.trans (Fr.b0 b6) (fun _ h => h.elim)) (fun hHeld => ?_)
      clear hK K
      try simp only [Act.put, sA, sB, sC]
      refine tq 3 [8,9,10] ?_
      iterate 2 refine sf (fun W hSw => HC.out W (F2.out.trans hSw (fun _ h => h.elim))) ?_
      refine sf (fun W hSw => HC.out W (F2.out.trans hSw (fun _ h => h.elim))) ?_
      try simp only [Act.put, sA, sB, sC]
      refine sz ?_
      try simp only [Act.put, sA, sB, sC]
      refine wpAnyH_done (by kernel_rfl) ?_ _
      go_wp2_with fail
      go_ret
      exact ⟨rfl, F02.out.trans ((hHeld.below (fun _ h => h.elim)).mono F02.out.size)⟩
    ·have hib : (decide (0 ≤ (0 : Int)) && decide ((0 : Int) < n)) = false := by simp; omega
     rw [hib] at HI0
     rw [if_neg (by omega)]
     clear hib
     obtain ⟨a0, a1, a2, a3, t0, t1⟩ := HC.out W1 (Fr.refl _ _)
     go_enter Tryz.func16, Tryz.ntmps16
     go_wp2_with fail
     rw [← HW1.out]
     refine (HVd.out _ _ _ ((Blk.new' HSz.out _ _).cell 0)).mono ?_
     rintro r w2 ⟨rfl, rfl⟩
     clear a0 a1 a2 a3 t0 t1
     obtain ⟨a0, a1, a2, a3, t0, t1⟩ := HC.out _ (Fr.none_alloc W1 (.cells #[.string s.name] 9))
     have F2 : Hid (Fr (fun _ => False) W1 (W1.alloc (.cells #[.string s.name] 9))) := Fr.none_alloc _ _
     have F02 : Hid (Below w.heap.size w (W1.alloc (.cells #[.string s.name] 9))) := (FW.out.trans F2.out (fun _ h => h.elim)).below (fun _ h => h.elim)
     obtain ⟨W2, hW2⟩ : ∃ W2, W2 = W1.alloc (.cells #[.string s.name] 9) := ⟨_, rfl⟩
     rw [← hW2] at F2 F02 a0 a1 a2 a3 t0 t1 ⊢
     clear hW2
     go_wp2_with fail
     have HT := Lib.hid (FW.out.trans F2.out (fun _ h => h.elim))
     refine wp_region_held_drew (S := fun W => Fr (fun _ => False) W2 W) (by kernel_rfl) ((Fr.refl _ W2).drew) (fun hHeld => ?_)
     refine tl 0 ?v19 rfl ?q19 ?r19
     case q19 => intro W hSw; (try obtain ⟨a0, a1, a2, a3, t0, t1⟩ := HC.out W (F2.out.trans hSw (fun _ h => h.elim))); go_simp; try rfl
     try simp only [Act.put, sA, sB, sC]
     refine rl 1 rfl (fun K hK => ?_)
     go_simp
     go_wp2_with (first | (go_at_call 53; refine (HI0.out _).mono ?_; rintro r w5 ⟨rfl, b5⟩))
     refine hK.out _ _ (hHeld.trans (Fr.b0 b5) (fun _ h => h.elim)) (fun hHeld => ?_)
     clear hK K
     refine tq 9 [2,3,4,5,6,7,8,9,10] ?_
     refine sk ?_
     refine sk ?_
     try simp only [Act.put, sA, sB, sC]
     iterate 4 (refine su ?_; try simp only [Act.put, sA, sB, sC])
     refine su ?_
     refine sk ?_
     refine sf (fun W hSw => HC.out W (F2.out.trans hSw (fun _ h => h.elim))) ?_
     try simp only [Act.put, sA, sB, sC]
     refine sz ?_
     try simp only [Act.put, sA, sB, sC]
     refine wpAnyH_done (by kernel_rfl) ?_ _
     go_wp2_with fail
     go_ret
     exact ⟨rfl, F02.out.trans ((hHeld.below (fun _ h => h.elim)).mono F02.out.size)⟩
  ·rw [if_neg (by omega)]
   have h0d : decide (s.time < 0) = true := decide_eq_true (by omega)
   clear hv
   obtain ⟨a0, a1, a2, a3, t0, t1⟩ := HC.out W1 (Fr.refl _ _)
   go_enter Tryz.func16, Tryz.ntmps16
   go_wp2_with fail
   rw [← HW1.out]
   refine (HVd.out _ _ _ ((Blk.new' HSz.out _ _).cell 0)).mono ?_
   rintro r w2 ⟨rfl, rfl⟩
   clear a0 a1 a2 a3 t0 t1
   obtain ⟨a0, a1, a2, a3, t0, t1⟩ := HC.out _ (Fr.none_alloc W1 (.cells #[.string s.name] 9))
   have F2 : Hid (Fr (fun _ => False) W1 (W1.alloc (.cells #[.string s.name] 9))) := Fr.none_alloc _ _
   have F02 : Hid (Below w.heap.size w (W1.alloc (.cells #[.string s.name] 9))) := (FW.out.trans F2.out (fun _ h => h.elim)).below (fun _ h => h.elim)
   obtain ⟨W2, hW2⟩ : ∃ W2, W2 = W1.alloc (.cells #[.string s.name] 9) := ⟨_, rfl⟩
   rw [← hW2] at F2 F02 a0 a1 a2 a3 t0 t1 ⊢
   clear hW2
   go_wp2_with fail
   go_ret
   exact ⟨rfl, F02.out⟩
end Go.Proofs.YtkfdgodngbinlaaGreatDoor
