/- Walks of package reach: Start, Cover, All. -/
import Derived.Test.YtaakghjbbkgbdaaGreatDoorBases
import Derived.Test.YtaakghjbbkgbdaaGreatDoorBase
import Derived.Test.YtaakghjbbkgbdaaGreatDoorSame
import Derived.Test.YtaakghjbbkgbdaaGreatDoorTabNeed
import Derived.Test.YtaakghjbbkgbdaaGreatDoorOpC
import Derived.Test.YtaakghjbbkgbdaaGreatDoorTk
namespace Go.Proofs.YtaakghjbbkgbdaaGreatDoor
set_option linter.all false
open Go.RowKit

def startV (now : Int) (l : List TierV) (fl : List Int) (i t : Int) : Int × Bool :=
 if 0 ≤ i ∧ i < (l.length : Int) ∧ 0 ≤ t then
  match l[i.toNat]? with
  | some x => (floorV t x.every, decide (fromI now l fl i ≤ floorV t x.every))
  | none => (0, false)
 else (0, false)
set_option maxRecDepth 100000 in
set_option maxHeartbeats 4000000 in
theorem start_any (now : Int) (hnow : i64 now) (nm : ByteArray) (l : List TierV) (A : Option Addr) (n c : Nat) (fl : List Int) (B : Option Addr) (m d : Nat) (i t : Int) (ht : i64 t) (w : World) (hr : Rd w 4 A n (tcells l)) (hf : Rd w 1 B m (ints fl)) (hwf : ∀ t ∈ l, t.wf) (hn : n ≤ 1099511627776) :
  Calls Tryz.prog 230 #[reachV now nm A n c B m d, .int .i64 i, .int .i64 t] w fun r w' => r = .returned (.tuple #[.int .i64 (startV now l fl i t).1, .bool (startV now l fl i t).2]) ∧ Below w.heap.size w w' := by
 unfold reachV
 have HI : Hid (∀ (i : Int) W, Fr (fun _ => False) w W → Calls Tryz.prog 42 #[.agg #[.int .i64 now, .string nm, .slice A n c, .slice B m d], .int .i64 i] W fun r w'' => r = .returned (.int .i64 (fromI now l fl i)) ∧ Below W.heap.size W w'') := fun i W h => fromI_any now hnow nm l A n c fl B m d i W (hr.fr0 h) (hf.fr0 h) hwf hn
 have HIs : Hid (∀ (i : Int) W, Calls Tryz.prog 146 #[.agg #[.int .i64 now, .string nm, .slice A n c, .slice B m d], .int .i64 i] W fun r w'' => r = .returned (.bool (decide (0 ≤ i) && decide (i < n))) ∧ Below W.heap.size W w'') := fun i W => is_any now nm A n c B m d i W
 have Hr := Lib.hid hr
 have Hlen := Lib.hid hr.tiers_len
 have Hwf := Lib.hid hwf
 obtain ⟨W1, hW1⟩ : ∃ W1, W1 = w.alloc (.cells #[.int .i64 now, .string nm, .slice A n c, .slice B m d] 84) := ⟨_, rfl⟩
 have HW1 := Lib.hid hW1
 have B1 : Hid (Blk W1 w.heap.size 84 #[.int .i64 now, .string nm, .slice A n c, .slice B m d]) := hW1 ▸ Blk.new _ _ _
 have F1 : Hid (Fr (fun _ => False) w W1) := by show Fr _ _ _; rw [hW1]; exact Fr.none_alloc _ _
 clear hW1 hr hf hwf
 unfold startV
 rw [Hlen.out]
 by_cases hi : 0 ≤ i ∧ i < (n : Int)
 ·have hib : (decide (0 ≤ i) && decide (i < (n : Int))) = true := by simp [hi.1, hi.2]
  by_cases h0 : 0 ≤ t
  ·have h0d : decide (t < 0) = false := decide_eq_false (by omega)
   rw [if_pos ⟨hi.1, hi.2, h0⟩]
   obtain ⟨k, rfl⟩ := Int.eq_ofNat_of_zero_le hi.1
   have hkn : k < n := by omega
   obtain ⟨ad, x, rfl, hx, e0, e1, e2, e3⟩ := (Hr.out.fr0 F1.out).tier hkn
   have HIk := Lib.hid (HI.out (k : Int))
   have hxw := Hwf.out x (mem_of_get hx)
   unfold i64 at ht
   have HF : Hid (∀ W, Calls Tryz.prog 233 #[.int .i64 t, .int .i64 x.every] W fun r w' => r = .returned (.int .i64 (floorV t x.every)) ∧ W = w') := fun W => floor_any t x.every ht.1 ht.2 hxw.1.1 hxw.1.2 W
   rw [Int.toNat_natCast, hx]
   simp only
   obtain ⟨fv, hfv⟩ : ∃ fv, floorV t x.every = fv := ⟨_, rfl⟩
   obtain ⟨gv, hgv⟩ : ∃ gv, fromI now l fl (k : Int) = gv := ⟨_, rfl⟩
   rw [hfv] at HF ⊢
   rw [hgv] at HIk ⊢
   have HIb := Lib.hid (HIs.out (k : Int))
   rw [hib] at HIb
   have E1 := Lib.hid e1
   clear hfv hgv hx hxw e0 e1 e2 e3 HI HIs
   go_enter Tryz.func230, Tryz.ntmps230
   have a0 := B1.out.cell 0
   have a1 := B1.out.cell 1
   have a2 := B1.out.cell 2
   have a3 := B1.out.cell 3
   simp only [List.getElem?_toArray, List.getElem?_cons_succ, List.getElem?_cons_zero] at a0 a1 a2 a3
   go_wp2_with fail
   rw [← HW1.out]
   refine (HIb.out W1).mono ?_
   rintro r w2 ⟨rfl, b2⟩
   have F2 := Lib.hid (Fr.b0 b2)
   have B2 := Lib.hid (B1.out.below b2)
   have e1 := F2.out.cell E1.out (fun h => h)
   clear a0 a1 a2 a3 b2
   have a0 := B2.out.cell 0
   have a1 := B2.out.cell 1
   have a2 := B2.out.cell 2
   have a3 := B2.out.cell 3
   simp only [List.getElem?_toArray, List.getElem?_cons_succ, List.getElem?_cons_zero] at a0 a1 a2 a3
   go_wp2_with (first | (go_at_call 233; refine (HF.out _).mono ?_; rintro r w3 ⟨rfl, rfl⟩) | (go_at_call 42; refine (HIk.out _ (F1.out.trans F2.out (fun _ h => h.elim))).mono ?_; rintro r w4 ⟨rfl, b4⟩))
   have O4 := Lib.hid ((F1.out.trans F2.out (fun _ h => h.elim)).trans (Fr.b0 b4) (fun _ h => h.elim))
   clear b4
   go_ret2
   exact ⟨rfl, O4.out.below (fun _ h => h.elim)⟩
  ·have h0d : decide (t < 0) = true := decide_eq_true (by omega)
   rw [if_neg (by omega)]
   have HIb := Lib.hid (HIs.out i)
   rw [hib] at HIb
   go_enter Tryz.func230, Tryz.ntmps230
   have a0 := B1.out.cell 0
   have a1 := B1.out.cell 1
   have a2 := B1.out.cell 2
   have a3 := B1.out.cell 3
   simp only [List.getElem?_toArray, List.getElem?_cons_succ, List.getElem?_cons_zero] at a0 a1 a2 a3
   go_wp2_with fail
   rw [← HW1.out]
   refine (HIb.out W1).mono ?_
   rintro r w2 ⟨rfl, b2⟩
   have O2 := Lib.hid (F1.out.trans (Fr.b0 b2) (fun _ h => h.elim))
   clear b2
   go_wp2_with fail
   go_ret2
   exact ⟨rfl, O2.out.below (fun _ h => h.elim)⟩
 ·have hib : (decide (0 ≤ i) && decide (i < (n : Int))) = false := by
   rw [Bool.and_eq_false_iff]
   by_cases h : 0 ≤ i
   ·exact .inr (decide_eq_false (fun k => hi ⟨h, k⟩))
   ·exact .inl (decide_eq_false h)
  rw [if_neg (by omega)]
  have HIb := Lib.hid (HIs.out i)
  rw [hib] at HIb
  go_enter Tryz.func230, Tryz.ntmps230
  have a0 := B1.out.cell 0
  have a1 := B1.out.cell 1
  have a2 := B1.out.cell 2
  have a3 := B1.out.cell 3
  simp only [List.getElem?_toArray, List.getElem?_cons_succ, List.getElem?_cons_zero] at a0 a1 a2 a3
  go_wp2_with fail
  rw [← HW1.out]
  refine (HIb.out W1).mono ?_
  rintro r w2 ⟨rfl, b2⟩
  have O2 := Lib.hid (F1.out.trans (Fr.b0 b2) (fun _ h => h.elim))
  clear b2
  go_wp2_with fail
  go_ret2
  exact ⟨rfl, O2.out.below (fun _ h => h.elim)⟩

def coverV (now : Int) (l : List TierV) (fl : List Int) (t : Int) : Int :=
 match (List.range l.length).find? fun k => decide (fromV now l fl k ≤ t) with
 | some k => k
 | none => (l.length : Int) - 1
theorem cover_first {now : Int} {l : List TierV} {fl : List Int} {t : Int} {k : Nat} (hk : k < l.length) (h : fromV now l fl k ≤ t) (hb : ∀ j, j < k → ¬ fromV now l fl j ≤ t) : coverV now l fl t = k := by
 unfold coverV
 have : (List.range l.length).find? (fun k => decide (fromV now l fl k ≤ t)) = some k := by
  rw [List.find?_range_eq_some]
  exact ⟨by simpa using h, List.mem_range.2 hk, fun j hj => by simpa using hb j hj⟩
 rw [this]
theorem cover_none {now : Int} {l : List TierV} {fl : List Int} {t : Int} (hb : ∀ j, j < l.length → ¬ fromV now l fl j ≤ t) : coverV now l fl t = (l.length : Int) - 1 := by
 unfold coverV
 have : (List.range l.length).find? (fun k => decide (fromV now l fl k ≤ t)) = none := by
  rw [List.find?_eq_none]
  intro j hj
  simpa using hb j (List.mem_range.1 hj)
 rw [this]
set_option maxRecDepth 100000 in
set_option maxHeartbeats 4000000 in
theorem cover_any (now : Int) (hnow : i64 now) (nm : ByteArray) (l : List TierV) (A : Option Addr) (n c : Nat) (fl : List Int) (B : Option Addr) (m d : Nat) (t : Int) (w : World) (hr : Rd w 4 A n (tcells l)) (hf : Rd w 1 B m (ints fl)) (hwf : ∀ t ∈ l, t.wf) (hn : n ≤ 1099511627776) :
  Calls Tryz.prog 253 #[reachV now nm A n c B m d, .int .i64 t] w fun r w' => r = .returned (.int .i64 (coverV now l fl t)) ∧ Below w.heap.size w w' := by
 have HV : Hid (∀ (k : Nat), k < n → ∀ W, Fr (fun _ => False) w W → Calls Tryz.prog 42 #[.agg #[.int .i64 now, .string nm, .slice A n c, .slice B m d], .int .i64 k] W fun r w'' => r = .returned (.int .i64 (fromV now l fl k)) ∧ Below W.heap.size W w'') := fun k hk W h => rfrom_any now hnow nm l A n c fl B m d k W (hr.fr0 h) (hf.fr0 h) hwf hk hn
 unfold reachV
 have HI : Hid (∀ (i : Int) W, Fr (fun _ => False) w W → Calls Tryz.prog 42 #[.agg #[.int .i64 now, .string nm, .slice A n c, .slice B m d], .int .i64 i] W fun r w'' => r = .returned (.int .i64 (fromI now l fl i)) ∧ Below W.heap.size W w'') := fun i W h => fromI_any now hnow nm l A n c fl B m d i W (hr.fr0 h) (hf.fr0 h) hwf hn
 have HIs : Hid (∀ (i : Int) W, Calls Tryz.prog 146 #[.agg #[.int .i64 now, .string nm, .slice A n c, .slice B m d], .int .i64 i] W fun r w'' => r = .returned (.bool (decide (0 ≤ i) && decide (i < n))) ∧ Below W.heap.size W w'') := fun i W => is_any now nm A n c B m d i W
 have Hr := Lib.hid hr
 have Hlen := Lib.hid hr.tiers_len
 have Hwf := Lib.hid hwf
 obtain ⟨W1, hW1⟩ : ∃ W1, W1 = w.alloc (.cells #[.int .i64 now, .string nm, .slice A n c, .slice B m d] 84) := ⟨_, rfl⟩
 have HW1 := Lib.hid hW1
 have B1 : Hid (Blk W1 w.heap.size 84 #[.int .i64 now, .string nm, .slice A n c, .slice B m d]) := hW1 ▸ Blk.new _ _ _
 have F1 : Hid (Fr (fun _ => False) w W1) := by show Fr _ _ _; rw [hW1]; exact Fr.none_alloc _ _
 clear hW1 hr hf hwf HI HIs
 go_enter Tryz.func253, Tryz.ntmps253
 go_wp2_with fail
 rw [← HW1.out]
 go_loopw [10] (fun i wr => ∃ k : Nat, k ≤ n ∧ i = .int .i64 k ∧ (∀ j, j < k → t < fromV now l fl j) ∧ Fr (fun _ => False) W1 wr) (fun i _ => n - (intOf i).toNat)
 case atStart => exact ⟨0, Nat.zero_le _, rfl, fun j hj => absurd hj (Nat.not_lt_zero _), Fr.refl _ _⟩
 case round =>
  obtain ⟨k, hk, rfl, hb, hfr⟩ := hrel
  have Hb := Lib.hid hb
  have Hfr := Lib.hid hfr
  have B2 := Lib.hid (B1.out.fr hfr (fun h => h))
  clear hb hfr
  have a0 := B2.out.cell 0
  have a1 := B2.out.cell 1
  have a2 := B2.out.cell 2
  have a3 := B2.out.cell 3
  simp only [List.getElem?_toArray, List.getElem?_cons_succ, List.getElem?_cons_zero] at a0 a1 a2 a3
  by_cases hlt : k < n
  ·have HVk := Lib.hid (HV.out k hlt wr (F1.out.trans Hfr.out (fun _ h => h.elim)))
   by_cases hle : fromV now l fl k ≤ t
   ·have hc := cover_first (by rw [Hlen.out]; exact hlt) hle (fun j hj => by have := Hb.out j hj; omega)
    obtain ⟨fv, hfv⟩ : ∃ fv, fromV now l fl k = fv := ⟨_, rfl⟩
    rw [hfv] at HVk hle
    have HCv := Lib.hid hc
    have hled : decide (fv ≤ t) = true := decide_eq_true hle
    clear hfv hc
    go_wp2_with fail
    refine HVk.out.mono ?_
    rintro r w3 ⟨rfl, b3⟩
    have O3 := Lib.hid ((F1.out.trans Hfr.out (fun _ h => h.elim)).trans (Fr.b0 b3) (fun _ h => h.elim))
    clear b3
    go_wp2_with fail
    go_ret
    exact ⟨by rw [HCv.out]; rfl, O3.out.below (fun _ h => h.elim)⟩
   ·have hb2 : ∀ j, j < k + 1 → t < fromV now l fl j := fun j hj => by
     by_cases e : j = k
     ·rw [e]; omega
     ·exact Hb.out j (by omega)
    have Hb2 := Lib.hid hb2
    obtain ⟨fv, hfv⟩ : ∃ fv, fromV now l fl k = fv := ⟨_, rfl⟩
    rw [hfv] at HVk hle
    have hled : decide (fv ≤ t) = false := decide_eq_false hle
    clear hfv hb2
    go_wp2_with fail
    refine HVk.out.mono ?_
    rintro r w3 ⟨rfl, b3⟩
    have O3 := Lib.hid (Hfr.out.trans (Fr.b0 b3) (fun _ h => h.elim))
    clear b3
    go_wp2_with fail
    go_roundw
    case rel => exact ⟨k + 1, by omega, by go_num, Hb2.out, O3.out⟩
    case measure => simp [intOf]; omega
  ·obtain rfl : k = n := by omega
   have hc := cover_none (now := now) (l := l) (fl := fl) (t := t) (fun j hj => by have := Hb.out j (by rw [← Hlen.out]; exact hj); omega)
   rw [Hlen.out] at hc
   have HCv := Lib.hid hc
   have hw : IntKind.i64.wrap ((k : Int) - 1) = (k : Int) - 1 := by simp [IntKind.wrap, IntKind.signed, IntKind.bits]; omega
   clear hc
   go_wp2_with fail
   go_ret
   exact ⟨by rw [HCv.out]; rfl, (F1.out.trans Hfr.out (fun _ h => h.elim)).below (fun _ h => h.elim)⟩

end Go.Proofs.YtaakghjbbkgbdaaGreatDoor
namespace Go.Proofs.YtaakghjbbkgbdaaGreatDoor
set_option linter.all false
open Go.RowKit

def takesV (now : Int) (l : List TierV) (fl : List Int) (s : SampV) : Int :=
 if validB s.name = true ∧ 0 ≤ s.time then
  if now < s.time then 25 else if 0 < l.length ∧ fromI now l fl 0 ≤ s.time then 0 else 24
 else 1
set_option maxRecDepth 100000 in
set_option maxHeartbeats 4000000 in
theorem takes_any (now : Int) (hnow : i64 now) (nm : ByteArray) (l : List TierV) (A : Option Addr) (n c : Nat) (fl : List Int) (B : Option Addr) (m d : Nat) (s : SampV) (hs : s.name.size ≤ maxLen) (w : World) (hr : Rd w 4 A n (tcells l)) (hf : Rd w 1 B m (ints fl)) (hwf : ∀ t ∈ l, t.wf) (hn : n ≤ 1099511627776) :
  Calls Tryz.prog 47 #[reachV now nm A n c B m d, s.val] w fun r w' => r = .returned (.int .i64 (takesV now l fl s)) ∧ Below w.heap.size w w' := by
 have HF0 : Hid (∀ W, Fr (fun _ => False) w W → Calls Tryz.prog 42 #[.agg #[.int .i64 now, .string nm, .slice A n c, .slice B m d], .int .i64 0] W fun r w'' => r = .returned (.int .i64 (fromI now l fl 0)) ∧ Below W.heap.size W w'') := fun W h => fromI_any now hnow nm l A n c fl B m d 0 W (hr.fr0 h) (hf.fr0 h) hwf hn
 have HI0 : Hid (∀ W, Calls Tryz.prog 146 #[.agg #[.int .i64 now, .string nm, .slice A n c, .slice B m d], .int .i64 0] W fun r w'' => r = .returned (.bool (decide (0 ≤ (0 : Int)) && decide ((0 : Int) < n))) ∧ Below W.heap.size W w'') := fun W => is_any now nm A n c B m d 0 W
 have Hlen := Lib.hid hr.tiers_len
 have HVd := Lib.hid (fun b c w hc => valid_one s.name hs b c w hc)
 obtain ⟨W1, hW1⟩ : ∃ W1, W1 = (w.alloc (.cells #[.int .i64 now, .string nm, .slice A n c, .slice B m d] 84)).alloc (.cells #[.string s.name, .int .i64 s.time, .int .i64 s.value] 100) := ⟨_, rfl⟩
 have HW1 := Lib.hid hW1
 have B1 : Blk W1 w.heap.size 84 #[.int .i64 now, .string nm, .slice A n c, .slice B m d] := by rw [hW1]; exact (Blk.new _ _ _).alloc _
 have B2 : Blk W1 (w.heap.size + 1) 100 #[.string s.name, .int .i64 s.time, .int .i64 s.value] := by rw [hW1]; exact Blk.new' (by simp) _ _
 have FW : Hid (Fr (fun _ => False) w W1) := by show Fr _ _ _; rw [hW1]; exact (Fr.none_alloc _ _).trans (Fr.none_alloc _ _) (fun _ h => h.elim)
 have HC : Hid (∀ W, Fr (fun _ => False) W1 W → W.cell? ⟨w.heap.size, 0, none⟩ = some (.int .i64 now) ∧ W.cell? ⟨w.heap.size, 1, none⟩ = some (.string nm) ∧ W.cell? ⟨w.heap.size, 2, none⟩ = some (.slice A n c) ∧ W.cell? ⟨w.heap.size, 3, none⟩ = some (.slice B m d) ∧ W.cell? ⟨w.heap.size + 1, 0, none⟩ = some (.string s.name) ∧ W.cell? ⟨w.heap.size + 1, 1, none⟩ = some (.int .i64 s.time)) := fun W f => ⟨(B1.fr f (fun h => h)).cell 0, (B1.fr f (fun h => h)).cell 1, (B1.fr f (fun h => h)).cell 2, (B1.fr f (fun h => h)).cell 3, (B2.fr f (fun h => h)).cell 0, (B2.fr f (fun h => h)).cell 1⟩
 have HSz : Hid (w.heap.size + 1 + 1 = W1.heap.size) := by show _ = _; rw [hW1]; simp
 unfold reachV SampV.val takesV
 rw [Hlen.out]
 clear hr hf hwf hW1 B1 B2
 cases hv : validB s.name
 ·rw [hv] at HVd
  rw [if_neg (by simp)]
  clear hv
  obtain ⟨a0, a1, a2, a3, t0, t1⟩ := HC.out W1 (Fr.refl _ _)
  go_enter Tryz.func47, Tryz.ntmps47
  go_wp2_with fail
  rw [← HW1.out]
  refine (HVd.out _ _ _ ((Blk.new' HSz.out _ _).cell 0)).mono ?_
  rintro r w2 ⟨rfl, rfl⟩
  clear a0 a1 a2 a3 t0 t1
  obtain ⟨a0, a1, a2, a3, t0, t1⟩ := HC.out _ (Fr.none_alloc W1 (.cells #[.string s.name] 9))
  have F2 : Hid (Fr (fun _ => False) W1 (W1.alloc (.cells #[.string s.name] 9))) := Fr.none_alloc _ _
  have F02 : Hid (Below w.heap.size w (W1.alloc (.cells #[.string s.name] 9))) := (FW.out.trans F2.out (fun _ h => h.elim)).below (fun _ h => h.elim)
  obtain ⟨W2, hW2⟩ : ∃ W2, W2 = W1.alloc (.cells #[.string s.name] 9) := ⟨_, rfl⟩
  rw [← hW2] at F2 F02 a0 a1 a2 a3 t0 t1 ⊢
  clear hW2
  go_wp2_with fail
  go_ret
  exact ⟨rfl, F02.out⟩
 ·rw [hv] at HVd
  by_cases h0 : 0 ≤ s.time
  ·rw [if_pos ⟨rfl, h0⟩]
   have h0d : decide (s.time < 0) = false := decide_eq_false (by omega)
   by_cases hnw : now < s.time
   ·rw [if_pos hnw]
    have hnd : decide (now < s.time) = true := decide_eq_true hnw
    clear hv
    obtain ⟨a0, a1, a2, a3, t0, t1⟩ := HC.out W1 (Fr.refl _ _)
    go_enter Tryz.func47, Tryz.ntmps47
    go_wp2_with fail
    rw [← HW1.out]
    refine (HVd.out _ _ _ ((Blk.new' HSz.out _ _).cell 0)).mono ?_
    rintro r w2 ⟨rfl, rfl⟩
    clear a0 a1 a2 a3 t0 t1
    obtain ⟨a0, a1, a2, a3, t0, t1⟩ := HC.out _ (Fr.none_alloc W1 (.cells #[.string s.name] 9))
    have F2 : Hid (Fr (fun _ => False) W1 (W1.alloc (.cells #[.string s.name] 9))) := Fr.none_alloc _ _
    have F02 : Hid (Below w.heap.size w (W1.alloc (.cells #[.string s.name] 9))) := (FW.out.trans F2.out (fun _ h => h.elim)).below (fun _ h => h.elim)
    obtain ⟨W2, hW2⟩ : ∃ W2, W2 = W1.alloc (.cells #[.string s.name] 9) := ⟨_, rfl⟩
    rw [← hW2] at F2 F02 a0 a1 a2 a3 t0 t1 ⊢
    clear hW2
    go_wp2_with fail
    go_ret
    exact ⟨rfl, F02.out⟩
   ·rw [if_neg hnw]
    have hnd : decide (now < s.time) = false := decide_eq_false hnw
    clear hv
    by_cases hn0 : 0 < n
    ·have hib : (decide (0 ≤ (0 : Int)) && decide ((0 : Int) < n)) = true := by simp; omega
     rw [hib] at HI0
     obtain ⟨fv, hfv⟩ : ∃ fv, fromI now l fl 0 = fv := ⟨_, rfl⟩
     rw [hfv] at HF0 ⊢
     by_cases hle : fv ≤ s.time
     ·rw [if_pos ⟨hn0, hle⟩]
      have hld : decide (s.time < fv) = false := decide_eq_false (by omega)
      clear hib hfv
      obtain ⟨a0, a1, a2, a3, t0, t1⟩ := HC.out W1 (Fr.refl _ _)
      go_enter Tryz.func47, Tryz.ntmps47
      go_wp2_with fail
      rw [← HW1.out]
      refine (HVd.out _ _ _ ((Blk.new' HSz.out _ _).cell 0)).mono ?_
      rintro r w2 ⟨rfl, rfl⟩
      clear a0 a1 a2 a3 t0 t1
      obtain ⟨a0, a1, a2, a3, t0, t1⟩ := HC.out _ (Fr.none_alloc W1 (.cells #[.string s.name] 9))
      have F2 : Hid (Fr (fun _ => False) W1 (W1.alloc (.cells #[.string s.name] 9))) := Fr.none_alloc _ _
      have F02 : Hid (Below w.heap.size w (W1.alloc (.cells #[.string s.name] 9))) := (FW.out.trans F2.out (fun _ h => h.elim)).below (fun _ h => h.elim)
      obtain ⟨W2, hW2⟩ : ∃ W2, W2 = W1.alloc (.cells #[.string s.name] 9) := ⟨_, rfl⟩
      rw [← hW2] at F2 F02 a0 a1 a2 a3 t0 t1 ⊢
      clear hW2
      go_wp2_with fail
      have HT := Lib.hid (FW.out.trans F2.out (fun _ h => h.elim))
      refine wp_region_held_drew (S := fun W => Fr (fun _ => False) W2 W) (by kernel_rfl) ((Fr.refl _ W2).drew) (fun hHeld => ?_)
      refine tl 0 ?v1 rfl ?q1 ?r1
      case q1 => intro W hSw; (try obtain ⟨a0, a1, a2, a3, t0, t1⟩ := HC.out W (F2.out.trans hSw (fun _ h => h.elim))); go_simp; try rfl
      try simp only [Act.put, sA, sB, sC]
      refine rl 1 rfl (fun K hK => ?_)
      go_simp
      go_wp2_with (first | (go_at_call 146; refine (HI0.out _).mono ?_; rintro r w5 ⟨rfl, b5⟩))
      refine hK.out _ _ (hHeld.trans (Fr.b0 b5) (fun _ h => h.elim)) (fun hHeld => ?_)
      clear hK K
      refine tl 2 ?v2 rfl ?q2 ?r2
      case q2 => intro W hSw; go_simp; try rfl
      refine tl 3 ?v3 rfl ?q3 ?r3
      case q3 => intro W hSw; go_simp; try rfl
      try simp only [Act.put, sA, sB, sC]
      refine tl 4 ?v4 rfl ?q4 ?r4
      case q4 => intro W hSw; go_simp; try rfl
      try simp only [Act.put, sA, sB, sC]
      refine tl 5 ?v5 rfl ?q5 ?r5
      case q5 => intro W hSw; (try obtain ⟨a0, a1, a2, a3, t0, t1⟩ := HC.out W (F2.out.trans hSw (fun _ h => h.elim))); go_simp; try rfl
      try simp only [Act.put, sA, sB, sC]
      refine tl 6 ?v6 rfl ?q6 ?r6
      case q6 => intro W hSw; (try obtain ⟨a0, a1, a2, a3, t0, t1⟩ := HC.out W (F2.out.trans hSw (fun _ h => h.elim))); go_simp; try rfl
      try simp only [Act.put, sA, sB, sC]
      refine rl 7 rfl (fun K hK => ?_)
      go_simp
      go_wp2_with (first | (go_at_call 42; refine (HF0.out _ (HT.out.trans hHeld (fun _ h => h.elim))).mono ?_; rintro r w6 ⟨rfl, b6⟩))
      refine hK.out _ _ (hHeld.trans (Fr.b0 b6) (fun _ h => h.elim)) (fun hHeld => ?_)
      clear hK K
      try simp only [Act.put, sA, sB, sC]
      refine tl 8 ?v7 rfl ?q7 ?r7
      case q7 => intro W hSw; (try obtain ⟨a0, a1, a2, a3, t0, t1⟩ := HC.out W (F2.out.trans hSw (fun _ h => h.elim))); go_simp; try rfl
      refine tl 9 ?v8 rfl ?q8 ?r8
      case q8 => intro W hSw; go_simp; try rfl
      refine tl 10 ?v9 rfl ?q9 ?r9
      case q9 => intro W hSw; (try obtain ⟨a0, a1, a2, a3, t0, t1⟩ := HC.out W (F2.out.trans hSw (fun _ h => h.elim))); go_simp; try rfl
      try simp only [Act.put, sA, sB, sC]
      refine wpAnyH_done (by kernel_rfl) ?_ _
      go_wp2_with fail
      go_ret
      exact ⟨rfl, F02.out.trans ((hHeld.below (fun _ h => h.elim)).mono F02.out.size)⟩
     ·rw [if_neg (by omega)]
      have hld : decide (s.time < fv) = true := decide_eq_true (by omega)
      clear hib hfv
      obtain ⟨a0, a1, a2, a3, t0, t1⟩ := HC.out W1 (Fr.refl _ _)
      go_enter Tryz.func47, Tryz.ntmps47
      go_wp2_with fail
      rw [← HW1.out]
      refine (HVd.out _ _ _ ((Blk.new' HSz.out _ _).cell 0)).mono ?_
      rintro r w2 ⟨rfl, rfl⟩
      clear a0 a1 a2 a3 t0 t1
      obtain ⟨a0, a1, a2, a3, t0, t1⟩ := HC.out _ (Fr.none_alloc W1 (.cells #[.string s.name] 9))
      have F2 : Hid (Fr (fun _ => False) W1 (W1.alloc (.cells #[.string s.name] 9))) := Fr.none_alloc _ _
      have F02 : Hid (Below w.heap.size w (W1.alloc (.cells #[.string s.name] 9))) := (FW.out.trans F2.out (fun _ h => h.elim)).below (fun _ h => h.elim)
      obtain ⟨W2, hW2⟩ : ∃ W2, W2 = W1.alloc (.cells #[.string s.name] 9) := ⟨_, rfl⟩
      rw [← hW2] at F2 F02 a0 a1 a2 a3 t0 t1 ⊢
      clear hW2
      go_wp2_with fail
      have HT := Lib.hid (FW.out.trans F2.out (fun _ h => h.elim))
      refine wp_region_held_drew (S := fun W => Fr (fun _ => False) W2 W) (by kernel_rfl) ((Fr.refl _ W2).drew) (fun hHeld => ?_)
      refine tl 0 ?v10 rfl ?q10 ?r10
      case q10 => intro W hSw; (try obtain ⟨a0, a1, a2, a3, t0, t1⟩ := HC.out W (F2.out.trans hSw (fun _ h => h.elim))); go_simp; try rfl
      try simp only [Act.put, sA, sB, sC]
      refine rl 1 rfl (fun K hK => ?_)
      go_simp
      go_wp2_with (first | (go_at_call 146; refine (HI0.out _).mono ?_; rintro r w5 ⟨rfl, b5⟩))
      refine hK.out _ _ (hHeld.trans (Fr.b0 b5) (fun _ h => h.elim)) (fun hHeld => ?_)
      clear hK K
      refine tl 2 ?v11 rfl ?q11 ?r11
      case q11 => intro W hSw; go_simp; try rfl
      refine tl 3 ?v12 rfl ?q12 ?r12
      case q12 => intro W hSw; go_simp; try rfl
      try simp only [Act.put, sA, sB, sC]
      refine tl 4 ?v13 rfl ?q13 ?r13
      case q13 => intro W hSw; go_simp; try rfl
      try simp only [Act.put, sA, sB, sC]
      refine tl 5 ?v14 rfl ?q14 ?r14
      case q14 => intro W hSw; (try obtain ⟨a0, a1, a2, a3, t0, t1⟩ := HC.out W (F2.out.trans hSw (fun _ h => h.elim))); go_simp; try rfl
      try simp only [Act.put, sA, sB, sC]
      refine tl 6 ?v15 rfl ?q15 ?r15
      case q15 => intro W hSw; (try obtain ⟨a0, a1, a2, a3, t0, t1⟩ := HC.out W (F2.out.trans hSw (fun _ h => h.elim))); go_simp; try rfl
      try simp only [Act.put, sA, sB, sC]
      refine rl 7 rfl (fun K hK => ?_)
      go_simp
      go_wp2_with (first | (go_at_call 42; refine (HF0.out _ (HT.out.trans hHeld (fun _ h => h.elim))).mono ?_; rintro r w6 ⟨rfl, b6⟩))
      refine hK.out _ _ (hHeld.trans (Fr.b0 b6) (fun _ h => h.elim)) (fun hHeld => ?_)
      clear hK K
      try simp only [Act.put, sA, sB, sC]
      refine tl 8 ?v16 rfl ?q16 ?r16
      case q16 => intro W hSw; (try obtain ⟨a0, a1, a2, a3, t0, t1⟩ := HC.out W (F2.out.trans hSw (fun _ h => h.elim))); go_simp; try rfl
      refine tl 9 ?v17 rfl ?q17 ?r17
      case q17 => intro W hSw; go_simp; try rfl
      refine tl 10 ?v18 rfl ?q18 ?r18
      case q18 => intro W hSw; (try obtain ⟨a0, a1, a2, a3, t0, t1⟩ := HC.out W (F2.out.trans hSw (fun _ h => h.elim))); go_simp; try rfl
      try simp only [Act.put, sA, sB, sC]
      refine wpAnyH_done (by kernel_rfl) ?_ _
      go_wp2_with fail
      go_ret
      exact ⟨rfl, F02.out.trans ((hHeld.below (fun _ h => h.elim)).mono F02.out.size)⟩
    ·have hib : (decide (0 ≤ (0 : Int)) && decide ((0 : Int) < n)) = false := by simp; omega
     rw [hib] at HI0
     rw [if_neg (by omega)]
     clear hib
     obtain ⟨a0, a1, a2, a3, t0, t1⟩ := HC.out W1 (Fr.refl _ _)
     go_enter Tryz.func47, Tryz.ntmps47
     go_wp2_with fail
     rw [← HW1.out]
     refine (HVd.out _ _ _ ((Blk.new' HSz.out _ _).cell 0)).mono ?_
     rintro r w2 ⟨rfl, rfl⟩
     clear a0 a1 a2 a3 t0 t1
     obtain ⟨a0, a1, a2, a3, t0, t1⟩ := HC.out _ (Fr.none_alloc W1 (.cells #[.string s.name] 9))
     have F2 : Hid (Fr (fun _ => False) W1 (W1.alloc (.cells #[.string s.name] 9))) := Fr.none_alloc _ _
     have F02 : Hid (Below w.heap.size w (W1.alloc (.cells #[.string s.name] 9))) := (FW.out.trans F2.out (fun _ h => h.elim)).below (fun _ h => h.elim)
     obtain ⟨W2, hW2⟩ : ∃ W2, W2 = W1.alloc (.cells #[.string s.name] 9) := ⟨_, rfl⟩
     rw [← hW2] at F2 F02 a0 a1 a2 a3 t0 t1 ⊢
     clear hW2
     go_wp2_with fail
     have HT := Lib.hid (FW.out.trans F2.out (fun _ h => h.elim))
     refine wp_region_held_drew (S := fun W => Fr (fun _ => False) W2 W) (by kernel_rfl) ((Fr.refl _ W2).drew) (fun hHeld => ?_)
     refine tl 0 ?v19 rfl ?q19 ?r19
     case q19 => intro W hSw; (try obtain ⟨a0, a1, a2, a3, t0, t1⟩ := HC.out W (F2.out.trans hSw (fun _ h => h.elim))); go_simp; try rfl
     try simp only [Act.put, sA, sB, sC]
     refine rl 1 rfl (fun K hK => ?_)
     go_simp
     go_wp2_with (first | (go_at_call 146; refine (HI0.out _).mono ?_; rintro r w5 ⟨rfl, b5⟩))
     refine hK.out _ _ (hHeld.trans (Fr.b0 b5) (fun _ h => h.elim)) (fun hHeld => ?_)
     clear hK K
     refine tl 2 ?v20 rfl ?q20 ?r20
     case q20 => intro W hSw; go_simp; try rfl
     refine tl 3 ?v21 rfl ?q21 ?r21
     case q21 => intro W hSw; go_simp; try rfl
     try simp only [Act.put, sA, sB, sC]
     refine tu 4 rfl ?_
     try simp only [Act.put, sA, sB, sC]
     refine tu 5 rfl ?_
     try simp only [Act.put, sA, sB, sC]
     refine tu 6 rfl ?_
     try simp only [Act.put, sA, sB, sC]
     refine tu 7 rfl ?_
     try simp only [Act.put, sA, sB, sC]
     refine tu 8 rfl ?_
     refine tl 9 ?v22 rfl ?q22 ?r22
     case q22 => intro W hSw; go_simp; try rfl
     refine tl 10 ?v23 rfl ?q23 ?r23
     case q23 => intro W hSw; (try obtain ⟨a0, a1, a2, a3, t0, t1⟩ := HC.out W (F2.out.trans hSw (fun _ h => h.elim))); go_simp; try rfl
     try simp only [Act.put, sA, sB, sC]
     refine wpAnyH_done (by kernel_rfl) ?_ _
     go_wp2_with fail
     go_ret
     exact ⟨rfl, F02.out.trans ((hHeld.below (fun _ h => h.elim)).mono F02.out.size)⟩
  ·rw [if_neg (by omega)]
   have h0d : decide (s.time < 0) = true := decide_eq_true (by omega)
   clear hv
   obtain ⟨a0, a1, a2, a3, t0, t1⟩ := HC.out W1 (Fr.refl _ _)
   go_enter Tryz.func47, Tryz.ntmps47
   go_wp2_with fail
   rw [← HW1.out]
   refine (HVd.out _ _ _ ((Blk.new' HSz.out _ _).cell 0)).mono ?_
   rintro r w2 ⟨rfl, rfl⟩
   clear a0 a1 a2 a3 t0 t1
   obtain ⟨a0, a1, a2, a3, t0, t1⟩ := HC.out _ (Fr.none_alloc W1 (.cells #[.string s.name] 9))
   have F2 : Hid (Fr (fun _ => False) W1 (W1.alloc (.cells #[.string s.name] 9))) := Fr.none_alloc _ _
   have F02 : Hid (Below w.heap.size w (W1.alloc (.cells #[.string s.name] 9))) := (FW.out.trans F2.out (fun _ h => h.elim)).below (fun _ h => h.elim)
   obtain ⟨W2, hW2⟩ : ∃ W2, W2 = W1.alloc (.cells #[.string s.name] 9) := ⟨_, rfl⟩
   rw [← hW2] at F2 F02 a0 a1 a2 a3 t0 t1 ⊢
   clear hW2
   go_wp2_with fail
   go_ret
   exact ⟨rfl, F02.out⟩
end Go.Proofs.YtaakghjbbkgbdaaGreatDoor
namespace Go.Proofs.YtaakghjbbkgbdaaGreatDoor
set_option linter.all false
open Go.RowKit

structure TiersX where
 now : Int
 name : ByteArray
 tiers : List TierV
 floors : List Int
 tabs : List (List RecV)
def ptrs (tb : List (Nat × Nat)) : List Value := tb.map fun p => .pointer (some ⟨p.1, 0, none⟩)
theorem ptrs_get {tb : List (Nat × Nat)} {k : Nat} {p : Nat × Nat} (h : tb[k]? = some p) : (ptrs tb)[k]? = some (.pointer (some ⟨p.1, 0, none⟩)) := by
 unfold ptrs; rw [List.getElem?_map, h]; rfl
structure TiersIn (w : World) (t base : Nat) (X : TiersX) (A : Option Addr) (c : Nat) (B : Option Addr) (d : Nat) (T : Option Addr) (ct : Nat) (tb : List (Nat × Nat)) : Prop where
 blk : Blk w t 87 #[.int .i64 X.now, .string X.name, .slice A X.tiers.length c, .slice B X.floors.length d, .slice T X.tiers.length ct]
 tiers : w.ownsRow base 157 4 (.slice A X.tiers.length c) X.tiers.length (tcells X.tiers)
 floors : w.ownsRow base 3 1 (.slice B X.floors.length d) X.floors.length (ints X.floors)
 row : w.ownsRow base 209 1 (.slice T X.tiers.length ct) X.tiers.length (ptrs tb)
 tlen : X.tabs.length = X.tiers.length
 tab : ∀ (i : Nat) (p : Nat × Nat) (x : TierV) (l : List RecV), tb[i]? = some p → X.tiers[i]? = some x → X.tabs[i]? = some l → TabAt w p.1 x.every p.2 l
 nodup : (tb.map Prod.snd).Nodup
 ge : ∀ p ∈ tb, base ≤ p.1 ∧ base ≤ p.2
 tge : base ≤ t
def TiersAt (w : World) (t base : Nat) (X : TiersX) : Prop := ∃ A c B d T ct tb, TiersIn w t base X A c B d T ct tb
theorem TiersIn.len {w : World} {t base : Nat} {X : TiersX} {A B T : Option Addr} {c d ct : Nat} {tb : List (Nat × Nat)} (h : TiersIn w t base X A c B d T ct tb) : tb.length = X.tiers.length := by
 have := h.row.1
 unfold ptrs at this
 rw [List.length_map] at this
 omega
theorem TiersIn.tabAt {w : World} {t base : Nat} {X : TiersX} {A B T : Option Addr} {c d ct : Nat} {tb : List (Nat × Nat)} (h : TiersIn w t base X A c B d T ct tb) {k : Nat} (hk : k < X.tiers.length) :
  ∃ g b x l, tb[k]? = some (g, b) ∧ X.tiers[k]? = some x ∧ X.tabs[k]? = some l ∧ TabAt w g x.every b l := by
 have h1 : k < tb.length := by rw [h.len]; exact hk
 have h2 : k < X.tabs.length := by rw [h.tlen]; exact hk
 exact ⟨tb[k].1, tb[k].2, X.tiers[k], X.tabs[k], List.getElem?_eq_getElem h1, List.getElem?_eq_getElem hk, List.getElem?_eq_getElem h2, h.tab k _ _ _ (List.getElem?_eq_getElem h1) (List.getElem?_eq_getElem hk) (List.getElem?_eq_getElem h2)⟩
theorem TiersIn.fr0 {w w' : World} {t base : Nat} {X : TiersX} {A B T : Option Addr} {c d ct : Nat} {tb : List (Nat × Nat)} (h : TiersIn w t base X A c B d T ct tb) (hf : Fr (fun _ => False) w w') : TiersIn w' t base X A c B d T ct tb :=
 ⟨h.blk.fr hf (fun h => h), own_fr0 h.tiers hf, own_fr0 h.floors hf, own_fr0 h.row hf, h.tlen, fun i p x l h1 h2 h3 => (h.tab i p x l h1 h2 h3).fr0 hf, h.nodup, h.ge, h.tge⟩
theorem TiersIn.set {w w' : World} {t base : Nat} {X : TiersX} {A B T : Option Addr} {c d ct : Nat} {tb : List (Nat × Nat)} (h : TiersIn w t base X A c B d T ct tb) {k g b : Nat} {x : TierV} {l' : List RecV} (hk : tb[k]? = some (g, b)) (hx : X.tiers[k]? = some x)
  (ht : TabAt w' g x.every b l') (hf : Fr (fun j => j = b) w w') : TiersIn w' t base { X with tabs := X.tabs.set k l' } A c B d T ct tb := by
 have hkl : k < X.tiers.length := (List.getElem?_eq_some_iff.1 hx).1
 obtain ⟨l, hl⟩ : ∃ l, X.tabs[k]? = some l := ⟨_, List.getElem?_eq_getElem (by rw [h.tlen]; exact hkl)⟩
 obtain ⟨es, ck, hbm⟩ := (h.tab k (g, b) x l hk hx hl).own.isMap
 simp only at hbm
 have hrow : ∀ {e : TypeId} {size n base' : Nat} {v : Value} {xs : List Value}, w.ownsRow base' e size v n xs → ∀ j, rowF v j → ¬ j = b := fun ho j hj e => by
  obtain ⟨cs', fz, hc⟩ := own_ty ho hj
  rw [e, hbm] at hc
  cases hc
 have hblk : ∀ {g' : Nat} {ty : TypeId} {cs : Array Value}, Blk w g' ty cs → g' ≠ b := fun {g' ty cs} hb e => by
  have hb0 : w.heap[g']? = some (Obj.cells cs ty (0, 0)) := hb
  rw [e, hbm] at hb0
  cases hb0
 refine ⟨h.blk.fr hf (hblk h.blk), own_fr h.tiers hf (hrow h.tiers), own_fr h.floors hf (hrow h.floors), own_fr h.row hf (hrow h.row), by simp [h.tlen], fun i p y l1 h1 h2 h3 => ?_, h.nodup, h.ge, h.tge⟩
 by_cases e : i = k
 ·subst e
  rw [hk] at h1
  cases h1
  rw [hx] at h2
  cases h2
  rw [List.getElem?_set_self (by rw [h.tlen]; exact hkl)] at h3
  cases h3
  exact ht
 ·rw [List.getElem?_set_ne (fun e' => e e'.symm)] at h3
  have hT := h.tab i p y l1 h1 h2 h3
  refine hT.fr hf (hblk hT.blk) (fun e' => ?_)
  have hi : (tb.map Prod.snd)[i]? = some b := by rw [List.getElem?_map, h1]; simp [e']
  have hk2 : (tb.map Prod.snd)[k]? = some b := by rw [List.getElem?_map, hk]; rfl
  have hil := (List.getElem?_eq_some_iff.1 hi).1
  exact e ((List.getElem?_inj hil h.nodup).1 (hi.trans hk2.symm))

theorem tnone_any (t base : Nat) (X : TiersX) (w : World) (h : TiersAt w t base X) (hn : 0 < X.tiers.length) :
  Calls Tryz.prog 229 #[.pointer (some ⟨t, 0, none⟩)] w fun r w' => r = .returned (.bool false) ∧ w = w' := by
 obtain ⟨A, c, B, d, T, ct, tb, hi⟩ := h
 have c4 := hi.blk.cell 4
 simp only [List.getElem?_toArray, List.getElem?_cons_succ, List.getElem?_cons_zero] at c4
 have hne : ((X.tiers.length : Int) == 0) = false := by simp; intro e; rw [e] at hn; cases hn
 have hne2 : ¬ X.tiers.length = 0 := by omega
 obtain ⟨n, hn2⟩ : ∃ n, X.tiers.length = n := ⟨_, rfl⟩
 rw [hn2] at c4 hne hne2
 have hnd : decide ((n : Int) = 0) = false := decide_eq_false (by omega)
 clear hi hn2
 go_enter Tryz.func229, Tryz.ntmps229
 go_wp2_with fail
 go_ret
 exact ⟨by first | rfl | simp [*], rfl⟩
end Go.Proofs.YtaakghjbbkgbdaaGreatDoor
namespace Go.Proofs.YtaakghjbbkgbdaaGreatDoor
set_option linter.all false
open Go.RowKit

theorem wrap_id {x : Int} (h : -9223372036854775808 ≤ x ∧ x ≤ 9223372036854775807) : IntKind.i64.wrap x = x := by simp [IntKind.wrap, IntKind.signed, IntKind.bits]; omega
theorem sum_take_snoc {L : List Nat} {k x : Nat} (h : L[k]? = some x) : (L.take (k + 1)).sum = (L.take k).sum + x := by
 rw [take_snoc h, List.sum_append]; simp
theorem sum_take_le {L : List Nat} {c : Nat} (h : ∀ x ∈ L, x ≤ c) (k : Nat) : (L.take k).sum ≤ k * c := by
 induction k with
 | zero => simp
 | succ k ih =>
  by_cases hk : k < L.length
  ·rw [sum_take_snoc (List.getElem?_eq_getElem hk), Nat.add_mul]
   have := h _ (List.getElem_mem hk)
   omega
  ·rw [List.take_of_length_le (by omega)]
   rw [List.take_of_length_le (by omega)] at ih
   rw [Nat.add_mul]; omega

def needsX (X : TiersX) : List Nat := List.zipWith (fun x l => needV (max x.shards 1) l) X.tiers X.tabs
def needX (X : TiersX) : Nat := (needsX X).sum
theorem needV_le (M : Int) (hM : M ≤ 8) (l : List RecV) : needV M l ≤ 8 * (l.length + 2) := by
 have := partS_le M hM l (fun _ => false)
 rwa [partS_end (fun _ => rfl)] at this

set_option maxRecDepth 100000 in
set_option maxHeartbeats 4000000 in
theorem tneed_any (t base : Nat) (X : TiersX) (w : World) (h : TiersAt w t base X) (h0 : 0 < X.tiers.length) (hn : X.tiers.length ≤ 1000) (hl : ∀ l ∈ X.tabs, l.length ≤ 1000000) (hsh : ∀ x ∈ X.tiers, x.shards ≤ 8) :
  Calls Tryz.prog 140 #[.pointer (some ⟨t, 0, none⟩)] w fun r w' => r = .returned (.int .i64 (needX X : Nat)) ∧ Below w.heap.size w w' := by
 have HN := Lib.hid (tnone_any t base X w h h0)
 obtain ⟨A, c, B, d, T, ct, tb, hi⟩ := h
 have c2 := hi.blk.cell 2
 have c4 := hi.blk.cell 4
 simp only [List.getElem?_toArray, List.getElem?_cons_succ, List.getElem?_cons_zero] at c2 c4
 have Hi := Lib.hid hi
 have Hrow := Lib.hid (own_any hi.row).2.2.1
 have Hti := Lib.hid (own_any hi.tiers).2.2.1
 have Hle := Lib.hid (fun k => sum_take_le (L := needsX X) (c := 9000000) (fun x hx => by
  unfold needsX at hx
  obtain ⟨i, hi1, rfl⟩ := List.mem_iff_getElem.1 hx
  have hi2 : i < X.tiers.length ∧ i < X.tabs.length := by rw [List.length_zipWith] at hi1; omega
  rw [List.getElem_zipWith]
  have h0' := hsh _ (List.getElem_mem hi2.1)
  have h1 := needV_le (max (X.tiers[i]'hi2.1).shards 1) (by omega) (X.tabs[i]'hi2.2)
  have h2 := hl _ (List.getElem_mem hi2.2)
  omega) k)
 have Htl := Lib.hid hi.tlen
 have Hl := Lib.hid hl
 have Hsh := Lib.hid hsh
 clear hi hl hsh
 go_enter Tryz.func140, Tryz.ntmps140
 go_wp2_with fail
 refine HN.out.mono ?_
 rintro r w' ⟨rfl, rfl⟩
 go_wp2_with fail
 clear c2 c4
 go_loopw [3, 13] (fun s i wr => ∃ k : Nat, k ≤ X.tiers.length ∧ i = .int .i64 k ∧ s = .int .i64 (((needsX X).take k).sum : Nat) ∧ Fr (fun _ => False) w wr) (fun _ i _ => X.tiers.length - (intOf i).toNat)
 case atStart => exact ⟨0, Nat.zero_le _, rfl, rfl, Fr.refl _ _⟩
 case round =>
  obtain ⟨k, hk, rfl, rfl, hf⟩ := hrel
  have c2 := (Hi.out.blk.fr hf (fun h => h)).cell 2
  simp only [List.getElem?_toArray, List.getElem?_cons_succ, List.getElem?_cons_zero] at c2
  by_cases hlt : k < X.tiers.length
  ·obtain ⟨g, b, x, l, h1, h2, h3, hT⟩ := (Hi.out.fr0 hf).tabAt hlt
   obtain ⟨ad, e, hc⟩ := (Hrow.out.fr0 hf).2 (by omega)
   subst e
   have p0 := hc k _ (ptrs_get h1)
   obtain ⟨td, y, e, hy, e0, e1, e2, e3⟩ := (Hti.out.fr0 hf).tier hlt
   subst e
   rw [h2] at hy
   cases hy
   have hxs := Hsh.out x (mem_of_get h2)
   have hll := Hl.out l (mem_of_get h3)
   have HL := Lib.hid (tabneed_any g x.every b l x.shards hxs wr hT (by omega))
   have hs := sum_take_snoc (L := needsX X) (k := k) (x := needV (max x.shards 1) l) (by unfold needsX; rw [List.getElem?_zipWith, h2, h3])
   have hs2 := Hle.out (k + 1)
   rw [hs] at hs2
   obtain ⟨sv, hsv⟩ : ∃ sv, ((needsX X).take k).sum = sv := ⟨_, rfl⟩
   obtain ⟨nv, hnv⟩ : ∃ nv, needV (max x.shards 1) l = nv := ⟨_, rfl⟩
   rw [hsv, hnv] at hs hs2
   rw [hnv] at HL
   rw [hsv]
   have Hs := Lib.hid hs
   have hw := wrap_id (x := (sv : Int) + (nv : Int)) (by omega)
   have kn : 0 ≤ (k : Int) ∧ (k : Int) < (X.tiers.length : Int) := by omega
   have Hf := Lib.hid hf
   clear hc hT h1 h2 h3 hs hsv hnv hf e0 e1 e2
   go_wp2_with fail
   refine HL.out.mono ?_
   rintro r w' ⟨rfl, b5⟩
   have F5 := Lib.hid (Hf.out.trans (Fr.b0 b5) (fun _ h => h.elim))
   clear b5 c2 e3 p0
   go_wp2_with fail
   go_roundw
   case rel => exact ⟨k + 1, by omega, by go_num, by rw [Hs.out]; push_cast; rfl, F5.out⟩
   case measure => simp [intOf]; omega
  ·have hkl : k = X.tiers.length := by omega
   have hfin : ((needsX X).take k).sum = needX X := by
    unfold needX
    rw [List.take_of_length_le (by unfold needsX; rw [List.length_zipWith]; omega)]
   rw [hfin]
   have Hf := Lib.hid hf
   clear hfin hf
   go_wp2_with fail
   go_ret
   exact ⟨rfl, Hf.out.below (fun _ h => h.elim)⟩
end Go.Proofs.YtaakghjbbkgbdaaGreatDoor
namespace Go.Proofs.YtaakghjbbkgbdaaGreatDoor
set_option linter.all false
open Go.RowKit

theorem blk_ne_ty {w : World} {g g' : Nat} {ty ty' : TypeId} {cs cs' : Array Value} (h : Blk w g ty cs) (h' : Blk w g' ty' cs') (hne : ty ≠ ty') : g ≠ g' := fun e => by
 have h1 : w.heap[g]? = some (Obj.cells cs ty (0, 0)) := h
 have h2 : w.heap[g']? = some (Obj.cells cs' ty' (0, 0)) := h'
 rw [e, h2] at h1
 injection h1 with h1
 injection h1 with _ h1 _
 exact hne h1.symm
def tM (tb : List (Nat × Nat)) : Nat → Prop := fun j => ∃ p ∈ tb, j = p.2
def tF (t : Nat) (tb : List (Nat × Nat)) : Nat → Prop := fun j => j = t ∨ tM tb j
def TiersOn (w : World) (t base : Nat) (X : TiersX) (F : Nat → Prop) : Prop := ∃ A c B d T ct tb, TiersIn w t base X A c B d T ct tb ∧ F = tF t tb
theorem TiersOn.at_ {w : World} {t base : Nat} {X : TiersX} {F : Nat → Prop} (h : TiersOn w t base X F) : TiersAt w t base X := by
 obtain ⟨A, c, B, d, T, ct, tb, hi, _⟩ := h
 exact ⟨A, c, B, d, T, ct, tb, hi⟩
theorem TiersAt.on {w : World} {t base : Nat} {X : TiersX} (h : TiersAt w t base X) : ∃ F, TiersOn w t base X F := by
 obtain ⟨A, c, B, d, T, ct, tb, hi⟩ := h
 exact ⟨_, A, c, B, d, T, ct, tb, hi, rfl⟩
theorem TiersOn.fr0 {w w' : World} {t base : Nat} {X : TiersX} {F : Nat → Prop} (h : TiersOn w t base X F) (hf : Fr (fun _ => False) w w') : TiersOn w' t base X F := by
 obtain ⟨A, c, B, d, T, ct, tb, hi, e⟩ := h
 exact ⟨A, c, B, d, T, ct, tb, hi.fr0 hf, e⟩
theorem TiersAt.fr0 {w w' : World} {t base : Nat} {X : TiersX} (h : TiersAt w t base X) (hf : Fr (fun _ => False) w w') : TiersAt w' t base X := by
 obtain ⟨F, h⟩ := h.on
 exact (h.fr0 hf).at_
theorem TiersIn.map_ {w : World} {t base : Nat} {X : TiersX} {A B T : Option Addr} {c d ct : Nat} {tb : List (Nat × Nat)} (h : TiersIn w t base X A c B d T ct tb) {j : Nat} (hj : tM tb j) : base ≤ j ∧ j < w.heap.size ∧ ∃ es ck, w.heap[j]? = some (.map es ck) := by
 obtain ⟨p, hp, rfl⟩ := hj
 obtain ⟨k, hk⟩ := List.getElem?_of_mem hp
 have hkl : k < X.tiers.length := by have := (List.getElem?_eq_some_iff.1 hk).1; rw [h.len] at this; exact this
 obtain ⟨g, b, x, l, h1, h2, h3, hT⟩ := h.tabAt hkl
 rw [hk] at h1
 cases h1
 exact ⟨(h.ge _ hp).2, hT.own.lt, hT.own.isMap⟩
theorem TiersOn.ge {w : World} {t base : Nat} {X : TiersX} {F : Nat → Prop} (h : TiersOn w t base X F) : ∀ j, F j → base ≤ j ∧ j < w.heap.size := by
 obtain ⟨A, c, B, d, T, ct, tb, hi, rfl⟩ := h
 rintro j (rfl | hj)
 ·exact ⟨hi.tge, hi.blk.lt⟩
 ·exact ⟨(hi.map_ hj).1, (hi.map_ hj).2.1⟩
theorem TiersOn.fr {w w' : World} {t base : Nat} {X : TiersX} {F G : Nat → Prop} (h : TiersOn w t base X F) (hf : Fr G w w') (hG : ∀ j, G j → (∃ es ck, w.heap[j]? = some (.map es ck)) ∨ (∃ cs fz, w.heap[j]? = some (.cells cs 87 fz))) (hd : ∀ j, F j → ¬ G j) : TiersOn w' t base X F := by
 obtain ⟨A, c, B, d, T, ct, tb, hi, rfl⟩ := h
 have hrow : ∀ {e : TypeId} {size n base' : Nat} {v : Value} {xs : List Value}, w.ownsRow base' e size v n xs → e ≠ 87 → ∀ j, rowF v j → ¬ G j := fun ho hne j hj hg => by
  obtain ⟨cs', fz', hc⟩ := own_ty ho hj
  rcases hG j hg with ⟨es, ck, hbm⟩ | ⟨cs, fz, hb⟩
  ·rw [hbm] at hc; cases hc
  ·rw [hb] at hc
   injection hc with hc
   injection hc with _ hc _
   exact hne hc.symm
 have hblk : ∀ {g' : Nat} {ty : TypeId} {cs : Array Value}, Blk w g' ty cs → ty ≠ 87 → ¬ G g' := fun {g' ty cs} hB hne hg => by
  have hb0 : w.heap[g']? = some (Obj.cells cs ty (0, 0)) := hB
  rcases hG g' hg with ⟨es, ck, hbm⟩ | ⟨cs, fz, hb⟩
  ·rw [hbm] at hb0; cases hb0
  ·rw [hb] at hb0
   injection hb0 with hc
   injection hc with _ hc _
   exact hne hc.symm
 refine ⟨A, c, B, d, T, ct, tb, ⟨hi.blk.fr hf (hd t (.inl rfl)), own_fr hi.tiers hf (hrow hi.tiers (by decide)), own_fr hi.floors hf (hrow hi.floors (by decide)), own_fr hi.row hf (hrow hi.row (by decide)), hi.tlen, fun i p x l h1 h2 h3 => ?_, hi.nodup, hi.ge, hi.tge⟩, rfl⟩
 have hT := hi.tab i p x l h1 h2 h3
 exact hT.fr hf (hblk hT.blk (by decide)) (hd p.2 (.inr ⟨p, List.mem_of_getElem? h1, rfl⟩))
theorem TiersOn.kind {w : World} {t base : Nat} {X : TiersX} {F : Nat → Prop} (h : TiersOn w t base X F) : ∀ j, F j → (∃ es ck, w.heap[j]? = some (.map es ck)) ∨ (∃ cs fz, w.heap[j]? = some (.cells cs 87 fz)) := by
 obtain ⟨A, c, B, d, T, ct, tb, hi, rfl⟩ := h
 rintro j (rfl | hj)
 ·exact .inr ⟨_, _, hi.blk⟩
 ·exact .inl (hi.map_ hj).2.2
theorem TiersOn.apart {w w' : World} {t base t2 base2 : Nat} {X Y : TiersX} {F F2 G : Nat → Prop} (h : TiersOn w t base X F) (h2 : TiersOn w t2 base2 Y F2) (hf : Fr G w w') (hs : ∀ j, G j → F2 j) (hd : ∀ j, F j → ¬ F2 j) : TiersOn w' t base X F :=
 h.fr hf (fun j hj => h2.kind j (hs j hj)) (fun j hj hg => hd j hj (hs j hg))
end Go.Proofs.YtaakghjbbkgbdaaGreatDoor
namespace Go.Proofs.YtaakghjbbkgbdaaGreatDoor
set_option linter.all false
open Go.RowKit

theorem TiersIn.tick {w : World} {t base : Nat} {X : TiersX} {A B T : Option Addr} {c d ct : Nat} {tb : List (Nat × Nat)} (h : TiersIn w t base X A c B d T ct tb) (N : Int) :
  TiersIn (w.setCell ⟨t, 0, none⟩ (.int .i64 N)) t base { X with now := N } A c B d T ct tb := by
 have hf : Fr (fun j => j = t) w (w.setCell ⟨t, 0, none⟩ (.int .i64 N)) := (Fr.refl (fun j => j = t) w).setCell (p := ⟨t, 0, none⟩) (.inl rfl) _
 refine ⟨h.blk.set_ 0 _, own_fr h.tiers hf (fun j hj e => own_blk_ne h.tiers h.blk (by decide) (by rw [← e]; exact hj)), own_fr h.floors hf (fun j hj e => own_blk_ne h.floors h.blk (by decide) (by rw [← e]; exact hj)), own_fr h.row hf (fun j hj e => own_blk_ne h.row h.blk (by decide) (by rw [← e]; exact hj)), h.tlen, fun i p x l h1 h2 h3 => ?_, h.nodup, h.ge, h.tge⟩
 have hT := h.tab i p x l h1 h2 h3
 obtain ⟨es, ck, hbm⟩ := hT.own.isMap
 refine hT.fr hf (blk_ne_ty hT.blk h.blk (by decide)) (fun e => ?_)
 have hb0 : w.heap[t]? = some (Obj.cells _ _ (0, 0)) := h.blk
 rw [← e, hbm] at hb0
 cases hb0

def dropL (N : Int) (X : TiersX) : List (List RecV) := (List.range X.tiers.length).map fun k => keepT (startBelow (fromV N X.tiers X.floors k)) (X.tabs.getD k [])
def tickE (X : TiersX) (n : Int) : Int := if n < 0 then 1 else if 1099511627776 - X.now < n then 26 else 0
def tickX (X : TiersX) (n : Int) : TiersX := if tickE X n = 0 then { X with now := X.now + n, tabs := dropL (X.now + n) X } else X
theorem mix_step {α : Type} {D L : List α} {k : Nat} {y : α} (hk : k < L.length) (hy : D[k]? = some y) (hkd : k ≤ D.length) : (D.take k ++ L.drop k).set k y = D.take (k + 1) ++ L.drop (k + 1) := by
 have h1 : (D.take k).length = k := by rw [List.length_take]; omega
 rw [List.set_append_right _ _ (by omega), h1, Nat.sub_self, List.drop_eq_getElem_cons hk, List.set_cons_zero, take_snoc hy, List.append_assoc]
 rfl

end Go.Proofs.YtaakghjbbkgbdaaGreatDoor
namespace Go.Proofs.YtaakghjbbkgbdaaGreatDoor
set_option linter.all false
open Go.RowKit

theorem tis_any (t base : Nat) (X : TiersX) (i : Int) (w : World) (h : TiersAt w t base X) (h0 : 0 < X.tiers.length) :
  Calls Tryz.prog 240 #[.pointer (some ⟨t, 0, none⟩), .int .i64 i] w fun r w' => r = .returned (.bool (decide (0 ≤ i) && decide (i < (X.tiers.length : Int)))) ∧ w = w' := by
 have HN := Lib.hid (tnone_any t base X w h h0)
 obtain ⟨A, c, B, d, T, ct, tb, hi⟩ := h
 have c4 := hi.blk.cell 4
 simp only [List.getElem?_toArray, List.getElem?_cons_succ, List.getElem?_cons_zero] at c4
 clear hi
 by_cases hi0 : 0 ≤ i
 ·have hd : decide (0 ≤ i) = true := decide_eq_true hi0
  go_enter Tryz.func240, Tryz.ntmps240
  go_wp2_with fail
  refine HN.out.mono ?_
  rintro r w' ⟨rfl, rfl⟩
  go_wp2_with fail
  go_ret
  exact ⟨by first | rfl | simp [hd], rfl⟩
 ·have hd : decide (0 ≤ i) = false := decide_eq_false hi0
  go_enter Tryz.func240, Tryz.ntmps240
  go_wp2_with fail
  refine HN.out.mono ?_
  rintro r w' ⟨rfl, rfl⟩
  go_wp2_with fail
  go_ret
  exact ⟨by first | rfl | simp [hd], rfl⟩
theorem ttable_in (t base : Nat) (X : TiersX) (k : Nat) (x : TierV) (l : List RecV) (w : World) (h : TiersAt w t base X) (hx : X.tiers[k]? = some x) (hl : X.tabs[k]? = some l) :
  Calls Tryz.prog 148 #[.pointer (some ⟨t, 0, none⟩), .int .i64 k] w fun r w' => (∃ g' b', r = .returned (.pointer (some ⟨g', 0, none⟩)) ∧ TabAt w' g' x.every b' l ∧ w.heap.size ≤ g' ∧ w.heap.size ≤ b') ∧ Below w.heap.size w w' := by
 have hk : k < X.tiers.length := (List.getElem?_eq_some_iff.1 hx).1
 have H := Lib.hid (tis_any t base X k w h (by omega))
 have hib : (decide (0 ≤ (k : Int)) && decide ((k : Int) < (X.tiers.length : Int))) = true := by simp; omega
 rw [hib] at H
 obtain ⟨A, c, B, d, T, ct, tb, hi⟩ := h
 obtain ⟨g, b, y, l', h1, h2, h3, hT⟩ := hi.tabAt hk
 rw [hx] at h2
 cases h2
 rw [hl] at h3
 cases h3
 obtain ⟨ad, e, hc⟩ := (own_any hi.row).2.2.1.2 (show 0 < X.tiers.length by omega)
 subst e
 have p0 := hc k _ (ptrs_get h1)
 have c4 := hi.blk.cell 4
 simp only [List.getElem?_toArray, List.getElem?_cons_succ, List.getElem?_cons_zero] at c4
 have HC := Lib.hid (tabcopy_any g x.every b l w hT)
 have kn : 0 ≤ (k : Int) ∧ (k : Int) < (X.tiers.length : Int) := by omega
 clear hc hi hT h1
 go_enter Tryz.func148, Tryz.ntmps148
 go_wp2_with fail
 refine H.out.mono ?_
 rintro r w' ⟨rfl, rfl⟩
 go_wp2_with fail
 refine HC.out.mono ?_
 rintro r w5 ⟨⟨g', b', rfl, hr⟩, b5⟩
 have Hr := Lib.hid hr
 have B5 := Lib.hid b5
 clear hr b5
 go_wp2_with fail
 go_ret
 exact ⟨⟨g', b', rfl, Hr.out⟩, B5.out⟩
theorem trecords_in (t base : Nat) (X : TiersX) (k : Nat) (x : TierV) (l : List RecV) (w : World) (h : TiersAt w t base X) (hx : X.tiers[k]? = some x) (hl : X.tabs[k]? = some l) (hll : l.length ≤ 1000000000) :
  Calls Tryz.prog 44 #[.pointer (some ⟨t, 0, none⟩), .int .i64 k] w fun r w' => (∃ A c, r = .returned (.slice A l.length c) ∧ w'.ownsRow w.heap.size 208 7 (.slice A l.length c) l.length (rcells l)) ∧ Below w.heap.size w w' := by
 have H := Lib.hid (ttable_in t base X k x l w h hx hl)
 go_enter Tryz.func44, Tryz.ntmps44
 go_wp2_with fail
 refine H.out.mono ?_
 rintro r w5 ⟨⟨g', b', rfl, hT, _, _⟩, b5⟩
 have HA := Lib.hid (taball_any g' x.every b' l w5 hT hll)
 have B5 := Lib.hid b5
 have hs := b5.size
 clear hT b5
 go_wp2_with fail
 refine HA.out.mono ?_
 rintro r w6 ⟨⟨A, c, rfl, ho⟩, b6⟩
 have Ho := Lib.hid (own_le ho hs)
 have B6 := Lib.hid (B5.out.trans (b6.mono hs))
 clear ho b6
 go_wp2_with fail
 go_ret
 exact ⟨⟨A, c, rfl, Ho.out⟩, B6.out⟩
end Go.Proofs.YtaakghjbbkgbdaaGreatDoor
namespace Go.Proofs.YtaakghjbbkgbdaaGreatDoor
set_option linter.all false
open Go.RowKit

theorem tcopy_nil (w : World) : Calls Tryz.prog 137 #[.pointer none] w fun r w' => r = .returned (.pointer none) ∧ w = w' := by
 go_enter Tryz.func137, Tryz.ntmps137
 go_wp2_with fail
 go_ret
 exact ⟨rfl, rfl⟩
def ansV (tier : Int) (A : Option Addr) (n c : Nat) : Value := .agg #[.int .i64 tier, .slice A n c]
end Go.Proofs.YtaakghjbbkgbdaaGreatDoor
namespace Go.Proofs.YtaakghjbbkgbdaaGreatDoor
set_option linter.all false
open Go.RowKit

section
variable {P : Program} {w : World}
theorem op_app3 {o : Oper} {a : Act} {next : Act → World → Prop} {Q : Exit → Act → World → Prop} (s x : Operand) (t : TypeId)
  (ho : o.op = .call { callee := .builtin .append, args := #[s, x], argTypes := #[t, t] })
  (e : TypeId) (i : TypeInfo) (z : Value) (size bytes : Nat) (ht : P.underlying t = some (.slice e)) (hi : P.info? e = some i) (hz : i.zero = some z)
  (hsize : i.size = size) (hby : i.bytes = bytes) (hzs : z.cells.size = size) (hsz : 0 < size)
  (v : Value) (n : Nat) (xs : List Value) (hs : a.eval s = v) (base : Nat) (hbase : base ≤ w.heap.size) (hown : w.ownsRow base e size v n xs)
  (A : Option Addr) (m c : Nat) (news : List Value) (hx : a.eval x = .slice A m c) (hr : Rd w size A m news) (h1 : ∀ u ∈ news, u.oneCell' = true)
  (h63 : n + m ≤ maxLen) (hbytes : (n + m) * bytes ≤ 140737488355328)
  (h : ∀ A' c' w', w'.ownsRow base e size (.slice A' (n + m) c') (n + m) (xs ++ news) → Mv (rowF v) (rowF (.slice A' (n + m) c')) w w' → (∀ A0 c0, v = .slice A0 n c0 → Rd w' size A0 n xs) → next (a.put o.dst (.slice A' (n + m) c')) w') : Oper.wp P o a w next Q := by
 obtain ⟨v', w', hrun, h2, h3, h4⟩ := run_app2 (P := P) t o.type e i z size bytes ht hi hz hsize hby hzs hsz v n xs base hbase hown A m c news hr h1 h63 hbytes
 obtain ⟨A', c', rfl, _⟩ := own_slice h2
 unfold Oper.wp execOp
 simp only [ho, resolve, invoke, builtin, Sem.run_bind, Sem.run_pure, Result.andThen_ok, List.map_toArray, List.map_cons, List.map_nil, hs, hx, hrun]
 exact h A' c' w' h2 h3 h4
end
end Go.Proofs.YtaakghjbbkgbdaaGreatDoor
namespace Go.Proofs.YtaakghjbbkgbdaaGreatDoor
set_option linter.all false
open Go.RowKit

structure TiersP (w : World) (t base : Nat) (X : TiersX) (A : Option Addr) (c : Nat) (B : Option Addr) (d : Nat) (T : Option Addr) (ct : Nat) (tb : List (Nat × Nat)) (k : Nat) : Prop where
 blk : Blk w t 87 #[.int .i64 X.now, .string X.name, .slice A X.tiers.length c, .slice B X.floors.length d, .slice T k ct]
 tiers : w.ownsRow base 157 4 (.slice A X.tiers.length c) X.tiers.length (tcells X.tiers)
 floors : w.ownsRow base 3 1 (.slice B X.floors.length d) X.floors.length (ints X.floors)
 row : w.ownsRow base 209 1 (.slice T k ct) k (ptrs tb)
 tab : ∀ (i : Nat) (p : Nat × Nat) (x : TierV) (l : List RecV), tb[i]? = some p → X.tiers[i]? = some x → X.tabs[i]? = some l → TabAt w p.1 x.every p.2 l
 lt : ∀ p ∈ tb, p.1 < w.heap.size ∧ p.2 < w.heap.size
 nodup : (tb.map Prod.snd).Nodup
 ge : ∀ p ∈ tb, base ≤ p.1 ∧ base ≤ p.2
 tge : base ≤ t
theorem TiersP.len {w : World} {t base k : Nat} {X : TiersX} {A B T : Option Addr} {c d ct : Nat} {tb : List (Nat × Nat)} (h : TiersP w t base X A c B d T ct tb k) : tb.length = k := by
 have := h.row.1
 unfold ptrs at this
 rw [List.length_map] at this
 omega
theorem TiersP.fr0 {w w' : World} {t base k : Nat} {X : TiersX} {A B T : Option Addr} {c d ct : Nat} {tb : List (Nat × Nat)} (h : TiersP w t base X A c B d T ct tb k) (hf : Fr (fun _ => False) w w') : TiersP w' t base X A c B d T ct tb k :=
 ⟨h.blk.fr hf (fun h => h), own_fr0 h.tiers hf, own_fr0 h.floors hf, own_fr0 h.row hf, fun i p x l h1 h2 h3 => (h.tab i p x l h1 h2 h3).fr0 hf, fun p hp => ⟨Nat.lt_of_lt_of_le (h.lt p hp).1 hf.size, Nat.lt_of_lt_of_le (h.lt p hp).2 hf.size⟩, h.nodup, h.ge, h.tge⟩
theorem TiersP.done {w : World} {t base : Nat} {X : TiersX} {A B T : Option Addr} {c d ct : Nat} {tb : List (Nat × Nat)} (h : TiersP w t base X A c B d T ct tb X.tiers.length) (hl : X.tabs.length = X.tiers.length) : TiersAt w t base X :=
 ⟨A, c, B, d, T, ct, tb, h.blk, h.tiers, h.floors, h.row, hl, h.tab, h.nodup, h.ge, h.tge⟩
theorem own_ty_ne {w : World} {base base' n n' size size' : Nat} {e e' : TypeId} {v v' : Value} {xs xs' : List Value} (h : w.ownsRow base e size v n xs) (h' : w.ownsRow base' e' size' v' n' xs') (hne : e ≠ e') : ∀ j, rowF v j → ¬ rowF v' j := fun j hj hj' => by
 obtain ⟨cs, fz, h1⟩ := own_ty h hj
 obtain ⟨cs', fz', h2⟩ := own_ty h' hj'
 rw [h1] at h2
 injection h2 with h2
 injection h2 with _ h2 _
 exact hne h2
theorem TiersP.snoc {w w5 w6 : World} {t base k g b : Nat} {X : TiersX} {A B T T' : Option Addr} {c d ct ct' : Nat} {tb : List (Nat × Nat)} {x : TierV} {l : List RecV} (h : TiersP w t base X A c B d T ct tb k)
  (hf : Fr (fun _ => False) w w5) (hbs : base ≤ w.heap.size) (hg : w.heap.size ≤ g) (hb : w.heap.size ≤ b) (hx : X.tiers[k]? = some x) (hl : X.tabs[k]? = some l) (ht : TabAt w5 g x.every b l) (o : Obj)
  (ho : w6.ownsRow base 209 1 (.slice T' (k + 1) ct') (k + 1) (ptrs tb ++ [.pointer (some ⟨g, 0, none⟩)])) (hm : Mv (rowF (.slice T k ct)) (rowF (.slice T' (k + 1) ct')) (w5.alloc o) w6) :
  TiersP (w6.setCell ⟨t, 4, none⟩ (.slice T' (k + 1) ct')) t base X A c B d T' ct' (tb ++ [(g, b)]) (k + 1) ∧ Fr (fun j => base ≤ j) w (w6.setCell ⟨t, 4, none⟩ (.slice T' (k + 1) ct')) := by
 have h5 := h.fr0 (hf.trans (Fr.none_alloc w5 o) (fun _ h => h.elim))
 have ht5 : TabAt (w5.alloc o) g x.every b l := ht.fr0 (Fr.none_alloc _ _)
 have hblk : ∀ {g' : Nat} {ty : TypeId} {cs : Array Value}, Blk (w5.alloc o) g' ty cs → ty ≠ 209 → ¬ rowF (.slice T k ct) g' := fun {g' ty cs} hB hne hj => own_blk_ne h5.row hB (fun e => hne e.symm) hj
 have hmap : ∀ {b' : Nat} {m : List RecV}, OwnsT (w5.alloc o) b' m → ¬ rowF (.slice T k ct) b' := fun {b' m} hB hj => by
  obtain ⟨es, ck, hbm⟩ := hB.isMap
  obtain ⟨cs', fz, hc⟩ := own_ty h5.row hj
  rw [hbm] at hc
  cases hc
 have b6 : Blk w6 t 87 #[.int .i64 X.now, .string X.name, .slice A X.tiers.length c, .slice B X.floors.length d, .slice T k ct] := h5.blk.fr hm.fr (hblk h5.blk (by decide))
 have t6 : w6.ownsRow base 157 4 (.slice A X.tiers.length c) X.tiers.length (tcells X.tiers) := own_fr h5.tiers hm.fr (own_ty_ne h5.tiers h5.row (by decide))
 have f6 : w6.ownsRow base 3 1 (.slice B X.floors.length d) X.floors.length (ints X.floors) := own_fr h5.floors hm.fr (own_ty_ne h5.floors h5.row (by decide))
 have hs : Fr (fun j => j = t) w6 (w6.setCell ⟨t, 4, none⟩ (.slice T' (k + 1) ct')) := (Fr.refl (fun j => j = t) w6).setCell (p := ⟨t, 4, none⟩) (.inl rfl) _
 have hlen := h.len
 have hkl : k < X.tiers.length := (List.getElem?_eq_some_iff.1 hx).1
 have tab6 : ∀ {g' b' : Nat} {e : Int} {m : List RecV}, TabAt (w5.alloc o) g' e b' m → TabAt (w6.setCell ⟨t, 4, none⟩ (.slice T' (k + 1) ct')) g' e b' m := fun {g' b' e m} hT => by
  have hT6 : TabAt w6 g' e b' m := hT.fr hm.fr (hblk hT.blk (by decide)) (hmap hT.own)
  refine hT6.fr hs (blk_ne_ty hT6.blk b6 (by decide)) (fun e' => ?_)
  obtain ⟨es, ck, hbm⟩ := hT6.own.isMap
  have hb0 : w6.heap[t]? = some (Obj.cells _ _ (0, 0)) := b6
  rw [← e', hbm] at hb0
  cases hb0
 have hsz : w.heap.size ≤ (w6.setCell ⟨t, 4, none⟩ (.slice T' (k + 1) ct')).heap.size := Nat.le_trans (Nat.le_trans (hf.trans (Fr.none_alloc w5 o) (fun _ h => h.elim)).size hm.fr.size) hs.size
 refine ⟨⟨b6.set_ 4 _, own_fr t6 hs (fun j hj e => own_blk_ne t6 b6 (by decide) (by rw [← e]; exact hj)), own_fr f6 hs (fun j hj e => own_blk_ne f6 b6 (by decide) (by rw [← e]; exact hj)), ?_, fun i p y m h1 h2 h3 => ?_, fun p hp => ?_, ?_, fun p hp => ?_, h.tge⟩, ?_⟩
 ·have : ptrs (tb ++ [(g, b)]) = ptrs tb ++ [.pointer (some ⟨g, 0, none⟩)] := by unfold ptrs; rw [List.map_append]; rfl
  rw [this]
  exact own_fr ho hs (fun j hj e => own_blk_ne ho b6 (by decide) (by rw [← e]; exact hj))
 ·by_cases hi : i < tb.length
  ·rw [List.getElem?_append_left hi] at h1
   exact tab6 (h5.tab i p y m h1 h2 h3)
  ·rw [List.getElem?_append_right (by omega)] at h1
   have hik : i = k := by
    have := (List.getElem?_eq_some_iff.1 h1).1
    simp at this
    omega
   subst hik
   rw [hlen, Nat.sub_self] at h1
   cases h1
   rw [hx] at h2
   cases h2
   rw [hl] at h3
   cases h3
   exact tab6 ht5
 ·rcases List.mem_append.1 hp with hp | hp
  ·exact ⟨Nat.lt_of_lt_of_le (h.lt p hp).1 hsz, Nat.lt_of_lt_of_le (h.lt p hp).2 hsz⟩
  ·rw [List.mem_singleton] at hp
   subst hp
   exact ⟨(tab6 ht5).blk.lt, (tab6 ht5).own.lt⟩
 ·rw [List.map_append, List.nodup_append]
  refine ⟨h.nodup, by simp, fun a ha b' hb' => ?_⟩
  obtain ⟨p, hp, rfl⟩ := List.mem_map.1 ha
  simp at hb'
  subst hb'
  have := (h.lt p hp).2
  omega
 ·rcases List.mem_append.1 hp with hp | hp
  ·exact h.ge p hp
  ·rw [List.mem_singleton] at hp
   subst hp
   exact ⟨by omega, by omega⟩
 ·have q1 : Fr (fun j => base ≤ j) w (w5.alloc o) := (hf.trans (Fr.none_alloc w5 o) (fun _ h => h.elim)).mono (fun _ h => h.elim)
  have q2 : Fr (fun j => base ≤ j) w w6 := q1.trans hm.fr (fun j hj => .inl (h5.row.lt j hj).1)
  exact q2.trans hs (fun j hj => .inl (by rw [hj]; exact h.tge))
end Go.Proofs.YtaakghjbbkgbdaaGreatDoor
namespace Go.Proofs.YtaakghjbbkgbdaaGreatDoor
set_option linter.all false
open Go.RowKit

theorem TiersOn.frK {w w' : World} {t base : Nat} {X : TiersX} {F G : Nat → Prop} (h : TiersOn w t base X F) (hf : Fr G w w') (hG : ∀ j, G j → (∃ es ck, w.heap[j]? = some (.map es ck)) ∨ (∃ cs fz ty, w.heap[j]? = some (.cells cs ty fz) ∧ ty ≠ 157 ∧ ty ≠ 3 ∧ ty ≠ 209 ∧ ty ≠ 305)) (hd : ∀ j, F j → ¬ G j) : TiersOn w' t base X F := by
 obtain ⟨A, c, B, d, T, ct, tb, hi, rfl⟩ := h
 have hrow : ∀ {e : TypeId} {size n base' : Nat} {v : Value} {xs : List Value}, w.ownsRow base' e size v n xs → (e = 157 ∨ e = 3 ∨ e = 209) → ∀ j, rowF v j → ¬ G j := fun ho hne j hj hg => by
  obtain ⟨cs', fz', hc⟩ := own_ty ho hj
  rcases hG j hg with ⟨es, ck, hbm⟩ | ⟨cs, fz, ty, hb, h1, h2, h3, h4⟩
  ·rw [hbm] at hc; cases hc
  ·rw [hb] at hc
   injection hc with hc
   injection hc with _ hc _
   subst hc
   rcases hne with e | e | e
   ·exact h1 e
   ·exact h2 e
   ·exact h3 e
 have hblk : ∀ {g' : Nat} {cs : Array Value}, Blk w g' 305 cs → ¬ G g' := fun {g' cs} hB hg => by
  have hb0 : w.heap[g']? = some (Obj.cells cs 305 (0, 0)) := hB
  rcases hG g' hg with ⟨es, ck, hbm⟩ | ⟨cs, fz, ty, hb, h1, h2, h3, h4⟩
  ·rw [hbm] at hb0; cases hb0
  ·rw [hb] at hb0
   injection hb0 with hc
   injection hc with _ hc _
   exact h4 hc
 refine ⟨A, c, B, d, T, ct, tb, ⟨hi.blk.fr hf (hd t (.inl rfl)), own_fr hi.tiers hf (hrow hi.tiers (.inl rfl)), own_fr hi.floors hf (hrow hi.floors (.inr (.inl rfl))), own_fr hi.row hf (hrow hi.row (.inr (.inr rfl))), hi.tlen, fun i p x l h1 h2 h3 => ?_, hi.nodup, hi.ge, hi.tge⟩, rfl⟩
 have hT := hi.tab i p x l h1 h2 h3
 exact hT.fr hf (hblk hT.blk) (hd p.2 (.inr ⟨p, List.mem_of_getElem? h1, rfl⟩))
end Go.Proofs.YtaakghjbbkgbdaaGreatDoor
namespace Go.Proofs.YtaakghjbbkgbdaaGreatDoor
set_option linter.all false
open Go.RowKit

def BookG (w : World) (g k : Nat) (G L : Nat → Prop) : Prop :=
 ∃ (cs : Array Value) (V U : Value) (hs us : List (HV RecV)), Blk w g 42 cs ∧ cs[4]? = some V ∧ cs[5]? = some U ∧ (∀ j, j < 16 → j ≠ 4 → j ≠ 5 → cs[j]? = some (.slice none 0 0)) ∧
  Kind RecV.cells w 0 93 208 7 V U hs us ∧ hs.length = k ∧ k ≤ 250 ∧ (∀ h ∈ hs, h.l.length ≤ 100000) ∧ (∀ j, G j ↔ j = g ∨ rowF V j ∨ rowF U j) ∧ (∀ j, L j ↔ listsF hs j ∨ listsF us j)
section
variable {w w' : World} {g k : Nat} {G L F : Nat → Prop}
theorem BookG.fr (h : BookG w g k G L) (f : Fr F w w') (hG : ∀ j, G j → ¬ F j) (hL : ∀ j, L j → ¬ F j) : BookG w' g k G L := by
 obtain ⟨cs, V, U, hs, us, h1, h2, h3, h4, h5, h6, h7, h8, h9, h10⟩ := h
 refine ⟨cs, V, U, hs, us, h1.fr f (hG g ((h9 g).2 (.inl rfl))), h2, h3, h4, ⟨⟨fun x hx => own_fr (h5.lists.own x hx) f (fun j hj => hL j ((h10 j).2 (.inl ⟨x, hx, hj⟩))), h5.lists.apart⟩, own_fr h5.row f (fun j hj => hG j ((h9 j).2 (.inr (.inl hj)))), own_fr h5.wrow f (fun j hj => hG j ((h9 j).2 (.inr (.inr hj)))), h5.uv, fun x hx => own_fr (h5.was x hx) f (fun j hj => hL j ((h10 j).2 (.inr ⟨x, hx, hj⟩))), h5.same⟩, h6, h7, h8, h9, h10⟩
theorem BookG.fr0 (h : BookG w g k G L) (f : Fr (fun _ => False) w w') : BookG w' g k G L := h.fr f (fun _ _ h => h) (fun _ _ h => h)
theorem BookG.new (w : World) : BookG (w.alloc (.cells #[.slice none 0 0, .slice none 0 0, .slice none 0 0, .slice none 0 0, .slice none 0 0, .slice none 0 0, .slice none 0 0, .slice none 0 0, .slice none 0 0, .slice none 0 0, .slice none 0 0, .slice none 0 0, .slice none 0 0, .slice none 0 0, .slice none 0 0, .slice none 0 0] 42)) w.heap.size 0 (fun j => j = w.heap.size) (fun _ => False) := by
 refine ⟨_, .slice none 0 0, .slice none 0 0, [], [], Blk.new _ _ _, rfl, rfl, fun j hj _ _ => ?_, Kind.nil, rfl, by omega, fun x hx => (by cases hx), fun j => ?_, fun j => ?_⟩
 ·have : j = 0 ∨ j = 1 ∨ j = 2 ∨ j = 3 ∨ j = 4 ∨ j = 5 ∨ j = 6 ∨ j = 7 ∨ j = 8 ∨ j = 9 ∨ j = 10 ∨ j = 11 ∨ j = 12 ∨ j = 13 ∨ j = 14 ∨ j = 15 := by omega
  rcases this with rfl | rfl | rfl | rfl | rfl | rfl | rfl | rfl | rfl | rfl | rfl | rfl | rfl | rfl | rfl | rfl <;> rfl
 ·constructor
  ·exact fun h => .inl h
  ·rintro (h | h | h)
   ·exact h
   ·cases h
   ·cases h
 ·constructor
  ·exact fun h => h.elim
  ·rintro (⟨x, hx, _⟩ | ⟨x, hx, _⟩) <;> cases hx
theorem BookG.own (h : BookG w g k G L) : G g := by
 obtain ⟨cs, V, U, hs, us, h1, h2, h3, h4, h5, h6, h7, h8, h9, h10⟩ := h
 exact (h9 g).2 (.inl rfl)
theorem BookG.kind (h : BookG w g k G L) : ∀ j, G j → ∃ cs fz ty, w.heap[j]? = some (.cells cs ty fz) ∧ (ty = 42 ∨ ty = 93) := by
 obtain ⟨cs, V, U, hs, us, h1, h2, h3, h4, h5, h6, h7, h8, h9, h10⟩ := h
 intro j hj
 rcases (h9 j).1 hj with rfl | hj | hj
 ·exact ⟨_, _, _, h1, .inl rfl⟩
 ·obtain ⟨cs', fz, e⟩ := own_ty h5.row hj
  exact ⟨_, _, _, e, .inr rfl⟩
 ·obtain ⟨cs', fz, e⟩ := own_ty h5.wrow hj
  exact ⟨_, _, _, e, .inr rfl⟩
theorem BookG.lkind (h : BookG w g k G L) : ∀ j, L j → ∃ cs fz, w.heap[j]? = some (.cells cs 208 fz) := by
 obtain ⟨cs, V, U, hs, us, h1, h2, h3, h4, h5, h6, h7, h8, h9, h10⟩ := h
 intro j hj
 rcases (h10 j).1 hj with ⟨x, hx, hj⟩ | ⟨x, hx, hj⟩
 ·exact own_ty (h5.lists.own x hx) hj
 ·exact own_ty (h5.was x hx) hj
theorem BookG.lt (h : BookG w g k G L) : ∀ j, G j ∨ L j → j < w.heap.size := by
 rintro j (hj | hj)
 ·obtain ⟨_, _, _, e, _⟩ := h.kind j hj
  exact (Array.getElem?_eq_some_iff.1 e).1
 ·obtain ⟨_, _, e⟩ := h.lkind j hj
  exact (Array.getElem?_eq_some_iff.1 e).1
end
end Go.Proofs.YtaakghjbbkgbdaaGreatDoor
