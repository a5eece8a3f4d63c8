/- Walks of agg: Valid, one, both (of none), Of (of one value), Put, Get. -/
import Derived.Test.YtkfdgodngbinlaaGreatDoorPkBack
import Derived.Deep.RegionWith
import Derived.Deep.DeepCutAuto
import Derived.Test.YtkfdgodngbinlaaGreatDoorPolB
import Derived.Test.YtkfdgodngbinlaaGreatDoorBase
namespace Go.Proofs.YtkfdgodngbinlaaGreatDoor
set_option linter.all false
open Go.RowKit

structure AggV where
 count : Int
 hi : Int
 lo : Int
 min : Int
 max : Int
def AggV.cells (a : AggV) : List Value := [.int .i64 a.count, .int .i64 a.hi, .int .u64 a.lo, .int .i64 a.min, .int .i64 a.max]
def AggV.val (a : AggV) : Value := .agg #[.int .i64 a.count, .int .i64 a.hi, .int .u64 a.lo, .int .i64 a.min, .int .i64 a.max]
def in64 (x : Int) : Prop := -9223372036854775808 ≤ x ∧ x ≤ 9223372036854775807
def AggV.wf (a : AggV) : Prop := in64 a.count ∧ in64 a.hi ∧ (0 ≤ a.lo ∧ a.lo ≤ 18446744073709551615) ∧ in64 a.min ∧ in64 a.max
def aggOk (a : AggV) : Bool := decide (1 ≤ a.count) && decide (a.count ≤ 4611686018427387904) && decide (a.min ≤ a.max)
def agg0 : AggV := ⟨0, 0, 0, 0, 0⟩

theorem aggvalid_any (a : AggV) (w : World) : Calls Tryz.prog 171 #[a.val] w fun r w' => r = .returned (.bool (aggOk a)) ∧ Below w.heap.size w w' := by
 obtain ⟨c, h, l, m, x⟩ := a
 unfold AggV.val aggOk
 have hb : Hid (Below w.heap.size w (w.alloc (.cells #[.int .i64 c, .int .i64 h, .int .u64 l, .int .i64 m, .int .i64 x] 113))) := ((Own.start w).skip (Fr.none_alloc w _)).bel
 by_cases h1 : 1 ≤ c
 ·by_cases h2 : c ≤ 4611686018427387904
  ·go_enter Tryz.func171, Tryz.ntmps171
   go_wp2_with fail
   all_goals (try go_quiet (fail))
   all_goals go_wp2_with fail
   all_goals (go_ret <;> exact ⟨by simp [*], by first | exact hb.out | exact ((Own.start w).skip ((Fr.none_alloc w _).drewN _)).bel⟩)
  ·have h2' : decide (c ≤ 4611686018427387904) = false := decide_eq_false h2
   go_enter Tryz.func171, Tryz.ntmps171
   go_wp2_with fail
   all_goals (try go_quiet (fail))
   all_goals go_wp2_with fail
   all_goals (go_ret <;> exact ⟨by simp [*], by first | exact hb.out | exact ((Own.start w).skip ((Fr.none_alloc w _).drewN _)).bel⟩)
 ·have h1' : decide (1 ≤ c) = false := decide_eq_false h1
  go_enter Tryz.func171, Tryz.ntmps171
  go_wp2_with fail
  all_goals (try go_quiet (fail))
  all_goals go_wp2_with fail
  all_goals (go_ret <;> exact ⟨by simp [*], by first | exact hb.out | exact ((Own.start w).skip ((Fr.none_alloc w _).drewN _)).bel⟩)

def aggOne (v : Int) : AggV := ⟨1, v / 9223372036854775808, v % 18446744073709551616, v, v⟩
theorem one_any (v : Int) (hv : in64 v) (w : World) : Calls Tryz.prog 141 #[.int .i64 v] w fun r w' => r = .returned (aggOne v).val ∧ Below w.heap.size w w' := by
 obtain ⟨h0, h1⟩ := hv
 have hu : IntKind.u64.wrap v = v % 18446744073709551616 := by simp [IntKind.wrap, IntKind.signed, IntKind.bits]
 unfold AggV.val aggOne
 go_enter Tryz.func141, Tryz.ntmps141
 go_wp2_with fail
 refine bodyPost_ret (v := .agg #[.int .i64 1, .int .i64 (v / 9223372036854775808), .int .u64 (v % 18446744073709551616), .int .i64 v, .int .i64 v]) ?_ rfl ⟨rfl, ((Own.start w).skip (Fr.none_alloc w _)).bel⟩
 simp [results, Tryz.results141, go_sem]
theorem both_zero (a b : AggV) (ha : a.count = 0) (w : World) : Calls Tryz.prog 140 #[a.val, b.val] w fun r w' => r = .returned b.val ∧ Below w.heap.size w w' := by
 obtain ⟨c, h, l, m, x⟩ := a
 obtain ⟨c', h', l', m', x'⟩ := b
 simp only at ha
 subst ha
 unfold AggV.val
 go_enter Tryz.func140, Tryz.ntmps140
 go_wp2_with fail
 refine bodyPost_ret (v := .agg #[.int .i64 c', .int .i64 h', .int .u64 l', .int .i64 m', .int .i64 x']) ?_ rfl ⟨rfl, ((((Own.start w).skip (Fr.none_alloc w _)).skip (Fr.none_alloc _ _)).skip (Fr.none_alloc _ _)).bel⟩
 simp [results, Tryz.results140, go_sem]

set_option maxRecDepth 100000 in
set_option maxHeartbeats 2000000 in
theorem ofone_any (v : Int) (hv : in64 v) (A : Option Addr) (c : Nat) (w : World) (hr : Rd w 1 A 1 [.int .i64 v]) :
  Calls Tryz.prog 90 #[.slice A 1 c] w fun r w' => r = .returned (aggOne v).val ∧ Below w.heap.size w w' := by
 have H1 : Hid (∀ w', Calls Tryz.prog 141 #[.int .i64 v] w' fun r w'' => r = .returned (aggOne v).val ∧ Below w'.heap.size w' w'') := fun w' => one_any v hv w'
 have H2 : Hid (∀ w', Calls Tryz.prog 140 #[agg0.val, (aggOne v).val] w' fun r w'' => r = .returned (aggOne v).val ∧ Below w'.heap.size w' w'') := fun w' => both_zero agg0 (aggOne v) rfl w'
 obtain ⟨ad, rfl, hc⟩ := hr.2 (by decide)
 have c0 := hc 0 _ rfl
 have c0' : w.cell? ad = some (.int .i64 v) := by have := c0; simp only [Addr.add, if_true] at this; exact this
 have c2 := fun o1 o2 => (Fr.none_alloc (w.alloc o1) o2).cell ((Fr.none_alloc w o1).cell c0' (fun h => h)) (fun h => h)
 clear hr hc c0 hv c0'
 unfold AggV.val aggOne agg0 at H2
 unfold AggV.val aggOne at H1
 unfold AggV.val aggOne
 obtain ⟨h, hh⟩ : ∃ h, v / 9223372036854775808 = h := ⟨_, rfl⟩
 obtain ⟨l, hl⟩ : ∃ l, v % 18446744073709551616 = l := ⟨_, rfl⟩
 rw [hh, hl] at H1 H2
 rw [hh, hl]
 clear hh hl
 simp only at H1 H2
 go_enter Tryz.func90, Tryz.ntmps90
 go_wp2_with fail
 refine wp_loop_rounds 2 ?_
 rw [rounds_succ]
 go_wp2_with fail
 obtain ⟨W1, hW1⟩ : ∃ W1, W1 = (w.alloc (.cells #[.int .i64 0, .int .i64 0, .int .u64 0, .int .i64 0, .int .i64 0] 113)).alloc (.cells #[.int .i64 0, .int .i64 0, .int .u64 0, .int .i64 0, .int .i64 0] 113) := ⟨_, rfl⟩
 rw [← hW1]
 have b0 : Blk W1 w.heap.size 113 #[.int .i64 0, .int .i64 0, .int .u64 0, .int .i64 0, .int .i64 0] := hW1 ▸ (Blk.new _ _ _).alloc _
 have b1 : Blk W1 (w.heap.size + 1) 113 #[.int .i64 0, .int .i64 0, .int .u64 0, .int .i64 0, .int .i64 0] := hW1 ▸ Blk.new' (by simp) _ _
 have o1 : Own w W1 (fun _ => False) := hW1 ▸ ((Own.start w).skip (Fr.none_alloc _ _)).skip (Fr.none_alloc _ _)
 have B0 := Lib.hid b0
 have B1 := Lib.hid b1
 have O1 := Lib.hid o1
 clear b0 b1 o1 hW1 c2
 have HS : Hid (∀ w', Fr (fun _ => False) W1 w' → (w'.cell? ⟨w.heap.size + 1, 0, none⟩ = some (.int .i64 0) ∧ w'.cell? ⟨w.heap.size + 1, 1, none⟩ = some (.int .i64 0) ∧ w'.cell? ⟨w.heap.size + 1, 2, none⟩ = some (.int .u64 0) ∧ w'.cell? ⟨w.heap.size + 1, 3, none⟩ = some (.int .i64 0) ∧ w'.cell? ⟨w.heap.size + 1, 4, none⟩ = some (.int .i64 0)) ∧ (w'.frozen? ⟨w.heap.size + 1, 0, none⟩ = false ∧ w'.frozen? ⟨w.heap.size + 1, 1, none⟩ = false ∧ w'.frozen? ⟨w.heap.size + 1, 2, none⟩ = false ∧ w'.frozen? ⟨w.heap.size + 1, 3, none⟩ = false ∧ w'.frozen? ⟨w.heap.size + 1, 4, none⟩ = false)) :=
  fun w' h => by
   have b := B1.out.fr h (fun h => h)
   exact ⟨⟨b.cell 0, b.cell 1, b.cell 2, b.cell 3, b.cell 4⟩, b.frozen 0, b.frozen 1, b.frozen 2, b.frozen 3, b.frozen 4⟩
 obtain ⟨⟨a0, a1, a2, a3, a4⟩, _⟩ := HS.out W1.drew ((Fr.refl _ _).drew)
 have F0 : Fr (fun _ => False) W1 W1.drew := (Fr.refl _ _).drew
 go_region_with (first | (go_at_call 141; refine (H1.out _).mono ?_; rintro r w5 ⟨rfl, b5⟩; have f5 := F0.trans (Fr.b0 b5) (fun _ h => h.elim); clear b5; clear a0 a1 a2 a3 a4; obtain ⟨⟨a0, a1, a2, a3, a4⟩, _⟩ := HS.out w5 f5) | (go_at_call 140; refine (H2.out _).mono ?_; rintro r w6 ⟨rfl, b6⟩; have f6 := f5.trans (Fr.b0 b6) (fun _ h => h.elim); clear b6; clear a0 a1 a2 a3 a4; obtain ⟨⟨a0, a1, a2, a3, a4⟩, g0, g1, g2, g3, g4⟩ := HS.out w6 f6))
 all_goals
  obtain ⟨W2, hW2⟩ : ∃ W2, W2 = ((((w6.setCell ⟨w.heap.size + 1, 0, none⟩ (.int .i64 1)).setCell ⟨w.heap.size + 1, 1, none⟩ (.int .i64 h)).setCell ⟨w.heap.size + 1, 2, none⟩ (.int .u64 l)).setCell ⟨w.heap.size + 1, 3, none⟩ (.int .i64 v)).setCell ⟨w.heap.size + 1, 4, none⟩ (.int .i64 v) := ⟨_, rfl⟩
  rw [← hW2]
  have B2 : Blk W2 (w.heap.size + 1) 113 #[.int .i64 1, .int .i64 h, .int .u64 l, .int .i64 v, .int .i64 v] := hW2 ▸ (B1.out.fr f6 (fun h => h)).set5
  have F2 : Fr (fun k => k = w.heap.size + 1) W1 W2 := hW2 ▸ Fr.set5 (F := fun k => k = w.heap.size + 1) (g := w.heap.size + 1) (f6.mono (fun _ h => h.elim)) (.inl rfl) _ _ _ _ _
  have R2 := B0.out.fr F2 (by omega)
  have O2 := Lib.hid ((O1.out.also (G := fun k => k = w.heap.size + 1) (fun k hk => by omega)).fr F2)
  clear a0 a1 a2 a3 a4 g0 g1 g2 g3 g4 hW2 F0 f5 f6 F2
  have a0 := B2.cell 0
  have a1 := B2.cell 1
  have a2 := B2.cell 2
  have a3 := B2.cell 3
  have a4 := B2.cell 4
  have b0 := R2.cell 0
  have b1 := R2.cell 1
  have b2 := R2.cell 2
  have b3 := R2.cell 3
  have b4 := R2.cell 4
  have g0 := R2.frozen 0
  have g1 := R2.frozen 1
  have g2 := R2.frozen 2
  have g3 := R2.frozen 3
  have g4 := R2.frozen 4
  simp only [List.getElem?_toArray, List.getElem?_cons_succ, List.getElem?_cons_zero] at a0 a1 a2 a3 a4 b0 b1 b2 b3 b4
  clear B2 R2
  go_wp2_with fail
  try rw [rounds_succ]
  go_wp2_with fail
  have o3 := (O2.out.also (G := fun k => k = w.heap.size) (fun k hk => by omega)).fr (Fr.set5 (F := fun k => k = w.heap.size) (g := w.heap.size) (Fr.refl _ W2) (.inl rfl) (.int .i64 1) (.int .i64 h) (.int .u64 l) (.int .i64 v) (.int .i64 v))
  refine bodyPost_ret (v := .agg #[.int .i64 1, .int .i64 h, .int .u64 l, .int .i64 v, .int .i64 v]) ?_ rfl ⟨rfl, o3.bel⟩
  simp [results, Tryz.results90, go_sem, *]

def aggB (a : AggV) : List UInt8 := le8 [a.count, a.hi] ++ le a.lo.toNat 8 ++ le8 [a.min, a.max]
theorem aggB_len (a : AggV) : (aggB a).length = 40 := by simp [aggB, le8_len, le_length]

end Go.Proofs.YtkfdgodngbinlaaGreatDoor
namespace Go.Proofs.YtkfdgodngbinlaaGreatDoor
set_option linter.all false
open Go.RowKit

theorem uTake_in {b : List UInt8} {n : Nat} (h : n ≤ b.length) : uTake 0 b n = (0, b.drop n, b.take n) := by
 unfold uTake
 rw [if_pos rfl, if_neg (by omega)]

end Go.Proofs.YtkfdgodngbinlaaGreatDoor
namespace Go.Proofs.YtkfdgodngbinlaaGreatDoor
set_option linter.all false
open Go.RowKit

structure RecV where
 name : ByteArray
 start : Int
 agg : AggV
def RecV.cells (r : RecV) : List Value := [.string r.name, .int .i64 r.start, .int .i64 r.agg.count, .int .i64 r.agg.hi, .int .u64 r.agg.lo, .int .i64 r.agg.min, .int .i64 r.agg.max]
def RecV.val (r : RecV) : Value := .agg #[.string r.name, .int .i64 r.start, .int .i64 r.agg.count, .int .i64 r.agg.hi, .int .u64 r.agg.lo, .int .i64 r.agg.min, .int .i64 r.agg.max]
def RecV.wf (r : RecV) : Prop := in64 r.start ∧ r.agg.wf ∧ r.name.size ≤ maxLen
def timeB (t : Int) : Bool := decide (0 ≤ t) && decide (t ≤ 1099511627776)
def recOk (r : RecV) : Bool := validB r.name && timeB r.start && aggOk r.agg

theorem time_any (t : Int) (w : World) :
  Calls Tryz.prog 154 #[.int .i64 t] w fun r w' => r = .returned (.bool (timeB t)) ∧ w = w' := by
 by_cases h1 : 0 ≤ t
 ·by_cases h2 : t ≤ 1099511627776
  ·rw [show timeB t = true by simp [timeB, h1, h2]]
   go_enter Tryz.func154, Tryz.ntmps154
   go_wp2_with fail
   all_goals (go_ret <;> simp [*])
  ·rw [show timeB t = false by simp [timeB, h2]]
   go_enter Tryz.func154, Tryz.ntmps154
   go_wp2_with fail
   all_goals (go_ret <;> simp [*])
 ·rw [show timeB t = false by simp [timeB, h1]]
  go_enter Tryz.func154, Tryz.ntmps154
  go_wp2_with fail
  all_goals (go_ret <;> simp [*])

def recB (r : RecV) : List UInt8 := nameB r.name ++ le8 [r.start] ++ aggB r.agg
theorem recB_len (r : RecV) (h : r.name.size ≤ 15) : (recB r).length = 64 := by simp [recB, nameB_len _ h, le8_len, aggB_len]
theorem bstr_append (a b : List UInt8) : bstr a ++ bstr b = bstr (a ++ b) := by
 simp [bstr, ByteArray.ext_iff]
theorem validB_le {s : ByteArray} (h : validB s = true) : s.size ≤ 15 := by
 rcases Nat.lt_or_ge 15 s.size with h1 | h1
 ·rw [validB_long h1] at h; cases h
 ·exact h1
theorem pNames_one {l : List UInt8} {s : ByteArray} (h : s.size ≤ 15) : pNames 0 l [s] = (0, l ++ nameB s) := by
 simp only [pNames]
 simp; omega

end Go.Proofs.YtkfdgodngbinlaaGreatDoor
namespace Go.Proofs.YtkfdgodngbinlaaGreatDoor
set_option linter.all false
open Go.RowKit

def rcells (l : List RecV) : List Value := l.flatMap RecV.cells
theorem rec_len (r : RecV) : r.cells.length = 7 := rfl
theorem Rd.rec_ {w : World} {n k : Nat} {A : Option Addr} {l : List RecV} (h : Rd w 7 A n (rcells l)) (hk : k < n) :
  ∃ ad r, A = some ad ∧ l[k]? = some r ∧ w.cell? (ad.add (k * 7)) = some (.string r.name) ∧ w.cell? ⟨(ad.add (k * 7)).block, (ad.add (k * 7)).off + 1, none⟩ = some (.int .i64 r.start) ∧ w.cell? ⟨(ad.add (k * 7)).block, (ad.add (k * 7)).off + 2, none⟩ = some (.int .i64 r.agg.count) ∧ w.cell? ⟨(ad.add (k * 7)).block, (ad.add (k * 7)).off + 3, none⟩ = some (.int .i64 r.agg.hi) ∧ w.cell? ⟨(ad.add (k * 7)).block, (ad.add (k * 7)).off + 4, none⟩ = some (.int .u64 r.agg.lo) ∧ w.cell? ⟨(ad.add (k * 7)).block, (ad.add (k * 7)).off + 5, none⟩ = some (.int .i64 r.agg.min) ∧ w.cell? ⟨(ad.add (k * 7)).block, (ad.add (k * 7)).off + 6, none⟩ = some (.int .i64 r.agg.max) := by
 obtain ⟨ad, r, e, hr, hc⟩ := Rd.elem rec_len h hk (by decide)
 refine ⟨ad, r, e, hr, ?_, ?_, ?_, ?_, ?_, ?_, ?_⟩
 ·have := hc 0 _ rfl; rwa [addr_zero] at this
 ·have := hc 1 _ rfl; rwa [add_pos _ _ (by decide)] at this
 ·have := hc 2 _ rfl; rwa [add_pos _ _ (by decide)] at this
 ·have := hc 3 _ rfl; rwa [add_pos _ _ (by decide)] at this
 ·have := hc 4 _ rfl; rwa [add_pos _ _ (by decide)] at this
 ·have := hc 5 _ rfl; rwa [add_pos _ _ (by decide)] at this
 ·have := hc 6 _ rfl; rwa [add_pos _ _ (by decide)] at this
theorem Rd.recs_len {w : World} {n : Nat} {A : Option Addr} {l : List RecV} (h : Rd w 7 A n (rcells l)) : l.length = n := Rd.elems_len rec_len (by decide) h
theorem validB_of {r : RecV} (h : recOk r = true) : r.name.size ≤ 15 := by
 unfold recOk at h
 simp only [Bool.and_eq_true] at h
 exact validB_le h.1.1
theorem all_snoc {α : Type} {p : α → Bool} {l : List α} {k : Nat} {x : α} (h : l[k]? = some x) : (l.take (k + 1)).all p = ((l.take k).all p && p x) := by
 rw [take_snoc h, List.all_append]; simp
theorem all_false {α : Type} {p : α → Bool} {l : List α} {k : Nat} {x : α} (h : l[k]? = some x) (hp : p x = false) : l.all p = false := by
 rw [List.all_eq_false]
 exact ⟨x, mem_of_get h, by simp [hp]⟩
theorem flat_snoc {α β : Type} {f : α → List β} {l : List α} {k : Nat} {x : α} (h : l[k]? = some x) : (l.take (k + 1)).flatMap f = (l.take k).flatMap f ++ f x := by
 rw [take_snoc h, List.flatMap_append]; simp

end Go.Proofs.YtkfdgodngbinlaaGreatDoor
namespace Go.Proofs.YtkfdgodngbinlaaGreatDoor
set_option linter.all false
open Go.RowKit

structure SampV where
 name : ByteArray
 time : Int
 value : Int
def SampV.cells (s : SampV) : List Value := [.string s.name, .int .i64 s.time, .int .i64 s.value]
def SampV.val (s : SampV) : Value := .agg #[.string s.name, .int .i64 s.time, .int .i64 s.value]
def SampV.wf (s : SampV) : Prop := in64 s.time ∧ in64 s.value ∧ s.name.size ≤ maxLen
def sampOk (s : SampV) : Bool := validB s.name && timeB s.time
def sampB (s : SampV) : List UInt8 := nameB s.name ++ le8 [s.time, s.value]
theorem sampB_len (s : SampV) (h : s.name.size ≤ 15) : (sampB s).length = 32 := by simp [sampB, nameB_len _ h, le8_len]
def scells (l : List SampV) : List Value := l.flatMap SampV.cells
theorem samp_len (s : SampV) : s.cells.length = 3 := rfl
theorem Rd.samp_ {w : World} {n k : Nat} {A : Option Addr} {l : List SampV} (h : Rd w 3 A n (scells l)) (hk : k < n) :
  ∃ ad s, A = some ad ∧ l[k]? = some s ∧ w.cell? (ad.add (k * 3)) = some (.string s.name) ∧ w.cell? ⟨(ad.add (k * 3)).block, (ad.add (k * 3)).off + 1, none⟩ = some (.int .i64 s.time) ∧ w.cell? ⟨(ad.add (k * 3)).block, (ad.add (k * 3)).off + 2, none⟩ = some (.int .i64 s.value) := by
 obtain ⟨ad, s, e, hr, hc⟩ := Rd.elem samp_len h hk (by decide)
 refine ⟨ad, s, e, hr, ?_, ?_, ?_⟩
 ·have := hc 0 _ rfl; rwa [addr_zero] at this
 ·have := hc 1 _ rfl; rwa [add_pos _ _ (by decide)] at this
 ·have := hc 2 _ rfl; rwa [add_pos _ _ (by decide)] at this
theorem Rd.samps_len {w : World} {n : Nat} {A : Option Addr} {l : List SampV} (h : Rd w 3 A n (scells l)) : l.length = n := Rd.elems_len samp_len (by decide) h
theorem validB_ofs {s : SampV} (h : sampOk s = true) : s.name.size ≤ 15 := by
 unfold sampOk at h
 simp only [Bool.and_eq_true] at h
 exact validB_le h.1
theorem sampsB_len {l : List SampV} (h : l.all sampOk = true) : (l.flatMap sampB).length = 32 * l.length := by
 induction l with
 | nil => rfl
 | cons r l ih =>
  rw [List.all_cons, Bool.and_eq_true] at h
  rw [List.flatMap_cons, List.length_append, ih h.2, sampB_len r (validB_ofs h.1), List.length_cons]
  omega

set_option maxRecDepth 100000 in
set_option maxHeartbeats 2000000 in
theorem putsamp_any (s : SampV) (hs : s.wf) (w : World) :
  Calls Tryz.prog 111 #[s.val] w fun e w' => e = .returned (bif sampOk s then .tuple #[.string (bstr (sampB s)), .int .i64 0] else .tuple #[.string { data := #[] }, .int .i64 1]) ∧ Below w.heap.size w w' := by
 have HT := Lib.hid (fun w' => time_any s.time w')
 have hn := hs.2.2
 have HN : Hid (∀ (k c : Nat) (w' : World) (t : TypeId), k = w'.heap.size → Calls Tryz.prog 52 #[.slice (some ⟨k, 0, none⟩) 1 c] (w'.alloc (.cells #[.string s.name] t)) fun e w'' => e = .returned (.bool (validB s.name)) ∧ w'.alloc (.cells #[.string s.name] t) = w'') := fun k c w' t hk => valid_new s.name hn k c w' t hk
 have hok : Hid (sampOk s = (validB s.name && timeB s.time)) := rfl
 have HB : Hid (sampB s = nameB s.name ++ le8 [s.time, s.value]) := rfl
 obtain ⟨nm, ti, va⟩ := s
 unfold SampV.val
 have B0 := Lib.hid (Blk.new w 44 #[.string nm, .int .i64 ti, .int .i64 va])
 have O := Lib.hid ((Own.start w).skip (Fr.none_alloc w (.cells #[.string nm, .int .i64 ti, .int .i64 va] 44)))
 simp only at HT HN hok HB
 clear hn hs
 go_enter Tryz.func111, Tryz.ntmps111
 go_wp2_with fail
 refine (HN.out _ _ _ _ (by simp)).mono ?_
 rintro e w1 ⟨rfl, rfl⟩
 have B1 := Lib.hid (B0.out.alloc (.cells #[.string nm] 9))
 have O1 := Lib.hid (O.out.skip (Fr.none_alloc _ (.cells #[.string nm] 9)))
 have b1 := B1.out.cell 1
 simp only [List.getElem?_toArray, List.getElem?_cons_succ, List.getElem?_cons_zero] at b1
 cases hv : validB nm
 ·have Hok : Hid (sampOk ⟨nm, ti, va⟩ = false) := by have := hok.out; rw [hv, Bool.false_and] at this; exact this
  clear hv hok
  go_wp2_with fail
  go_ret2
  exact ⟨by rw [Hok.out]; rfl, O1.out.bel⟩
 ·cases ht : timeB ti
  ·have Hok : Hid (sampOk ⟨nm, ti, va⟩ = false) := by have := hok.out; rw [ht, Bool.and_false] at this; exact this
   rw [ht] at HT
   clear hv hok ht
   go_wp2_with fail
   refine (HT.out _).mono ?_
   rintro e w2 ⟨rfl, rfl⟩
   go_wp2_with fail
   go_ret2
   exact ⟨by rw [Hok.out]; rfl, O1.out.bel⟩
  ·have Hok : Hid (sampOk ⟨nm, ti, va⟩ = true) := by have := hok.out; rw [hv, ht] at this; exact this
   have Hnm := Lib.hid (validB_le hv)
   rw [ht] at HT
   clear hv hok ht
   go_wp2_with fail
   refine (HT.out _).mono ?_
   rintro e w2 ⟨rfl, rfl⟩
   obtain ⟨W2, hW2⟩ : ∃ W2, W2 = (w.alloc (.cells #[.string nm, .int .i64 ti, .int .i64 va] 44)).alloc (.cells #[.string nm] 9) := ⟨_, rfl⟩
   rw [← hW2] at O1 B1 ⊢
   clear b1 hW2
   have c0 := fun o => (B1.out.alloc o).cell 0
   simp only [List.getElem?_toArray, List.getElem?_cons_zero] at c0
   go_wp2_with fail
   have p0 := (Pk.new W2).1
   have q0 := ((Own.start W2).skip (Fr.none_alloc W2 (.cells #[.int .i64 0, .slice none 0 0] 127))).also (Pk.new W2).2
   refine (names_any _ _ 0 [] [nm] _ 1 1 _ (p0.fr (Fr.none_alloc _ _) (fun _ _ h => h)) (Rd.new' (by simp) _ _ _ rfl) (adF_new' (by simp) p0.lt) (by simp) (by simp; have := Hnm.out; omega)).mono ?_
   rw [pNames_one Hnm.out, List.nil_append]
   rintro r w3 ⟨rfl, F1, p1, m1⟩
   have Q1 := Lib.hid ((q0.skip (Fr.none_alloc _ _)).mv m1)
   have P1 := Lib.hid p1
   clear p0 q0 m1 p1 c0
   have c1 := (B1.out.below Q1.out.bel).cell 1
   have c2 := (B1.out.below Q1.out.bel).cell 2
   simp only [List.getElem?_toArray, List.getElem?_cons_succ, List.getElem?_cons_zero] at c1 c2
   go_wp2_with fail
   refine (ints_any _ _ 0 _ [ti, va] _ 2 2 _ (P1.out.fr (Fr.none_alloc _ _) (fun _ _ h => h)) (Rd.new _ _ _ _ rfl) (adF_new P1.out.lt) (by simp [nameB_len _ Hnm.out])).mono ?_
   rw [pW_zero]
   rintro r w4 ⟨rfl, F2, p2, m2⟩
   have Q2 := Lib.hid ((Q1.out.skip (Fr.none_alloc _ _)).mv m2)
   have P2 := Lib.hid p2
   clear m2 p2 c1 c2 P1 Q1
   have HD := Lib.hid (done_at W2.heap.size F2 (nameB nm ++ le8 [ti, va]) _ w4 P2.out rfl)
   rw [← HB.out] at HD
   clear HB
   go_wp2_with fail
   refine (HD.out).mono ?_
   rintro r w5 ⟨rfl, rfl⟩
   have O5 := Lib.hid (O1.out.below Q2.out.bel)
   clear HD
   go_wp2_with fail
   go_ret2
   exact ⟨by rw [Hok.out]; rfl, O5.out.bel⟩

set_option maxRecDepth 100000 in
set_option maxHeartbeats 4000000 in
theorem sampsput_any (l : List SampV) (hl : ∀ r ∈ l, r.wf) (A : Option Addr) (n c : Nat) (w : World) (hr : Rd w 3 A n (scells l)) (hn : n ≤ 1099511627776) :
  Calls Tryz.prog 70 #[.slice A n c] w fun e w' => e = .returned (bif l.all sampOk then .tuple #[.string (bstr (l.flatMap sampB)), .int .i64 0] else .tuple #[.string { data := #[] }, .int .i64 1]) ∧ Below w.heap.size w w' := by
 have HP : Hid (∀ r ∈ l, ∀ w', Calls Tryz.prog 111 #[r.val] w' fun e w'' => e = .returned (bif sampOk r then .tuple #[.string (bstr (sampB r)), .int .i64 0] else .tuple #[.string { data := #[] }, .int .i64 1]) ∧ Below w'.heap.size w' w'') := fun r h w' => putsamp_any r (hl r h) w'
 have Hr := Lib.hid hr
 have Hl := Lib.hid hr.samps_len
 clear hr hl
 go_enter Tryz.func70, Tryz.ntmps70
 go_wp2_with fail
 go_loopw [4, 11] (fun o i wr => ∃ k : Nat, k ≤ n ∧ i = .int .i64 k ∧ o = .string (bstr ((l.take k).flatMap sampB)) ∧ Hid ((l.take k).all sampOk = true) ∧ Own w wr (fun _ => False)) (fun _ i _ => n - (intOf i).toNat)
 case atStart => exact ⟨0, Nat.zero_le _, rfl, rfl, rfl, Own.start w⟩
 case round =>
  obtain ⟨k, hk, rfl, rfl, hall, ho⟩ := hrel
  have Ho := Lib.hid ho
  by_cases hlt : k < n
  ·obtain ⟨ad, r, rfl, hu, d0, d1, d2⟩ := (Hr.out.fr0 (Fr.b0 ho.bel)).samp_ hlt
   have HPr := Lib.hid (HP.out r (mem_of_get hu))
   have Hu := Lib.hid hu
   have hlen : (bstr ((l.take k).flatMap sampB)).size ≤ 70368744177664 := by
    rw [bstr_size, sampsB_len hall.out, List.length_take]; omega
   obtain ⟨S, hS⟩ : ∃ S, bstr ((l.take k).flatMap sampB) = S := ⟨_, rfl⟩
   rw [hS] at hlen ⊢
   have HS := Lib.hid hS
   clear hu ho hS
   cases hok : sampOk r
   ·have HF := Lib.hid (all_false Hu.out hok)
    rw [hok] at HPr
    unfold SampV.val at HPr
    clear hok
    go_wp2_with fail
    refine (HPr.out _).mono ?_
    rintro e w1 ⟨rfl, b1⟩
    have O1 := Lib.hid ((Ho.out.skip (Fr.none_alloc _ _)).below b1)
    clear b1 d0 d1 d2
    go_wp2_with fail
    go_ret2
    exact ⟨by rw [HF.out]; rfl, O1.out.bel⟩
   ·have HT : Hid ((l.take (k + 1)).all sampOk = true) := by
     show _ = _
     rw [all_snoc Hu.out, hall.out, hok]; rfl
    have hrl : (bstr (sampB r)).size ≤ 64 := by rw [bstr_size, sampB_len r (validB_ofs hok)]; decide
    obtain ⟨T, hT⟩ : ∃ T, bstr (sampB r) = T := ⟨_, rfl⟩
    rw [hok, hT] at HPr
    rw [hT] at hrl
    have HC : Hid (S ++ T = bstr ((l.take (k + 1)).flatMap sampB)) := by
     show _ = _
     rw [← HS.out, ← hT, bstr_append, flat_snoc Hu.out]
    unfold SampV.val at HPr
    clear hok hT
    go_wp2_with fail
    refine (HPr.out _).mono ?_
    rintro e w1 ⟨rfl, b1⟩
    have O1 := Lib.hid ((Ho.out.skip (Fr.none_alloc _ _)).below b1)
    clear b1 d0 d1 d2
    go_wp2_with fail
    go_roundw
    case rel => exact ⟨k + 1, by omega, by go_num, by rw [HC.out], HT.out, O1.out⟩
    case measure => simp [intOf]; omega
  ·obtain rfl : k = n := by omega
   have HT := Lib.hid (show l.take k = l from take_all (by rw [Hl.out]; exact Nat.le_refl _))
   have HF : Hid (l.all sampOk = true) := by have := hall.out; rwa [HT.out] at this
   rw [HT.out]
   clear ho
   go_wp2_with fail
   go_ret2
   exact ⟨by rw [HF.out]; rfl, Ho.out.bel⟩
end Go.Proofs.YtkfdgodngbinlaaGreatDoor
namespace Go.Proofs.YtkfdgodngbinlaaGreatDoor
set_option linter.all false
open Go.RowKit

theorem ofLe_lt64 {l : List UInt8} (h : l.length ≤ 8) : ofLe l < 18446744073709551616 := by
 have h1 := ofLe_lt l
 have h2 : 256 ^ l.length ≤ 256 ^ 8 := Nat.pow_le_pow_right (by decide) h
 have h3 : (256 : Nat) ^ 8 = 18446744073709551616 := by decide
 omega
theorem sgn_in {n : Nat} (h : n < 18446744073709551616) : in64 (sgn n) := by
 unfold sgn in64
 split <;> omega
theorem sgn8_in {l : List UInt8} (h : l.length ≤ 8) : in64 (sgn (ofLe l)) := sgn_in (ofLe_lt64 h)
theorem uName_len (e : Int) (l : List UInt8) : (uName e l).2.2.length ≤ 16 := by
 have h := uTake_len e l 16
 unfold uName
 split
 ·simp
 ·split
  ·rw [List.length_take, List.length_drop]; omega
  ·simp
theorem uTake_rest (e : Int) (b : List UInt8) (n : Nat) : (uTake e b n).2.1.length ≤ b.length := by
 unfold uTake
 split
 ·split
  ·exact Nat.le_refl _
  ·show (b.drop n).length ≤ _; rw [List.length_drop]; omega
 ·exact Nat.le_refl _
theorem uName_rest (e : Int) (b : List UInt8) : (uName e b).2.1.length ≤ b.length := by
 have h := uTake_rest e b 16
 unfold uName
 split
 ·exact h
 ·split <;> exact h

end Go.Proofs.YtkfdgodngbinlaaGreatDoor
namespace Go.Proofs.YtkfdgodngbinlaaGreatDoor
set_option linter.all false
open Go.RowKit

def chunk (size : Nat) (l : List UInt8) (k : Nat) : List UInt8 := (l.drop (size * k)).take size
theorem info_rec : (Tryz.prog.info? 115).map (fun i => (i.zero, i.size, i.bytes)) = some (some (.agg #[.string ByteArray.empty, .int .i64 0, .int .i64 0, .int .i64 0, .int .u64 0, .int .i64 0, .int .i64 0]), 7, 64) := by kernel_rfl
theorem info_samp : (Tryz.prog.info? 44).map (fun i => (i.zero, i.size, i.bytes)) = some (some (.agg #[.string ByteArray.empty, .int .i64 0, .int .i64 0]), 3, 32) := by kernel_rfl
end Go.Proofs.YtkfdgodngbinlaaGreatDoor
namespace Go.Proofs.YtkfdgodngbinlaaGreatDoor
set_option linter.all false
open Go.RowKit

theorem le8_two (x y : Int) : le8 [x, y] = le (u64 x) 8 ++ le (u64 y) 8 := by rw [le8_cons, le8_cons]; simp [le8]
theorem le8_one (x : Int) : le8 [x] = le (u64 x) 8 := by rw [le8_cons]; simp [le8]
theorem sgn_le8 {x : Int} (h : in64 x) : sgn (ofLe (le (u64 x) 8)) = x := by rw [ofLe_le8 _ (u64_lt x), sgn_u64 h.1 h.2]
theorem bstr_toList (s : ByteArray) : bstr s.data.toList = s := by simp [bstr]
theorem uTake_full (t : List UInt8) : uTake 0 t t.length = (0, [], t) := by rw [uTake_in (Nat.le_refl _), List.drop_length, List.take_length]
theorem chunk_flat {α : Type} {f : α → List UInt8} {size : Nat} {l : List α} (hf : ∀ x ∈ l, (f x).length = size) {k : Nat} {x : α} (h : l[k]? = some x) : chunk size (l.flatMap f) k = f x := by
 induction l generalizing k with
 | nil => simp at h
 | cons a l ih =>
  have ha := hf a (.head _)
  unfold chunk at ih ⊢
  rw [List.flatMap_cons]
  rcases k with _ | k
  ·simp only [List.getElem?_cons_zero, Option.some.injEq] at h
   subst h
   rw [Nat.mul_zero, List.drop_zero, List.take_left' ha]
  ·simp only [List.getElem?_cons_succ] at h
   rw [Nat.mul_succ, List.drop_append, ha, List.drop_eq_nil_of_le (by rw [ha]; omega), List.nil_append, show size * k + size - size = size * k by omega]
   exact ih (fun y hy => hf y (.tail _ hy)) h
theorem all_mem {α : Type} {p : α → Bool} {l : List α} (h : l.all p = true) {x : α} (hx : x ∈ l) : p x = true := (List.all_eq_true.1 h) x hx
theorem recs_len {l : List RecV} (hok : l.all recOk = true) : ∀ r ∈ l, (recB r).length = 64 := fun r hr => recB_len r (validB_of (all_mem hok hr))
def sampRd (l : List UInt8) : SampV :=
 let n := uName 0 l
 let t := uTake n.1 n.2.1 8
 let v := uTake t.1 t.2.1 8
 ⟨bstr n.2.2, sgn (ofLe t.2.2), sgn (ofLe v.2.2)⟩
def sgetOk (l : List UInt8) : Bool := sampOk (sampRd l) && decide (sampB (sampRd l) = l)
theorem sampRd_wf (l : List UInt8) : (sampRd l).wf := by
 refine ⟨sgn8_in (uTake_len _ _ 8), sgn8_in (uTake_len _ _ 8), ?_⟩
 show (bstr (uName 0 l).2.2).size ≤ maxLen
 rw [bstr_size]
 have := uName_len 0 l
 unfold maxLen; omega
def sampsRd (l : List UInt8) (n : Nat) : List SampV := (List.range n).map fun k => sampRd (chunk 32 l k)
def sampsOk (l : List UInt8) (n : Nat) : Bool := (List.range n).all fun k => sgetOk (chunk 32 l k)
theorem sampsRd_snoc (l : List UInt8) (k : Nat) : sampsRd l (k + 1) = sampsRd l k ++ [sampRd (chunk 32 l k)] := by simp [sampsRd, List.range_succ]
theorem sampsOk_snoc (l : List UInt8) (k : Nat) : sampsOk l (k + 1) = (sampsOk l k && sgetOk (chunk 32 l k)) := by simp [sampsOk, List.range_succ]
theorem sampsOk_false {l : List UInt8} {k n : Nat} (hk : k < n) (h : sgetOk (chunk 32 l k) = false) : sampsOk l n = false := by
 unfold sampsOk
 rw [List.all_eq_false]
 exact ⟨k, List.mem_range.2 hk, by simp [h]⟩
theorem sampRd_back {s : SampV} (h : s.wf) (hok : sampOk s = true) : sampRd (sampB s) = s := by
 have h1 := hok
 unfold sampOk at h1
 simp only [Bool.and_eq_true] at h1
 have hn := validB_le h1.1
 unfold sampRd sampB
 rw [nameB_back hn]
 simp only
 rw [le8_two, uTake_app (le_length _ 8)]
 simp only
 rw [show le (u64 s.value) 8 = le (u64 s.value) 8 ++ [] by simp, uTake_app (le_length _ 8)]
 simp only
 rw [sgn_le8 h.1, sgn_le8 h.2.1, bstr_toList]
theorem sgetOk_back {s : SampV} (h : s.wf) (hok : sampOk s = true) : sgetOk (sampB s) = true := by
 unfold sgetOk
 rw [sampRd_back h hok]
 simp [hok]
theorem samps_lens {l : List SampV} (hok : l.all sampOk = true) : ∀ r ∈ l, (sampB r).length = 32 := fun r hr => sampB_len r (validB_ofs (all_mem hok hr))
theorem sampsRd_back {l : List SampV} (hw : ∀ r ∈ l, r.wf) (hok : l.all sampOk = true) : sampsRd (l.flatMap sampB) l.length = l := by
 apply List.ext_getElem?
 intro k
 unfold sampsRd
 rw [List.getElem?_map]
 rcases Nat.lt_or_ge k l.length with hk | hk
 ·have h := List.getElem?_eq_getElem hk
  have hm := mem_of_get h
  rw [List.getElem?_range hk, Option.map_some, chunk_flat (samps_lens hok) h, sampRd_back (hw _ hm) (all_mem hok hm), h]
 ·rw [List.getElem?_eq_none (by simpa using hk), List.getElem?_eq_none hk]; rfl
theorem sampsOk_back {l : List SampV} (hw : ∀ r ∈ l, r.wf) (hok : l.all sampOk = true) : sampsOk (l.flatMap sampB) l.length = true := by
 unfold sampsOk
 rw [List.all_eq_true]
 intro k hk
 have hk := List.mem_range.1 hk
 have h := List.getElem?_eq_getElem hk
 have hm := mem_of_get h
 rw [chunk_flat (samps_lens hok) h, sgetOk_back (hw _ hm) (all_mem hok hm)]
end Go.Proofs.YtkfdgodngbinlaaGreatDoor
namespace Go.Proofs.YtkfdgodngbinlaaGreatDoor
set_option linter.all false
open Go.RowKit

theorem eqs_string (d : Nat) (a b : ByteArray) (w : World) : (Op.equalIn (d + 1) 9 (.string a) (.string b)).run Tryz.prog w = .ok (a.toList == b.toList) w := run_equalIn_string w d _ a b (by kernel_rfl)
theorem eqs_int (d : Nat) (a b : Int) (w : World) : (Op.equalIn (d + 1) 3 (.int .i64 a) (.int .i64 b)).run Tryz.prog w = .ok (a == b) w := run_equalIn_int w d _ .i64 .i64 a b (by kernel_rfl)
theorem eqs_u64 (d : Nat) (a b : Int) (w : World) : (Op.equalIn (d + 1) 111 (.int .u64 a) (.int .u64 b)).run Tryz.prog w = .ok (a == b) w := run_equalIn_int w d _ .u64 .u64 a b (by kernel_rfl)
theorem toList_inj {a b : ByteArray} (h : a.toList = b.toList) : a = b := by
 rw [Lib.toList_data, Lib.toList_data] at h
 cases a; cases b
 simp only at h
 congr
 exact Array.toList_inj.1 h

def sampEq (x y : SampV) : Bool := (x.name.toList == y.name.toList) && ((x.time == y.time) && (x.value == y.value))
theorem sampEq_iff (x y : SampV) : sampEq x y = true ↔ x = y := by
 obtain ⟨a, b, c⟩ := x
 obtain ⟨a', b', c'⟩ := y
 unfold sampEq
 simp only [Bool.and_eq_true, beq_iff_eq, SampV.mk.injEq]
 exact ⟨fun h => ⟨toList_inj h.1, h.2⟩, fun h => ⟨by rw [h.1], h.2⟩⟩
instance sampDec : DecidableEq SampV := fun x y => if h : sampEq x y = true then isTrue ((sampEq_iff x y).1 h) else isFalse fun e => h ((sampEq_iff x y).2 e)
def aggEq (x y : AggV) : Bool := (x.count == y.count) && ((x.hi == y.hi) && ((x.lo == y.lo) && ((x.min == y.min) && (x.max == y.max))))
def recEq (x y : RecV) : Bool := (x.name.toList == y.name.toList) && ((x.start == y.start) && aggEq x.agg y.agg)
theorem aggEq_iff (x y : AggV) : aggEq x y = true ↔ x = y := by
 obtain ⟨a, b, c, d, e⟩ := x
 obtain ⟨a', b', c', d', e'⟩ := y
 unfold aggEq
 simp only [Bool.and_eq_true, beq_iff_eq, AggV.mk.injEq]
theorem recEq_iff (x y : RecV) : recEq x y = true ↔ x = y := by
 obtain ⟨a, b, c⟩ := x
 obtain ⟨a', b', c'⟩ := y
 unfold recEq
 simp only [Bool.and_eq_true, beq_iff_eq, RecV.mk.injEq, aggEq_iff]
 exact ⟨fun h => ⟨toList_inj h.1, h.2⟩, fun h => ⟨by rw [h.1], h.2⟩⟩
instance recDec : DecidableEq RecV := fun x y => if h : recEq x y = true then isTrue ((recEq_iff x y).1 h) else isFalse fun e => h ((recEq_iff x y).2 e)
theorem run_eqagg (d : Nat) (x y : AggV) (w : World) : (Op.equalIn (d + 2) 113 x.val y.val).run Tryz.prog w = .ok (aggEq x y) w := by
 have hu : Tryz.prog.underlying 113 = some (.struct (Tryz.prog.fieldsOf 113)) := by kernel_rfl
 have hp : Tryz.prog.stoodInHeld 113 = false := by kernel_rfl
 have hf : (Tryz.prog.fieldsOf 113).toList = [⟨"Count", 3, 0, false, "", "", 0⟩, ⟨"Hi", 3, 1, false, "", "", 8⟩, ⟨"Lo", 111, 2, false, "", "", 16⟩, ⟨"Min", 3, 3, false, "", "", 24⟩, ⟨"Max", 3, 4, false, "", "", 32⟩] := by kernel_rfl
 unfold AggV.val aggEq
 rw [run_equalIn_struct (P := Tryz.prog) w (d + 1) _ _ _ hu hp, hf]
 simp [Op.eqFields, part, eqs_int d, eqs_u64 d]
 by_cases h1 : x.count = y.count <;> by_cases h2 : x.hi = y.hi <;> by_cases h3 : x.lo = y.lo <;> by_cases h4 : x.min = y.min <;> by_cases h5 : x.max = y.max <;> simp [h1, h2, h3, h4, h5]
end Go.Proofs.YtkfdgodngbinlaaGreatDoor
namespace Go.Proofs.YtkfdgodngbinlaaGreatDoor
set_option linter.all false
open Go.RowKit

end Go.Proofs.YtkfdgodngbinlaaGreatDoor
namespace Go.Proofs.YtkfdgodngbinlaaGreatDoor
set_option linter.all false
open Go.RowKit

theorem nan_int (a : Int) (w : World) : Calls Tryz.prog 204 #[.int .i64 a] w fun r w' => r = .returned (.bool false) ∧ w = w' := by
 go_enter Tryz.func204, Tryz.ntmps204
 go_wp2_with fail
 go_ret
 exact ⟨by simp, rfl⟩
theorem nan_string (a : ByteArray) (w : World) : Calls Tryz.prog 203 #[.string a] w fun r w' => r = .returned (.bool false) ∧ w = w' := by
 go_enter Tryz.func203, Tryz.ntmps203
 go_wp2_with fail
 go_ret
 exact ⟨by simp, rfl⟩
def cmpI (a b : Int) : Int := if a < b then -1 else if b < a then 1 else 0
theorem cmpint_any (a b : Int) (w : World) : Calls Tryz.prog 179 #[.int .i64 a, .int .i64 b] w fun r w' => r = .returned (.int .i64 (cmpI a b)) ∧ w = w' := by
 unfold cmpI
 by_cases h1 : a < b
 ·rw [if_pos h1]
  go_enter Tryz.func179, Tryz.ntmps179
  go_wp2_with fail
  refine (nan_int a w).mono ?_
  rintro r w' ⟨rfl, rfl⟩
  go_wp2_with fail
  refine (nan_int b w).mono ?_
  rintro r w' ⟨rfl, rfl⟩
  go_wp2_with fail
  go_ret
  exact ⟨rfl, rfl⟩
 ·rw [if_neg h1]
  by_cases h2 : b < a
  ·rw [if_pos h2]
   go_enter Tryz.func179, Tryz.ntmps179
   go_wp2_with fail
   refine (nan_int a w).mono ?_
   rintro r w' ⟨rfl, rfl⟩
   go_wp2_with fail
   refine (nan_int b w).mono ?_
   rintro r w' ⟨rfl, rfl⟩
   go_wp2_with fail
   go_ret
   exact ⟨rfl, rfl⟩
  ·rw [if_neg h2]
   go_enter Tryz.func179, Tryz.ntmps179
   go_wp2_with fail
   refine (nan_int a w).mono ?_
   rintro r w' ⟨rfl, rfl⟩
   go_wp2_with fail
   refine (nan_int b w).mono ?_
   rintro r w' ⟨rfl, rfl⟩
   go_wp2_with fail
   go_ret
   exact ⟨rfl, rfl⟩
end Go.Proofs.YtkfdgodngbinlaaGreatDoor
namespace Go.Proofs.YtkfdgodngbinlaaGreatDoor
set_option linter.all false
open Go.RowKit

def cmpS (a b : ByteArray) : Int := if Op.bytesLess a.toList b.toList = true then -1 else if (a.toList == b.toList) = true then 0 else 1
theorem cmpstr_any (a b : ByteArray) (w : World) : Calls Tryz.prog 178 #[.string a, .string b] w fun r w' => r = .returned (.int .i64 (cmpS a b)) ∧ w = w' := by
 unfold cmpS
 by_cases h1 : Op.bytesLess a.toList b.toList = true
 ·rw [if_pos h1]
  go_enter Tryz.func178, Tryz.ntmps178
  go_wp2_with fail
  refine (nan_string a w).mono ?_
  rintro r w' ⟨rfl, rfl⟩
  go_wp2_with fail
  refine (nan_string b w).mono ?_
  rintro r w' ⟨rfl, rfl⟩
  go_wp2_with fail
  go_ret
  exact ⟨rfl, rfl⟩
 ·rw [if_neg h1]
  have h1f : Op.bytesLess a.toList b.toList = false := by simpa using h1
  clear h1
  cases h2 : (a.toList == b.toList)
  ·rw [if_neg (by simp)]
   go_enter Tryz.func178, Tryz.ntmps178
   go_wp2_with fail
   refine (nan_string a w).mono ?_
   rintro r w' ⟨rfl, rfl⟩
   go_wp2_with fail
   refine (nan_string b w).mono ?_
   rintro r w' ⟨rfl, rfl⟩
   go_wp2_with fail
   go_ret
   exact ⟨rfl, rfl⟩
  ·rw [if_pos rfl]
   go_enter Tryz.func178, Tryz.ntmps178
   go_wp2_with fail
   refine (nan_string a w).mono ?_
   rintro r w' ⟨rfl, rfl⟩
   go_wp2_with fail
   refine (nan_string b w).mono ?_
   rintro r w' ⟨rfl, rfl⟩
   go_wp2_with fail
   go_ret
   exact ⟨rfl, rfl⟩
def orI (a b : Int) : Int := if a = 0 then b else a
set_option maxHeartbeats 1000000 in
theorem or_two (a b : Int) (A : Option Addr) (c : Nat) (w : World) (hr : Rd w 1 A 2 [.int .i64 a, .int .i64 b]) : Calls Tryz.prog 177 #[.slice A 2 c] w fun r w' => r = .returned (.int .i64 (orI a b)) ∧ w = w' := by
 obtain ⟨ad, rfl, hc⟩ := hr.2 (by omega)
 have c0 := hc 0 _ rfl
 have c1 := hc 1 _ rfl
 rw [addr_zero] at c0
 rw [add_pos _ _ (by decide)] at c1
 have H0 := Lib.hid c0
 have H1 := Lib.hid c1
 clear hr hc c0 c1
 unfold orI
 by_cases ha : a = 0
 ·rw [if_pos ha]
  subst ha
  by_cases hb : b = 0
  ·subst hb
   go_enter Tryz.func177, Tryz.ntmps177
   go_wp2_with fail
   go_loop [8] (fun i => ∃ k : Nat, k ≤ 2 ∧ i = .int .i64 k) (fun i => 2 - (intOf i).toNat)
   case atStart => exact ⟨0, by omega, rfl⟩
   case round =>
    obtain ⟨k, hk, rfl⟩ := hrel
    have c0 := H0.out
    have c1 := H1.out
    rcases (show k = 0 ∨ k = 1 ∨ k = 2 by omega) with rfl | rfl | rfl
    ·go_wp2
     go_round
     case rel => exact ⟨1, by omega, by first | rfl | go_num⟩
     case measure => simp [intOf]
    ·go_wp2
     go_round
     case rel => exact ⟨2, by omega, by first | rfl | go_num⟩
     case measure => simp [intOf]
    ·go_wp2
     go_ret
     exact ⟨rfl, rfl⟩
  ·have hb0 : (b != 0) = true := by simpa using hb
   clear hb
   go_enter Tryz.func177, Tryz.ntmps177
   go_wp2_with fail
   go_loop [8] (fun i => ∃ k : Nat, k ≤ 1 ∧ i = .int .i64 k) (fun i => 2 - (intOf i).toNat)
   case atStart => exact ⟨0, by omega, rfl⟩
   case round =>
    obtain ⟨k, hk, rfl⟩ := hrel
    have c0 := H0.out
    have c1 := H1.out
    rcases (show k = 0 ∨ k = 1 by omega) with rfl | rfl
    ·go_wp2
     go_round
     case rel => exact ⟨1, by omega, by first | rfl | go_num⟩
     case measure => simp [intOf]
    ·go_wp2
     go_ret
     exact ⟨rfl, rfl⟩
 ·rw [if_neg ha]
  have ha0 : (a != 0) = true := by simpa using ha
  clear ha
  go_enter Tryz.func177, Tryz.ntmps177
  go_wp2_with fail
  go_loop [8] (fun i => i = .int .i64 0) (fun i => 2 - (intOf i).toNat)
  case atStart => exact rfl
  case round =>
   obtain rfl := hrel
   have c0 := H0.out
   go_wp2
   go_ret
   exact ⟨rfl, rfl⟩

def recCmp (a b : RecV) : Int := orI (cmpS a.name b.name) (cmpI a.start b.start)
end Go.Proofs.YtkfdgodngbinlaaGreatDoor
