/- Walks of agg: Valid, one, both (of none), Of (of one value), Put, Get. -/
import Derived.Test.YtfhhepfkjndkgaaGreatPkBack
import Derived.Deep.RegionWith
import Derived.Deep.DeepCutAuto
import Derived.Test.YtfhhepfkjndkgaaGreatPolB
import Derived.Test.YtfhhepfkjndkgaaGreatBook
namespace Go.Proofs.YtfhhepfkjndkgaaGreat
set_option linter.all false
open Go.RowKit

/-- An api.Agg. -/
structure AggV where
  count : Int
  hi : Int
  lo : Int
  min : Int
  max : Int
def AggV.cells (a : AggV) : List Value := [.int .i64 a.count, .int .i64 a.hi, .int .u64 a.lo, .int .i64 a.min, .int .i64 a.max]
def AggV.val (a : AggV) : Value := .agg #[.int .i64 a.count, .int .i64 a.hi, .int .u64 a.lo, .int .i64 a.min, .int .i64 a.max]
def in64 (x : Int) : Prop := -9223372036854775808 ≤ x ∧ x ≤ 9223372036854775807
def AggV.wf (a : AggV) : Prop := in64 a.count ∧ in64 a.hi ∧ (0 ≤ a.lo ∧ a.lo ≤ 18446744073709551615) ∧ in64 a.min ∧ in64 a.max
def aggOk (a : AggV) : Bool := decide (1 ≤ a.count) && decide (a.count ≤ 4611686018427387904) && decide (a.min ≤ a.max)
def agg0 : AggV := ⟨0, 0, 0, 0, 0⟩

theorem aggvalid_any (a : AggV) (w : World) : Calls Tryz.prog 205 #[a.val] w fun r w' => r = .returned (.bool (aggOk a)) ∧ Below w.heap.size w w' := by
  obtain ⟨c, h, l, m, x⟩ := a
  unfold AggV.val aggOk
  have hb : Hid (Below w.heap.size w (w.alloc (.cells #[.int .i64 c, .int .i64 h, .int .u64 l, .int .i64 m, .int .i64 x] 28))) := ((Own.start w).skip (Fr.none_alloc w _)).bel
  by_cases h1 : 1 ≤ c
  · by_cases h2 : c ≤ 4611686018427387904
    · go_enter Tryz.func205, Tryz.ntmps205
      go_wp2_with fail
      all_goals (try go_quiet (fail))
      all_goals go_wp2_with fail
      all_goals (go_ret <;> exact ⟨by simp [*], by first | exact hb.out | exact ((Own.start w).skip ((Fr.none_alloc w _).drewN _)).bel⟩)
    · have h2' : decide (c ≤ 4611686018427387904) = false := decide_eq_false h2
      go_enter Tryz.func205, Tryz.ntmps205
      go_wp2_with fail
      all_goals (try go_quiet (fail))
      all_goals go_wp2_with fail
      all_goals (go_ret <;> exact ⟨by simp [*], by first | exact hb.out | exact ((Own.start w).skip ((Fr.none_alloc w _).drewN _)).bel⟩)
  · have h1' : decide (1 ≤ c) = false := decide_eq_false h1
    go_enter Tryz.func205, Tryz.ntmps205
    go_wp2_with fail
    all_goals (try go_quiet (fail))
    all_goals go_wp2_with fail
    all_goals (go_ret <;> exact ⟨by simp [*], by first | exact hb.out | exact ((Own.start w).skip ((Fr.none_alloc w _).drewN _)).bel⟩)

/-- The Agg of one value. -/
def aggOne (v : Int) : AggV := ⟨1, v / 9223372036854775808, v % 18446744073709551616, v, v⟩
theorem one_any (v : Int) (hv : in64 v) (w : World) : Calls Tryz.prog 176 #[.int .i64 v] w fun r w' => r = .returned (aggOne v).val ∧ Below w.heap.size w w' := by
  obtain ⟨h0, h1⟩ := hv
  have hu : IntKind.u64.wrap v = v % 18446744073709551616 := by simp [IntKind.wrap, IntKind.signed, IntKind.bits]
  unfold AggV.val aggOne
  go_enter Tryz.func176, Tryz.ntmps176
  go_wp2_with fail
  refine bodyPost_ret (v := .agg #[.int .i64 1, .int .i64 (v / 9223372036854775808), .int .u64 (v % 18446744073709551616), .int .i64 v, .int .i64 v]) ?_ rfl ⟨rfl, ((Own.start w).skip (Fr.none_alloc w _)).bel⟩
  simp [results, Tryz.results176, go_sem]
theorem both_zero (a b : AggV) (ha : a.count = 0) (w : World) : Calls Tryz.prog 175 #[a.val, b.val] w fun r w' => r = .returned b.val ∧ Below w.heap.size w w' := by
  obtain ⟨c, h, l, m, x⟩ := a
  obtain ⟨c', h', l', m', x'⟩ := b
  simp only at ha
  subst ha
  unfold AggV.val
  go_enter Tryz.func175, Tryz.ntmps175
  go_wp2_with fail
  refine bodyPost_ret (v := .agg #[.int .i64 c', .int .i64 h', .int .u64 l', .int .i64 m', .int .i64 x']) ?_ rfl ⟨rfl, ((((Own.start w).skip (Fr.none_alloc w _)).skip (Fr.none_alloc _ _)).skip (Fr.none_alloc _ _)).bel⟩
  simp [results, Tryz.results175, go_sem]

set_option maxRecDepth 100000 in
set_option maxHeartbeats 2000000 in
/-- agg.Of of one value. -/
theorem ofone_any (v : Int) (hv : in64 v) (A : Option Addr) (c : Nat) (w : World) (hr : Rd w 1 A 1 [.int .i64 v]) :
    Calls Tryz.prog 80 #[.slice A 1 c] w fun r w' => r = .returned (aggOne v).val ∧ Below w.heap.size w w' := by
  have H1 : Hid (∀ w', Calls Tryz.prog 176 #[.int .i64 v] w' fun r w'' => r = .returned (aggOne v).val ∧ Below w'.heap.size w' w'') := fun w' => one_any v hv w'
  have H2 : Hid (∀ w', Calls Tryz.prog 175 #[agg0.val, (aggOne v).val] w' fun r w'' => r = .returned (aggOne v).val ∧ Below w'.heap.size w' w'') := fun w' => both_zero agg0 (aggOne v) rfl w'
  obtain ⟨ad, rfl, hc⟩ := hr.2 (by decide)
  have c0 := hc 0 _ rfl
  have c0' : w.cell? ad = some (.int .i64 v) := by have := c0; simp only [Addr.add, if_true] at this; exact this
  have c2 := fun o1 o2 => (Fr.none_alloc (w.alloc o1) o2).cell ((Fr.none_alloc w o1).cell c0' (fun h => h)) (fun h => h)
  clear hr hc c0 hv c0'
  unfold AggV.val aggOne agg0 at H2
  unfold AggV.val aggOne at H1
  unfold AggV.val aggOne
  obtain ⟨h, hh⟩ : ∃ h, v / 9223372036854775808 = h := ⟨_, rfl⟩
  obtain ⟨l, hl⟩ : ∃ l, v % 18446744073709551616 = l := ⟨_, rfl⟩
  rw [hh, hl] at H1 H2
  rw [hh, hl]
  clear hh hl
  simp only at H1 H2
  go_enter Tryz.func80, Tryz.ntmps80
  go_wp2_with fail
  refine wp_loop_rounds 2 ?_
  rw [rounds_succ]
  go_wp2_with fail
  obtain ⟨W1, hW1⟩ : ∃ W1, W1 = (w.alloc (.cells #[.int .i64 0, .int .i64 0, .int .u64 0, .int .i64 0, .int .i64 0] 28)).alloc (.cells #[.int .i64 0, .int .i64 0, .int .u64 0, .int .i64 0, .int .i64 0] 28) := ⟨_, rfl⟩
  rw [← hW1]
  have b0 : Blk W1 w.heap.size 28 #[.int .i64 0, .int .i64 0, .int .u64 0, .int .i64 0, .int .i64 0] := hW1 ▸ (Blk.new _ _ _).alloc _
  have b1 : Blk W1 (w.heap.size + 1) 28 #[.int .i64 0, .int .i64 0, .int .u64 0, .int .i64 0, .int .i64 0] := hW1 ▸ Blk.new' (by simp) _ _
  have o1 : Own w W1 (fun _ => False) := hW1 ▸ ((Own.start w).skip (Fr.none_alloc _ _)).skip (Fr.none_alloc _ _)
  have B0 := Lib.hid b0
  have B1 := Lib.hid b1
  have O1 := Lib.hid o1
  clear b0 b1 o1 hW1 c2
  have HS : Hid (∀ w', Fr (fun _ => False) W1 w' → (w'.cell? ⟨w.heap.size + 1, 0, none⟩ = some (.int .i64 0) ∧ w'.cell? ⟨w.heap.size + 1, 1, none⟩ = some (.int .i64 0) ∧ w'.cell? ⟨w.heap.size + 1, 2, none⟩ = some (.int .u64 0) ∧ w'.cell? ⟨w.heap.size + 1, 3, none⟩ = some (.int .i64 0) ∧ w'.cell? ⟨w.heap.size + 1, 4, none⟩ = some (.int .i64 0)) ∧ (w'.frozen? ⟨w.heap.size + 1, 0, none⟩ = false ∧ w'.frozen? ⟨w.heap.size + 1, 1, none⟩ = false ∧ w'.frozen? ⟨w.heap.size + 1, 2, none⟩ = false ∧ w'.frozen? ⟨w.heap.size + 1, 3, none⟩ = false ∧ w'.frozen? ⟨w.heap.size + 1, 4, none⟩ = false)) :=
    fun w' h => by
      have b := B1.out.fr h (fun h => h)
      exact ⟨⟨b.cell 0, b.cell 1, b.cell 2, b.cell 3, b.cell 4⟩, b.frozen 0, b.frozen 1, b.frozen 2, b.frozen 3, b.frozen 4⟩
  obtain ⟨⟨a0, a1, a2, a3, a4⟩, _⟩ := HS.out W1.drew ((Fr.refl _ _).drew)
  have F0 : Fr (fun _ => False) W1 W1.drew := (Fr.refl _ _).drew
  go_region_with (first | (go_at_call 176; refine (H1.out _).mono ?_; rintro r w5 ⟨rfl, b5⟩; have f5 := F0.trans (Fr.b0 b5) (fun _ h => h.elim); clear b5; clear a0 a1 a2 a3 a4; obtain ⟨⟨a0, a1, a2, a3, a4⟩, _⟩ := HS.out w5 f5) | (go_at_call 175; refine (H2.out _).mono ?_; rintro r w6 ⟨rfl, b6⟩; have f6 := f5.trans (Fr.b0 b6) (fun _ h => h.elim); clear b6; clear a0 a1 a2 a3 a4; obtain ⟨⟨a0, a1, a2, a3, a4⟩, g0, g1, g2, g3, g4⟩ := HS.out w6 f6))
  all_goals
    obtain ⟨W2, hW2⟩ : ∃ W2, W2 = ((((w6.setCell ⟨w.heap.size + 1, 0, none⟩ (.int .i64 1)).setCell ⟨w.heap.size + 1, 1, none⟩ (.int .i64 h)).setCell ⟨w.heap.size + 1, 2, none⟩ (.int .u64 l)).setCell ⟨w.heap.size + 1, 3, none⟩ (.int .i64 v)).setCell ⟨w.heap.size + 1, 4, none⟩ (.int .i64 v) := ⟨_, rfl⟩
    rw [← hW2]
    have B2 : Blk W2 (w.heap.size + 1) 28 #[.int .i64 1, .int .i64 h, .int .u64 l, .int .i64 v, .int .i64 v] := hW2 ▸ (B1.out.fr f6 (fun h => h)).set5
    have F2 : Fr (fun k => k = w.heap.size + 1) W1 W2 := hW2 ▸ Fr.set5 (F := fun k => k = w.heap.size + 1) (g := w.heap.size + 1) (f6.mono (fun _ h => h.elim)) (.inl rfl) _ _ _ _ _
    have R2 := B0.out.fr F2 (by omega)
    have O2 := Lib.hid ((O1.out.also (G := fun k => k = w.heap.size + 1) (fun k hk => by omega)).fr F2)
    clear a0 a1 a2 a3 a4 g0 g1 g2 g3 g4 hW2 F0 f5 f6 F2
    have a0 := B2.cell 0
    have a1 := B2.cell 1
    have a2 := B2.cell 2
    have a3 := B2.cell 3
    have a4 := B2.cell 4
    have b0 := R2.cell 0
    have b1 := R2.cell 1
    have b2 := R2.cell 2
    have b3 := R2.cell 3
    have b4 := R2.cell 4
    have g0 := R2.frozen 0
    have g1 := R2.frozen 1
    have g2 := R2.frozen 2
    have g3 := R2.frozen 3
    have g4 := R2.frozen 4
    simp only [List.getElem?_toArray, List.getElem?_cons_succ, List.getElem?_cons_zero] at a0 a1 a2 a3 a4 b0 b1 b2 b3 b4
    clear B2 R2
    go_wp2_with fail
    try rw [rounds_succ]
    go_wp2_with fail
    have o3 := (O2.out.also (G := fun k => k = w.heap.size) (fun k hk => by omega)).fr (Fr.set5 (F := fun k => k = w.heap.size) (g := w.heap.size) (Fr.refl _ W2) (.inl rfl) (.int .i64 1) (.int .i64 h) (.int .u64 l) (.int .i64 v) (.int .i64 v))
    refine bodyPost_ret (v := .agg #[.int .i64 1, .int .i64 h, .int .u64 l, .int .i64 v, .int .i64 v]) ?_ rfl ⟨rfl, o3.bel⟩
    simp [results, Tryz.results80, go_sem, *]

/-- An Agg's bytes. -/
def aggB (a : AggV) : List UInt8 := le8 [a.count, a.hi] ++ le a.lo.toNat 8 ++ le8 [a.min, a.max]
theorem aggB_len (a : AggV) : (aggB a).length = 40 := by simp [aggB, le8_len, le_length]

end Go.Proofs.YtfhhepfkjndkgaaGreat
namespace Go.Proofs.YtfhhepfkjndkgaaGreat
set_option linter.all false
open Go.RowKit

/-- What five words of bytes tell. -/
def aggOf (l : List UInt8) : AggV := ⟨sgn (ofLe (l.take 8)), sgn (ofLe ((l.drop 8).take 8)), ofLe ((l.drop 16).take 8), sgn (ofLe ((l.drop 24).take 8)), sgn (ofLe ((l.drop 32).take 8))⟩
def aggGetV (l : List UInt8) : AggV × Int := if l.length = 40 then (bif aggOk (aggOf l) then (aggOf l, 0) else (agg0, 6)) else (agg0, 5)
theorem uTake_in {b : List UInt8} {n : Nat} (h : n ≤ b.length) : uTake 0 b n = (0, b.drop n, b.take n) := by
  unfold uTake
  rw [if_pos rfl, if_neg (by omega)]

end Go.Proofs.YtfhhepfkjndkgaaGreat
namespace Go.Proofs.YtfhhepfkjndkgaaGreat
set_option linter.all false
open Go.RowKit

/-- An api.Record. -/
structure RecV where
  name : ByteArray
  start : Int
  agg : AggV
def RecV.cells (r : RecV) : List Value := [.string r.name, .int .i64 r.start, .int .i64 r.agg.count, .int .i64 r.agg.hi, .int .u64 r.agg.lo, .int .i64 r.agg.min, .int .i64 r.agg.max]
def RecV.val (r : RecV) : Value := .agg #[.string r.name, .int .i64 r.start, .int .i64 r.agg.count, .int .i64 r.agg.hi, .int .u64 r.agg.lo, .int .i64 r.agg.min, .int .i64 r.agg.max]
def RecV.wf (r : RecV) : Prop := in64 r.start ∧ r.agg.wf ∧ r.name.size ≤ maxLen
def timeB (t : Int) : Bool := decide (0 ≤ t) && decide (t ≤ 1099511627776)
def recOk (r : RecV) : Bool := validB r.name && timeB r.start && aggOk r.agg

/-- A record's bytes. -/
def recB (r : RecV) : List UInt8 := nameB r.name ++ le8 [r.start] ++ aggB r.agg
theorem recB_len (r : RecV) (h : r.name.size ≤ 15) : (recB r).length = 64 := by simp [recB, nameB_len _ h, le8_len, aggB_len]
theorem bstr_append (a b : List UInt8) : bstr a ++ bstr b = bstr (a ++ b) := by
  simp [bstr, ByteArray.ext_iff]
theorem validB_le {s : ByteArray} (h : validB s = true) : s.size ≤ 15 := by
  rcases Nat.lt_or_ge 15 s.size with h1 | h1
  · rw [validB_long h1] at h; cases h
  · exact h1
theorem pNames_one {l : List UInt8} {s : ByteArray} (h : s.size ≤ 15) : pNames 0 l [s] = (0, l ++ nameB s) := by
  simp only [pNames]
  simp; omega

end Go.Proofs.YtfhhepfkjndkgaaGreat
namespace Go.Proofs.YtfhhepfkjndkgaaGreat
set_option linter.all false
open Go.RowKit

def rcells (l : List RecV) : List Value := l.flatMap RecV.cells
theorem rec_len (r : RecV) : r.cells.length = 7 := rfl
theorem Rd.rec_ {w : World} {n k : Nat} {A : Option Addr} {l : List RecV} (h : Rd w 7 A n (rcells l)) (hk : k < n) :
    ∃ ad r, A = some ad ∧ l[k]? = some r ∧ w.cell? (ad.add (k * 7)) = some (.string r.name) ∧ w.cell? ⟨(ad.add (k * 7)).block, (ad.add (k * 7)).off + 1, none⟩ = some (.int .i64 r.start) ∧ w.cell? ⟨(ad.add (k * 7)).block, (ad.add (k * 7)).off + 2, none⟩ = some (.int .i64 r.agg.count) ∧ w.cell? ⟨(ad.add (k * 7)).block, (ad.add (k * 7)).off + 3, none⟩ = some (.int .i64 r.agg.hi) ∧ w.cell? ⟨(ad.add (k * 7)).block, (ad.add (k * 7)).off + 4, none⟩ = some (.int .u64 r.agg.lo) ∧ w.cell? ⟨(ad.add (k * 7)).block, (ad.add (k * 7)).off + 5, none⟩ = some (.int .i64 r.agg.min) ∧ w.cell? ⟨(ad.add (k * 7)).block, (ad.add (k * 7)).off + 6, none⟩ = some (.int .i64 r.agg.max) := by
  obtain ⟨ad, r, e, hr, hc⟩ := Rd.elem rec_len h hk (by decide)
  refine ⟨ad, r, e, hr, ?_, ?_, ?_, ?_, ?_, ?_, ?_⟩
  · have := hc 0 _ rfl; rwa [addr_zero] at this
  · have := hc 1 _ rfl; rwa [add_pos _ _ (by decide)] at this
  · have := hc 2 _ rfl; rwa [add_pos _ _ (by decide)] at this
  · have := hc 3 _ rfl; rwa [add_pos _ _ (by decide)] at this
  · have := hc 4 _ rfl; rwa [add_pos _ _ (by decide)] at this
  · have := hc 5 _ rfl; rwa [add_pos _ _ (by decide)] at this
  · have := hc 6 _ rfl; rwa [add_pos _ _ (by decide)] at this
theorem Rd.recs_len {w : World} {n : Nat} {A : Option Addr} {l : List RecV} (h : Rd w 7 A n (rcells l)) : l.length = n := Rd.elems_len rec_len (by decide) h
theorem validB_of {r : RecV} (h : recOk r = true) : r.name.size ≤ 15 := by
  unfold recOk at h
  simp only [Bool.and_eq_true] at h
  exact validB_le h.1.1
theorem recsB_len {l : List RecV} (h : l.all recOk = true) : (l.flatMap recB).length = 64 * l.length := by
  induction l with
  | nil => rfl
  | cons r l ih =>
    rw [List.all_cons, Bool.and_eq_true] at h
    rw [List.flatMap_cons, List.length_append, ih h.2, recB_len r (validB_of h.1), List.length_cons]
    omega
theorem all_snoc {α : Type} {p : α → Bool} {l : List α} {k : Nat} {x : α} (h : l[k]? = some x) : (l.take (k + 1)).all p = ((l.take k).all p && p x) := by
  rw [take_snoc h, List.all_append]; simp
theorem all_false {α : Type} {p : α → Bool} {l : List α} {k : Nat} {x : α} (h : l[k]? = some x) (hp : p x = false) : l.all p = false := by
  rw [List.all_eq_false]
  exact ⟨x, mem_of_get h, by simp [hp]⟩
theorem flat_snoc {α β : Type} {f : α → List β} {l : List α} {k : Nat} {x : α} (h : l[k]? = some x) : (l.take (k + 1)).flatMap f = (l.take k).flatMap f ++ f x := by
  rw [take_snoc h, List.flatMap_append]; simp

end Go.Proofs.YtfhhepfkjndkgaaGreat
namespace Go.Proofs.YtfhhepfkjndkgaaGreat
set_option linter.all false
open Go.RowKit

/-- An api.Sample. -/
structure SampV where
  name : ByteArray
  time : Int
  value : Int
def SampV.cells (s : SampV) : List Value := [.string s.name, .int .i64 s.time, .int .i64 s.value]
def SampV.val (s : SampV) : Value := .agg #[.string s.name, .int .i64 s.time, .int .i64 s.value]
def SampV.wf (s : SampV) : Prop := in64 s.time ∧ in64 s.value ∧ s.name.size ≤ maxLen
def sampOk (s : SampV) : Bool := validB s.name && timeB s.time
def sampB (s : SampV) : List UInt8 := nameB s.name ++ le8 [s.time, s.value]
theorem sampB_len (s : SampV) (h : s.name.size ≤ 15) : (sampB s).length = 32 := by simp [sampB, nameB_len _ h, le8_len]
def scells (l : List SampV) : List Value := l.flatMap SampV.cells
theorem samp_len (s : SampV) : s.cells.length = 3 := rfl
theorem Rd.samp_ {w : World} {n k : Nat} {A : Option Addr} {l : List SampV} (h : Rd w 3 A n (scells l)) (hk : k < n) :
    ∃ ad s, A = some ad ∧ l[k]? = some s ∧ w.cell? (ad.add (k * 3)) = some (.string s.name) ∧ w.cell? ⟨(ad.add (k * 3)).block, (ad.add (k * 3)).off + 1, none⟩ = some (.int .i64 s.time) ∧ w.cell? ⟨(ad.add (k * 3)).block, (ad.add (k * 3)).off + 2, none⟩ = some (.int .i64 s.value) := by
  obtain ⟨ad, s, e, hr, hc⟩ := Rd.elem samp_len h hk (by decide)
  refine ⟨ad, s, e, hr, ?_, ?_, ?_⟩
  · have := hc 0 _ rfl; rwa [addr_zero] at this
  · have := hc 1 _ rfl; rwa [add_pos _ _ (by decide)] at this
  · have := hc 2 _ rfl; rwa [add_pos _ _ (by decide)] at this
theorem Rd.samps_len {w : World} {n : Nat} {A : Option Addr} {l : List SampV} (h : Rd w 3 A n (scells l)) : l.length = n := Rd.elems_len samp_len (by decide) h
theorem validB_ofs {s : SampV} (h : sampOk s = true) : s.name.size ≤ 15 := by
  unfold sampOk at h
  simp only [Bool.and_eq_true] at h
  exact validB_le h.1
theorem sampsB_len {l : List SampV} (h : l.all sampOk = true) : (l.flatMap sampB).length = 32 * l.length := by
  induction l with
  | nil => rfl
  | cons r l ih =>
    rw [List.all_cons, Bool.and_eq_true] at h
    rw [List.flatMap_cons, List.length_append, ih h.2, sampB_len r (validB_ofs h.1), List.length_cons]
    omega

end Go.Proofs.YtfhhepfkjndkgaaGreat
namespace Go.Proofs.YtfhhepfkjndkgaaGreat
set_option linter.all false
open Go.RowKit

theorem Blk.set26 {w : World} {g : Nat} {t : TypeId} {x0 x1 a0 b0 c0 d0 e0 a b c d e : Value} (h : Blk w g t #[x0, x1, a0, b0, c0, d0, e0]) : Blk (((((w.setCell ⟨g, 2, none⟩ a).setCell ⟨g, 3, none⟩ b).setCell ⟨g, 4, none⟩ c).setCell ⟨g, 5, none⟩ d).setCell ⟨g, 6, none⟩ e) g t #[x0, x1, a, b, c, d, e] := by
  have := ((((h.set_ 2 a).set_ 3 b).set_ 4 c).set_ 5 d).set_ 6 e
  simpa using this
theorem Fr.set26 {w1 w : World} {F : Nat → Prop} (h : Fr F w1 w) {g : Nat} (hg : F g ∨ w1.heap.size ≤ g) (a b c d e : Value) : Fr F w1 (((((w.setCell ⟨g, 2, none⟩ a).setCell ⟨g, 3, none⟩ b).setCell ⟨g, 4, none⟩ c).setCell ⟨g, 5, none⟩ d).setCell ⟨g, 6, none⟩ e) :=
  ((((h.setCell (p := ⟨g, 2, none⟩) hg a).setCell (p := ⟨g, 3, none⟩) hg b).setCell (p := ⟨g, 4, none⟩) hg c).setCell (p := ⟨g, 5, none⟩) hg d).setCell (p := ⟨g, 6, none⟩) hg e
theorem Fr.set7 {w1 w : World} {F : Nat → Prop} (h : Fr F w1 w) {g : Nat} (hg : F g ∨ w1.heap.size ≤ g) (x y a b c d e : Value) : Fr F w1 (((((((w.setCell ⟨g, 0, none⟩ x).setCell ⟨g, 1, none⟩ y).setCell ⟨g, 2, none⟩ a).setCell ⟨g, 3, none⟩ b).setCell ⟨g, 4, none⟩ c).setCell ⟨g, 5, none⟩ d).setCell ⟨g, 6, none⟩ e) :=
  ((h.setCell (p := ⟨g, 0, none⟩) hg x).setCell (p := ⟨g, 1, none⟩) hg y).set26 hg a b c d e
theorem Blk.set7 {w : World} {g : Nat} {t : TypeId} {x0 y0 a0 b0 c0 d0 e0 x y a b c d e : Value} (h : Blk w g t #[x0, y0, a0, b0, c0, d0, e0]) : Blk (((((((w.setCell ⟨g, 0, none⟩ x).setCell ⟨g, 1, none⟩ y).setCell ⟨g, 2, none⟩ a).setCell ⟨g, 3, none⟩ b).setCell ⟨g, 4, none⟩ c).setCell ⟨g, 5, none⟩ d).setCell ⟨g, 6, none⟩ e) g t #[x, y, a, b, c, d, e] := by
  have := ((((((h.set_ 0 x).set_ 1 y).set_ 2 a).set_ 3 b).set_ 4 c).set_ 5 d).set_ 6 e
  simpa using this

/-- What rec.get reads: the record, and agg.Get's error. -/
def recRd (l : List UInt8) : RecV × Int :=
  let n := uName 0 l
  let t := uTake n.1 n.2.1 8
  let r := uTake t.1 t.2.1 t.2.1.length
  let a := aggGetV r.2.2
  (⟨bstr n.2.2, sgn (ofLe t.2.2), a.1⟩, a.2)
def rec0 : RecV := ⟨{ data := #[] }, 0, agg0⟩
def getOk (l : List UInt8) : Bool := decide ((recRd l).2 = 0) && recOk (recRd l).1 && decide (recB (recRd l).1 = l)
theorem ofLe_lt64 {l : List UInt8} (h : l.length ≤ 8) : ofLe l < 18446744073709551616 := by
  have h1 := ofLe_lt l
  have h2 : 256 ^ l.length ≤ 256 ^ 8 := Nat.pow_le_pow_right (by decide) h
  have h3 : (256 : Nat) ^ 8 = 18446744073709551616 := by decide
  omega
theorem sgn_in {n : Nat} (h : n < 18446744073709551616) : in64 (sgn n) := by
  unfold sgn in64
  split <;> omega
theorem sgn8_in {l : List UInt8} (h : l.length ≤ 8) : in64 (sgn (ofLe l)) := sgn_in (ofLe_lt64 h)
theorem take8_len (l : List UInt8) : (l.take 8).length ≤ 8 := by rw [List.length_take]; omega
theorem aggGet_wf (l : List UInt8) : (aggGetV l).1.wf := by
  have h0 : agg0.wf := by unfold agg0 AggV.wf in64; decide
  unfold aggGetV
  split
  · cases aggOk (aggOf l)
    · exact h0
    · exact ⟨sgn8_in (take8_len _), sgn8_in (take8_len _), ⟨by show (0 : Int) ≤ ((ofLe _ : Nat) : Int); omega, by have := ofLe_lt64 (take8_len (l.drop 16)); show ((ofLe ((l.drop 16).take 8) : Nat) : Int) ≤ _; omega⟩, sgn8_in (take8_len _), sgn8_in (take8_len _)⟩
  · exact h0
theorem uName_len (e : Int) (l : List UInt8) : (uName e l).2.2.length ≤ 16 := by
  have h := uTake_len e l 16
  unfold uName
  split
  · simp
  · split
    · rw [List.length_take, List.length_drop]; omega
    · simp
theorem recRd_wf (l : List UInt8) : (recRd l).1.wf := by
  refine ⟨sgn8_in (uTake_len _ _ 8), aggGet_wf _, ?_⟩
  show (bstr (uName 0 l).2.2).size ≤ maxLen
  rw [bstr_size]
  have := uName_len 0 l
  unfold maxLen; omega
theorem uTake_rest (e : Int) (b : List UInt8) (n : Nat) : (uTake e b n).2.1.length ≤ b.length := by
  unfold uTake
  split
  · split
    · exact Nat.le_refl _
    · show (b.drop n).length ≤ _; rw [List.length_drop]; omega
  · exact Nat.le_refl _
theorem uName_rest (e : Int) (b : List UInt8) : (uName e b).2.1.length ≤ b.length := by
  have h := uTake_rest e b 16
  unfold uName
  split
  · exact h
  · split <;> exact h

end Go.Proofs.YtfhhepfkjndkgaaGreat
namespace Go.Proofs.YtfhhepfkjndkgaaGreat
set_option linter.all false
open Go.RowKit

def chunk (size : Nat) (l : List UInt8) (k : Nat) : List UInt8 := (l.drop (size * k)).take size
/-- The records that bytes tell, the first n. -/
def recsRd (l : List UInt8) (n : Nat) : List RecV := (List.range n).map fun k => (recRd (chunk 64 l k)).1
def recsOk (l : List UInt8) (n : Nat) : Bool := (List.range n).all fun k => getOk (chunk 64 l k)
theorem recsRd_snoc (l : List UInt8) (k : Nat) : recsRd l (k + 1) = recsRd l k ++ [(recRd (chunk 64 l k)).1] := by simp [recsRd, List.range_succ]
theorem recsOk_snoc (l : List UInt8) (k : Nat) : recsOk l (k + 1) = (recsOk l k && getOk (chunk 64 l k)) := by simp [recsOk, List.range_succ]
theorem recsOk_false {l : List UInt8} {k n : Nat} (hk : k < n) (h : getOk (chunk 64 l k) = false) : recsOk l n = false := by
  unfold recsOk
  rw [List.all_eq_false]
  exact ⟨k, List.mem_range.2 hk, by simp [h]⟩
theorem info_rec : (Tryz.prog.info? 30).map (fun i => (i.zero, i.size, i.bytes)) = some (some (.agg #[.string ByteArray.empty, .int .i64 0, .int .i64 0, .int .i64 0, .int .u64 0, .int .i64 0, .int .i64 0]), 7, 64) := by kernel_rfl
theorem adF_rowv {A : Option Addr} {n c : Nat} : ∀ k, adF A n k → rowF (.slice A n c) k := by
  rintro k ⟨_, ad, rfl, rfl⟩
  rfl

theorem info_samp : (Tryz.prog.info? 67).map (fun i => (i.zero, i.size, i.bytes)) = some (some (.agg #[.string ByteArray.empty, .int .i64 0, .int .i64 0]), 3, 32) := by kernel_rfl
theorem rcells_one (l : List RecV) : ∀ u ∈ rcells l, u.oneCell' = true := by
  intro u hu
  obtain ⟨r, _, hu⟩ := List.mem_flatMap.1 hu
  simp only [RecV.cells, List.mem_cons, List.not_mem_nil, or_false] at hu
  rcases hu with rfl | rfl | rfl | rfl | rfl | rfl | rfl <;> rfl
theorem scells_one (l : List SampV) : ∀ u ∈ scells l, u.oneCell' = true := by
  intro u hu
  obtain ⟨r, _, hu⟩ := List.mem_flatMap.1 hu
  simp only [SampV.cells, List.mem_cons, List.not_mem_nil, or_false] at hu
  rcases hu with rfl | rfl | rfl <;> rfl
theorem rcells_append (a b : List RecV) : rcells (a ++ b) = rcells a ++ rcells b := by simp [rcells]
theorem scells_append (a b : List SampV) : scells (a ++ b) = scells a ++ scells b := by simp [scells]
end Go.Proofs.YtfhhepfkjndkgaaGreat
namespace Go.Proofs.YtfhhepfkjndkgaaGreat
set_option linter.all false
open Go.RowKit

theorem le8_two (x y : Int) : le8 [x, y] = le (u64 x) 8 ++ le (u64 y) 8 := by rw [le8_cons, le8_cons]; simp [le8]
theorem le8_one (x : Int) : le8 [x] = le (u64 x) 8 := by rw [le8_cons]; simp [le8]
theorem sgn_le8 {x : Int} (h : in64 x) : sgn (ofLe (le (u64 x) 8)) = x := by rw [ofLe_le8 _ (u64_lt x), sgn_u64 h.1 h.2]
theorem tk8 (x : Nat) (t : List UInt8) : (le x 8 ++ t).take 8 = le x 8 := List.take_left' (le_length x 8)
theorem dr8 (x k : Nat) (t : List UInt8) : (le x 8 ++ t).drop (8 + k) = t.drop k := by
  rw [List.drop_append, le_length, List.drop_eq_nil_of_le (by rw [le_length]; omega), List.nil_append, Nat.add_sub_cancel_left]
theorem tk8' (x : Nat) : (le x 8).take 8 = le x 8 := List.take_of_length_le (by rw [le_length]; omega)
theorem aggOf_aggB {a : AggV} (h : a.wf) : aggOf (aggB a) = a := by
  obtain ⟨c, hi, lo, m, x⟩ := a
  obtain ⟨h1, h2, h3, h4, h5⟩ := h
  simp only at h1 h2 h3 h4 h5
  unfold aggOf aggB
  simp only
  rw [le8_two, le8_two]
  simp only [List.append_assoc]
  rw [tk8, show (8 : Nat) = 8 + 0 from rfl, dr8, show (16 : Nat) = 8 + (8 + 0) from rfl, dr8, dr8, show (24 : Nat) = 8 + (8 + (8 + 0)) from rfl, dr8, dr8, dr8, show (32 : Nat) = 8 + (8 + (8 + (8 + 0))) from rfl, dr8, dr8, dr8, dr8]
  simp only [List.drop_zero, Nat.add_zero]
  rw [tk8, tk8, tk8, tk8', sgn_le8 h1, sgn_le8 h2, sgn_le8 h4, sgn_le8 h5, ofLe_le8 _ (by omega)]
  congr 1
  omega
theorem aggGet_back {a : AggV} (h : a.wf) (hok : aggOk a = true) : aggGetV (aggB a) = (a, 0) := by
  unfold aggGetV
  rw [if_pos (aggB_len a), aggOf_aggB h, hok]
  rfl
theorem bstr_toList (s : ByteArray) : bstr s.data.toList = s := by simp [bstr]
theorem uTake_full (t : List UInt8) : uTake 0 t t.length = (0, [], t) := by rw [uTake_in (Nat.le_refl _), List.drop_length, List.take_length]
theorem recOk_parts {r : RecV} (h : recOk r = true) : validB r.name = true ∧ timeB r.start = true ∧ aggOk r.agg = true := by
  unfold recOk at h; simp only [Bool.and_eq_true] at h; exact ⟨h.1.1, h.1.2, h.2⟩
theorem recRd_back {r : RecV} (h : r.wf) (hok : recOk r = true) : recRd (recB r) = (r, 0) := by
  obtain ⟨h1, h2, h3⟩ := recOk_parts hok
  have hn := validB_le h1
  unfold recRd recB
  rw [List.append_assoc, nameB_back hn]
  simp only
  rw [le8_one, uTake_app (le_length _ 8)]
  simp only
  rw [uTake_full]
  simp only
  rw [aggGet_back h.2.1 h3, sgn_le8 h.1, bstr_toList]
theorem getOk_back {r : RecV} (h : r.wf) (hok : recOk r = true) : getOk (recB r) = true := by
  unfold getOk
  rw [recRd_back h hok]
  simp [hok]
theorem chunk_flat {α : Type} {f : α → List UInt8} {size : Nat} {l : List α} (hf : ∀ x ∈ l, (f x).length = size) {k : Nat} {x : α} (h : l[k]? = some x) : chunk size (l.flatMap f) k = f x := by
  induction l generalizing k with
  | nil => simp at h
  | cons a l ih =>
    have ha := hf a (.head _)
    unfold chunk at ih ⊢
    rw [List.flatMap_cons]
    rcases k with _ | k
    · simp only [List.getElem?_cons_zero, Option.some.injEq] at h
      subst h
      rw [Nat.mul_zero, List.drop_zero, List.take_left' ha]
    · simp only [List.getElem?_cons_succ] at h
      rw [Nat.mul_succ, List.drop_append, ha, List.drop_eq_nil_of_le (by rw [ha]; omega), List.nil_append, show size * k + size - size = size * k by omega]
      exact ih (fun y hy => hf y (.tail _ hy)) h
theorem all_mem {α : Type} {p : α → Bool} {l : List α} (h : l.all p = true) {x : α} (hx : x ∈ l) : p x = true := (List.all_eq_true.1 h) x hx
theorem recs_len {l : List RecV} (hok : l.all recOk = true) : ∀ r ∈ l, (recB r).length = 64 := fun r hr => recB_len r (validB_of (all_mem hok hr))
theorem recsRd_back {l : List RecV} (hw : ∀ r ∈ l, r.wf) (hok : l.all recOk = true) : recsRd (l.flatMap recB) l.length = l := by
  apply List.ext_getElem?
  intro k
  unfold recsRd
  rw [List.getElem?_map]
  rcases Nat.lt_or_ge k l.length with hk | hk
  · have h := List.getElem?_eq_getElem hk
    have hm := mem_of_get h
    rw [List.getElem?_range hk, Option.map_some, chunk_flat (recs_len hok) h, recRd_back (hw _ hm) (all_mem hok hm), h]
  · rw [List.getElem?_eq_none (by simpa using hk), List.getElem?_eq_none hk]; rfl
theorem recsOk_back {l : List RecV} (hw : ∀ r ∈ l, r.wf) (hok : l.all recOk = true) : recsOk (l.flatMap recB) l.length = true := by
  unfold recsOk
  rw [List.all_eq_true]
  intro k hk
  have hk := List.mem_range.1 hk
  have h := List.getElem?_eq_getElem hk
  have hm := mem_of_get h
  rw [chunk_flat (recs_len hok) h, getOk_back (hw _ hm) (all_mem hok hm)]

/-- What the bytes of a sample tell. -/
def sampRd (l : List UInt8) : SampV :=
  let n := uName 0 l
  let t := uTake n.1 n.2.1 8
  let v := uTake t.1 t.2.1 8
  ⟨bstr n.2.2, sgn (ofLe t.2.2), sgn (ofLe v.2.2)⟩
def sgetOk (l : List UInt8) : Bool := sampOk (sampRd l) && decide (sampB (sampRd l) = l)
theorem sampRd_wf (l : List UInt8) : (sampRd l).wf := by
  refine ⟨sgn8_in (uTake_len _ _ 8), sgn8_in (uTake_len _ _ 8), ?_⟩
  show (bstr (uName 0 l).2.2).size ≤ maxLen
  rw [bstr_size]
  have := uName_len 0 l
  unfold maxLen; omega
def sampsRd (l : List UInt8) (n : Nat) : List SampV := (List.range n).map fun k => sampRd (chunk 32 l k)
def sampsOk (l : List UInt8) (n : Nat) : Bool := (List.range n).all fun k => sgetOk (chunk 32 l k)
theorem sampsRd_snoc (l : List UInt8) (k : Nat) : sampsRd l (k + 1) = sampsRd l k ++ [sampRd (chunk 32 l k)] := by simp [sampsRd, List.range_succ]
theorem sampsOk_snoc (l : List UInt8) (k : Nat) : sampsOk l (k + 1) = (sampsOk l k && sgetOk (chunk 32 l k)) := by simp [sampsOk, List.range_succ]
theorem sampsOk_false {l : List UInt8} {k n : Nat} (hk : k < n) (h : sgetOk (chunk 32 l k) = false) : sampsOk l n = false := by
  unfold sampsOk
  rw [List.all_eq_false]
  exact ⟨k, List.mem_range.2 hk, by simp [h]⟩
theorem sampRd_back {s : SampV} (h : s.wf) (hok : sampOk s = true) : sampRd (sampB s) = s := by
  have h1 := hok
  unfold sampOk at h1
  simp only [Bool.and_eq_true] at h1
  have hn := validB_le h1.1
  unfold sampRd sampB
  rw [nameB_back hn]
  simp only
  rw [le8_two, uTake_app (le_length _ 8)]
  simp only
  rw [show le (u64 s.value) 8 = le (u64 s.value) 8 ++ [] by simp, uTake_app (le_length _ 8)]
  simp only
  rw [sgn_le8 h.1, sgn_le8 h.2.1, bstr_toList]
theorem sgetOk_back {s : SampV} (h : s.wf) (hok : sampOk s = true) : sgetOk (sampB s) = true := by
  unfold sgetOk
  rw [sampRd_back h hok]
  simp [hok]
theorem samps_lens {l : List SampV} (hok : l.all sampOk = true) : ∀ r ∈ l, (sampB r).length = 32 := fun r hr => sampB_len r (validB_ofs (all_mem hok hr))
theorem sampsRd_back {l : List SampV} (hw : ∀ r ∈ l, r.wf) (hok : l.all sampOk = true) : sampsRd (l.flatMap sampB) l.length = l := by
  apply List.ext_getElem?
  intro k
  unfold sampsRd
  rw [List.getElem?_map]
  rcases Nat.lt_or_ge k l.length with hk | hk
  · have h := List.getElem?_eq_getElem hk
    have hm := mem_of_get h
    rw [List.getElem?_range hk, Option.map_some, chunk_flat (samps_lens hok) h, sampRd_back (hw _ hm) (all_mem hok hm), h]
  · rw [List.getElem?_eq_none (by simpa using hk), List.getElem?_eq_none hk]; rfl
theorem sampsOk_back {l : List SampV} (hw : ∀ r ∈ l, r.wf) (hok : l.all sampOk = true) : sampsOk (l.flatMap sampB) l.length = true := by
  unfold sampsOk
  rw [List.all_eq_true]
  intro k hk
  have hk := List.mem_range.1 hk
  have h := List.getElem?_eq_getElem hk
  have hm := mem_of_get h
  rw [chunk_flat (samps_lens hok) h, sgetOk_back (hw _ hm) (all_mem hok hm)]
end Go.Proofs.YtfhhepfkjndkgaaGreat
namespace Go.Proofs.YtfhhepfkjndkgaaGreat
set_option linter.all false
open Go.RowKit

theorem eqs_string (d : Nat) (a b : ByteArray) (w : World) : (Op.equalIn (d + 1) 9 (.string a) (.string b)).run Tryz.prog w = .ok (a.toList == b.toList) w := run_equalIn_string w d _ a b (by kernel_rfl)
theorem eqs_int (d : Nat) (a b : Int) (w : World) : (Op.equalIn (d + 1) 3 (.int .i64 a) (.int .i64 b)).run Tryz.prog w = .ok (a == b) w := run_equalIn_int w d _ .i64 .i64 a b (by kernel_rfl)
theorem eqs_u64 (d : Nat) (a b : Int) (w : World) : (Op.equalIn (d + 1) 26 (.int .u64 a) (.int .u64 b)).run Tryz.prog w = .ok (a == b) w := run_equalIn_int w d _ .u64 .u64 a b (by kernel_rfl)
theorem toList_inj {a b : ByteArray} (h : a.toList = b.toList) : a = b := by
  rw [Lib.toList_data, Lib.toList_data] at h
  cases a; cases b
  simp only at h
  congr
  exact Array.toList_inj.1 h

def sampEq (x y : SampV) : Bool := (x.name.toList == y.name.toList) && ((x.time == y.time) && (x.value == y.value))
theorem sampEq_iff (x y : SampV) : sampEq x y = true ↔ x = y := by
  obtain ⟨a, b, c⟩ := x
  obtain ⟨a', b', c'⟩ := y
  unfold sampEq
  simp only [Bool.and_eq_true, beq_iff_eq, SampV.mk.injEq]
  exact ⟨fun h => ⟨toList_inj h.1, h.2⟩, fun h => ⟨by rw [h.1], h.2⟩⟩
instance sampDec : DecidableEq SampV := fun x y => if h : sampEq x y = true then isTrue ((sampEq_iff x y).1 h) else isFalse fun e => h ((sampEq_iff x y).2 e)
theorem run_eqsamp (x y : SampV) (w : World) : (binOp .eql 67 x.val y.val).run Tryz.prog w = .ok (.bool (sampEq x y)) w := by
  have hu : Tryz.prog.underlying 67 = some (.struct (Tryz.prog.fieldsOf 67)) := by kernel_rfl
  have hp : Tryz.prog.stoodInHeld 67 = false := by kernel_rfl
  have hf : (Tryz.prog.fieldsOf 67).toList = [⟨"Name", 9, 0, false, "", "", 0⟩, ⟨"Time", 3, 1, false, "", "", 16⟩, ⟨"Value", 3, 2, false, "", "", 24⟩] := by kernel_rfl
  unfold SampV.val sampEq
  rw [run_eql_struct, run_equalIn_struct (P := Tryz.prog) w 9999 _ _ _ hu hp, hf]
  simp [Op.eqFields, part, eqs_string 9998, eqs_int 9998]
  by_cases h1 : x.name.toList = y.name.toList <;> by_cases h2 : x.time = y.time <;> by_cases h3 : x.value = y.value <;> simp [h1, h2, h3]

def aggEq (x y : AggV) : Bool := (x.count == y.count) && ((x.hi == y.hi) && ((x.lo == y.lo) && ((x.min == y.min) && (x.max == y.max))))
def recEq (x y : RecV) : Bool := (x.name.toList == y.name.toList) && ((x.start == y.start) && aggEq x.agg y.agg)
theorem aggEq_iff (x y : AggV) : aggEq x y = true ↔ x = y := by
  obtain ⟨a, b, c, d, e⟩ := x
  obtain ⟨a', b', c', d', e'⟩ := y
  unfold aggEq
  simp only [Bool.and_eq_true, beq_iff_eq, AggV.mk.injEq]
theorem recEq_iff (x y : RecV) : recEq x y = true ↔ x = y := by
  obtain ⟨a, b, c⟩ := x
  obtain ⟨a', b', c'⟩ := y
  unfold recEq
  simp only [Bool.and_eq_true, beq_iff_eq, RecV.mk.injEq, aggEq_iff]
  exact ⟨fun h => ⟨toList_inj h.1, h.2⟩, fun h => ⟨by rw [h.1], h.2⟩⟩
instance recDec : DecidableEq RecV := fun x y => if h : recEq x y = true then isTrue ((recEq_iff x y).1 h) else isFalse fun e => h ((recEq_iff x y).2 e)
theorem run_eqagg (d : Nat) (x y : AggV) (w : World) : (Op.equalIn (d + 2) 28 x.val y.val).run Tryz.prog w = .ok (aggEq x y) w := by
  have hu : Tryz.prog.underlying 28 = some (.struct (Tryz.prog.fieldsOf 28)) := by kernel_rfl
  have hp : Tryz.prog.stoodInHeld 28 = false := by kernel_rfl
  have hf : (Tryz.prog.fieldsOf 28).toList = [⟨"Count", 3, 0, false, "", "", 0⟩, ⟨"Hi", 3, 1, false, "", "", 8⟩, ⟨"Lo", 26, 2, false, "", "", 16⟩, ⟨"Min", 3, 3, false, "", "", 24⟩, ⟨"Max", 3, 4, false, "", "", 32⟩] := by kernel_rfl
  unfold AggV.val aggEq
  rw [run_equalIn_struct (P := Tryz.prog) w (d + 1) _ _ _ hu hp, hf]
  simp [Op.eqFields, part, eqs_int d, eqs_u64 d]
  by_cases h1 : x.count = y.count <;> by_cases h2 : x.hi = y.hi <;> by_cases h3 : x.lo = y.lo <;> by_cases h4 : x.min = y.min <;> by_cases h5 : x.max = y.max <;> simp [h1, h2, h3, h4, h5]
theorem run_eqrec (x y : RecV) (w : World) : (binOp .eql 30 x.val y.val).run Tryz.prog w = .ok (.bool (recEq x y)) w := by
  have hu : Tryz.prog.underlying 30 = some (.struct (Tryz.prog.fieldsOf 30)) := by kernel_rfl
  have hp : Tryz.prog.stoodInHeld 30 = false := by kernel_rfl
  have hf : (Tryz.prog.fieldsOf 30).toList = [⟨"Name", 9, 0, false, "", "", 0⟩, ⟨"Start", 3, 1, false, "", "", 16⟩, ⟨"Agg", 28, 2, false, "", "", 24⟩] := by kernel_rfl
  have hA := run_eqagg 9997 x.agg y.agg
  unfold AggV.val at hA
  unfold RecV.val recEq
  rw [run_eql_struct, run_equalIn_struct (P := Tryz.prog) w 9999 _ _ _ hu hp, hf]
  simp [Op.eqFields, hA, eqs_string 9998, eqs_int 9998, part]
  by_cases h1 : x.name.toList = y.name.toList <;> by_cases h2 : x.start = y.start <;> cases aggEq x.agg y.agg <;> simp [h1, h2]
end Go.Proofs.YtfhhepfkjndkgaaGreat
namespace Go.Proofs.YtfhhepfkjndkgaaGreat
set_option linter.all false
open Go.RowKit

theorem sampEq_true {x y : SampV} (h : x = y) (w : World) : (binOp .eql 67 x.val y.val).run Tryz.prog w = .ok (.bool true) w := by rw [run_eqsamp, ((sampEq_iff x y).2 h)]
theorem sampEq_false {x y : SampV} (h : x ≠ y) (w : World) : (binOp .eql 67 x.val y.val).run Tryz.prog w = .ok (.bool false) w := by
  rw [run_eqsamp]
  cases hb : sampEq x y
  · rfl
  · exact absurd ((sampEq_iff x y).1 hb) h
set_option maxHeartbeats 1000000 in
theorem samesamps_any (la lb : List SampV) (A : Option Addr) (n c : Nat) (B : Option Addr) (m d : Nat) (w : World) (ha : Rd w 3 A n (scells la)) (hb : Rd w 3 B m (scells lb)) (hn : n ≤ 1099511627776) (hm : m ≤ 1099511627776) :
    Calls Tryz.prog 121 #[.slice A n c, .slice B m d] w fun r w' => r = .returned (.bool (decide (la = lb))) ∧ Below w.heap.size w w' := by
  have Ha := Lib.hid ha
  have Hb := Lib.hid hb
  have hla := Lib.hid ha.samps_len
  have hlb := Lib.hid hb.samps_len
  clear ha hb
  by_cases hnm : n = m
  · subst hnm
    go_enter Tryz.func121, Tryz.ntmps121
    go_wp2_with fail
    go_loopw [5] (fun i wr => ∃ k : Nat, k ≤ n ∧ i = .int .i64 k ∧ Hid (la.take k = lb.take k) ∧ Own w wr (fun _ => False)) (fun i _ => n - (intOf i).toNat)
    case atStart => exact ⟨0, Nat.zero_le _, rfl, rfl, Own.start w⟩
    case round =>
      obtain ⟨k, hk, rfl, htk, ho⟩ := hrel
      have Ho := Lib.hid ho
      by_cases hlt : k < n
      · obtain ⟨ad, x, rfl, hx, a0, a1, a2⟩ := (Ha.out.fr0 (Fr.b0 ho.bel)).samp_ hlt
        obtain ⟨bd, y, rfl, hy, b0, b1, b2⟩ := (Hb.out.fr0 (Fr.b0 ho.bel)).samp_ hlt
        have Hx := Lib.hid hx
        have Hy := Lib.hid hy
        by_cases heq : x = y
        · have htk2 : Hid (la.take (k + 1) = lb.take (k + 1)) := by show _ = _; rw [take_snoc Hx.out, take_snoc Hy.out, htk.out, heq]
          have q := sampEq_true heq
          unfold SampV.val at q
          clear hx hy ho heq
          go_wp2
          go_quiet (fail)
          go_wp2
          go_roundw
          case rel => exact ⟨k + 1, by omega, by go_num, htk2.out, Ho.out.skip (Fr.none_drewN _ _)⟩
          case measure => simp [intOf]; omega
        · have hne : Hid (decide (la = lb) = false) := by
            refine decide_eq_false fun h => ?_
            have h1 := Hx.out
            have h2 := Hy.out
            rw [h] at h1
            rw [h1] at h2
            exact heq (Option.some.inj h2)
          have q := sampEq_false heq
          unfold SampV.val at q
          clear hx hy ho heq
          go_wp2
          go_quiet (fail)
          go_wp2
          go_ret
          exact ⟨by rw [hne.out]; rfl, (Ho.out.skip (Fr.none_drewN _ _)).bel⟩
      · obtain rfl : k = n := by omega
        have hE : Hid (decide (la = lb) = true) := by
          refine decide_eq_true ?_
          have h := htk.out
          rwa [take_all (by rw [hla.out]; exact Nat.le_refl _), take_all (by rw [hlb.out]; exact Nat.le_refl _)] at h
        clear ho
        go_wp2_with fail
        go_ret
        exact ⟨by rw [hE.out]; rfl, Ho.out.bel⟩
  · have hne : Hid (decide (la = lb) = false) := by
      refine decide_eq_false fun h => hnm ?_
      have h1 := hla.out
      have h2 := hlb.out
      rw [h] at h1
      omega
    have hnm2 : ((n : Int) != (m : Int)) = true := by simpa using (show (n : Int) ≠ (m : Int) by omega)
    go_enter Tryz.func121, Tryz.ntmps121
    go_wp2_with fail
    go_ret
    exact ⟨by rw [hne.out]; rfl, Below.refl _ _⟩

theorem recEq_true {x y : RecV} (h : x = y) (w : World) : (binOp .eql 30 x.val y.val).run Tryz.prog w = .ok (.bool true) w := by rw [run_eqrec, ((recEq_iff x y).2 h)]
theorem recEq_false {x y : RecV} (h : x ≠ y) (w : World) : (binOp .eql 30 x.val y.val).run Tryz.prog w = .ok (.bool false) w := by
  rw [run_eqrec]
  cases hb : recEq x y
  · rfl
  · exact absurd ((recEq_iff x y).1 hb) h
set_option maxHeartbeats 1000000 in
theorem samerecs_any (la lb : List RecV) (A : Option Addr) (n c : Nat) (B : Option Addr) (m d : Nat) (w : World) (ha : Rd w 7 A n (rcells la)) (hb : Rd w 7 B m (rcells lb)) (hn : n ≤ 1099511627776) (hm : m ≤ 1099511627776) :
    Calls Tryz.prog 20 #[.slice A n c, .slice B m d] w fun r w' => r = .returned (.bool (decide (la = lb))) ∧ Below w.heap.size w w' := by
  have Ha := Lib.hid ha
  have Hb := Lib.hid hb
  have hla := Lib.hid ha.recs_len
  have hlb := Lib.hid hb.recs_len
  clear ha hb
  by_cases hnm : n = m
  · subst hnm
    go_enter Tryz.func20, Tryz.ntmps20
    go_wp2_with fail
    go_loopw [5] (fun i wr => ∃ k : Nat, k ≤ n ∧ i = .int .i64 k ∧ Hid (la.take k = lb.take k) ∧ Own w wr (fun _ => False)) (fun i _ => n - (intOf i).toNat)
    case atStart => exact ⟨0, Nat.zero_le _, rfl, rfl, Own.start w⟩
    case round =>
      obtain ⟨k, hk, rfl, htk, ho⟩ := hrel
      have Ho := Lib.hid ho
      by_cases hlt : k < n
      · obtain ⟨ad, x, rfl, hx, a0, a1, a2, a3, a4, a5, a6⟩ := (Ha.out.fr0 (Fr.b0 ho.bel)).rec_ hlt
        obtain ⟨bd, y, rfl, hy, b0, b1, b2, b3, b4, b5, b6⟩ := (Hb.out.fr0 (Fr.b0 ho.bel)).rec_ hlt
        have Hx := Lib.hid hx
        have Hy := Lib.hid hy
        by_cases heq : x = y
        · have htk2 : Hid (la.take (k + 1) = lb.take (k + 1)) := by show _ = _; rw [take_snoc Hx.out, take_snoc Hy.out, htk.out, heq]
          have q := recEq_true heq
          unfold RecV.val at q
          clear hx hy ho heq
          go_wp2
          go_quiet (fail)
          go_wp2
          go_roundw
          case rel => exact ⟨k + 1, by omega, by go_num, htk2.out, Ho.out.skip (Fr.none_drewN _ _)⟩
          case measure => simp [intOf]; omega
        · have hne : Hid (decide (la = lb) = false) := by
            refine decide_eq_false fun h => ?_
            have h1 := Hx.out
            have h2 := Hy.out
            rw [h] at h1
            rw [h1] at h2
            exact heq (Option.some.inj h2)
          have q := recEq_false heq
          unfold RecV.val at q
          clear hx hy ho heq
          go_wp2
          go_quiet (fail)
          go_wp2
          go_ret
          exact ⟨by rw [hne.out]; rfl, (Ho.out.skip (Fr.none_drewN _ _)).bel⟩
      · obtain rfl : k = n := by omega
        have hE : Hid (decide (la = lb) = true) := by
          refine decide_eq_true ?_
          have h := htk.out
          rwa [take_all (by rw [hla.out]; exact Nat.le_refl _), take_all (by rw [hlb.out]; exact Nat.le_refl _)] at h
        clear ho
        go_wp2_with fail
        go_ret
        exact ⟨by rw [hE.out]; rfl, Ho.out.bel⟩
  · have hne : Hid (decide (la = lb) = false) := by
      refine decide_eq_false fun h => hnm ?_
      have h1 := hla.out
      have h2 := hlb.out
      rw [h] at h1
      omega
    have hnm2 : ((n : Int) != (m : Int)) = true := by simpa using (show (n : Int) ≠ (m : Int) by omega)
    go_enter Tryz.func20, Tryz.ntmps20
    go_wp2_with fail
    go_ret
    exact ⟨by rw [hne.out]; rfl, Below.refl _ _⟩
theorem samerecs_eq (l : List RecV) (A : Option Addr) (n c : Nat) (B : Option Addr) (d : Nat) (w : World) (ha : Rd w 7 A n (rcells l)) (hb : Rd w 7 B n (rcells l)) (hn : n ≤ 1000000000) :
    Calls Tryz.prog 20 #[.slice A n c, .slice B n d] w fun r w' => r = .returned (.bool true) ∧ Below w.heap.size w w' :=
  (samerecs_any l l A n c B n d w ha hb (by omega) (by omega)).mono fun r w' ⟨e, b⟩ => ⟨by rw [e, decide_eq_true rfl], b⟩
theorem samesamps_eq (l : List SampV) (A : Option Addr) (n c : Nat) (B : Option Addr) (d : Nat) (w : World) (ha : Rd w 3 A n (scells l)) (hb : Rd w 3 B n (scells l)) (hn : n ≤ 1000000000) :
    Calls Tryz.prog 121 #[.slice A n c, .slice B n d] w fun r w' => r = .returned (.bool true) ∧ Below w.heap.size w w' :=
  (samesamps_any l l A n c B n d w ha hb (by omega) (by omega)).mono fun r w' ⟨e, b⟩ => ⟨by rw [e, decide_eq_true rfl], b⟩
end Go.Proofs.YtfhhepfkjndkgaaGreat
