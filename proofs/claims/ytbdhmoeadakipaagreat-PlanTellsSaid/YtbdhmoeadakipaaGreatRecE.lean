/- Walks of rec: within, Valid, put. -/
import Derived.Test.YtbdhmoeadakipaaGreatAggB
import Derived.Test.YtbdhmoeadakipaaGreatPol
namespace Go.Proofs.YtbdhmoeadakipaaGreat
open Go.RowKit

/-- An api.Record. -/
structure RecV where
  name : ByteArray
  start : Int
  agg : AggV
def RecV.cells (r : RecV) : List Value := [.string r.name, .int .i64 r.start, .int .i64 r.agg.count, .int .i64 r.agg.hi, .int .u64 r.agg.lo, .int .i64 r.agg.min, .int .i64 r.agg.max]
def RecV.val (r : RecV) : Value := .agg #[.string r.name, .int .i64 r.start, .int .i64 r.agg.count, .int .i64 r.agg.hi, .int .u64 r.agg.lo, .int .i64 r.agg.min, .int .i64 r.agg.max]
def RecV.wf (r : RecV) : Prop := in64 r.start ∧ r.agg.wf ∧ r.name.size ≤ maxLen
def timeB (t : Int) : Bool := decide (0 ≤ t) && decide (t ≤ 1099511627776)
def recOk (r : RecV) : Bool := validB r.name && timeB r.start && aggOk r.agg

/-- A record's bytes. -/
def recB (r : RecV) : List UInt8 := nameB r.name ++ le8 [r.start] ++ aggB r.agg
theorem recB_len (r : RecV) (h : r.name.size ≤ 15) : (recB r).length = 64 := by simp [recB, nameB_len _ h, le8_len, aggB_len]
theorem bstr_append (a b : List UInt8) : bstr a ++ bstr b = bstr (a ++ b) := by
  simp [bstr, ByteArray.ext_iff]
theorem validB_le {s : ByteArray} (h : validB s = true) : s.size ≤ 15 := by
  rcases Nat.lt_or_ge 15 s.size with h1 | h1
  · rw [validB_long h1] at h; cases h
  · exact h1
theorem pNames_one {l : List UInt8} {s : ByteArray} (h : s.size ≤ 15) : pNames 0 l [s] = (0, l ++ nameB s) := by
  simp only [pNames]
  simp; omega

end Go.Proofs.YtbdhmoeadakipaaGreat
namespace Go.Proofs.YtbdhmoeadakipaaGreat
open Go.RowKit

def rcells (l : List RecV) : List Value := l.flatMap RecV.cells
theorem rec_len (r : RecV) : r.cells.length = 7 := rfl
theorem Rd.rec_ {w : World} {n k : Nat} {A : Option Addr} {l : List RecV} (h : Rd w 7 A n (rcells l)) (hk : k < n) :
    ∃ ad r, A = some ad ∧ l[k]? = some r ∧ w.cell? (ad.add (k * 7)) = some (.string r.name) ∧ w.cell? ⟨(ad.add (k * 7)).block, (ad.add (k * 7)).off + 1, none⟩ = some (.int .i64 r.start) ∧ w.cell? ⟨(ad.add (k * 7)).block, (ad.add (k * 7)).off + 2, none⟩ = some (.int .i64 r.agg.count) ∧ w.cell? ⟨(ad.add (k * 7)).block, (ad.add (k * 7)).off + 3, none⟩ = some (.int .i64 r.agg.hi) ∧ w.cell? ⟨(ad.add (k * 7)).block, (ad.add (k * 7)).off + 4, none⟩ = some (.int .u64 r.agg.lo) ∧ w.cell? ⟨(ad.add (k * 7)).block, (ad.add (k * 7)).off + 5, none⟩ = some (.int .i64 r.agg.min) ∧ w.cell? ⟨(ad.add (k * 7)).block, (ad.add (k * 7)).off + 6, none⟩ = some (.int .i64 r.agg.max) := by
  obtain ⟨ad, r, e, hr, hc⟩ := Rd.elem rec_len h hk (by decide)
  refine ⟨ad, r, e, hr, ?_, ?_, ?_, ?_, ?_, ?_, ?_⟩
  · have := hc 0 _ rfl; rwa [addr_zero] at this
  · have := hc 1 _ rfl; rwa [add_pos _ _ (by decide)] at this
  · have := hc 2 _ rfl; rwa [add_pos _ _ (by decide)] at this
  · have := hc 3 _ rfl; rwa [add_pos _ _ (by decide)] at this
  · have := hc 4 _ rfl; rwa [add_pos _ _ (by decide)] at this
  · have := hc 5 _ rfl; rwa [add_pos _ _ (by decide)] at this
  · have := hc 6 _ rfl; rwa [add_pos _ _ (by decide)] at this
theorem Rd.recs_len {w : World} {n : Nat} {A : Option Addr} {l : List RecV} (h : Rd w 7 A n (rcells l)) : l.length = n := Rd.elems_len rec_len (by decide) h
theorem validB_of {r : RecV} (h : recOk r = true) : r.name.size ≤ 15 := by
  unfold recOk at h
  simp only [Bool.and_eq_true] at h
  exact validB_le h.1.1
theorem recsB_len {l : List RecV} (h : l.all recOk = true) : (l.flatMap recB).length = 64 * l.length := by
  induction l with
  | nil => rfl
  | cons r l ih =>
    rw [List.all_cons, Bool.and_eq_true] at h
    rw [List.flatMap_cons, List.length_append, ih h.2, recB_len r (validB_of h.1), List.length_cons]
    omega
theorem all_snoc {α : Type} {p : α → Bool} {l : List α} {k : Nat} {x : α} (h : l[k]? = some x) : (l.take (k + 1)).all p = ((l.take k).all p && p x) := by
  rw [take_snoc h, List.all_append]; simp
theorem all_false {α : Type} {p : α → Bool} {l : List α} {k : Nat} {x : α} (h : l[k]? = some x) (hp : p x = false) : l.all p = false := by
  rw [List.all_eq_false]
  exact ⟨x, mem_of_get h, by simp [hp]⟩
theorem flat_snoc {α β : Type} {f : α → List β} {l : List α} {k : Nat} {x : α} (h : l[k]? = some x) : (l.take (k + 1)).flatMap f = (l.take k).flatMap f ++ f x := by
  rw [take_snoc h, List.flatMap_append]; simp

end Go.Proofs.YtbdhmoeadakipaaGreat
namespace Go.Proofs.YtbdhmoeadakipaaGreat
open Go.RowKit

/-- An api.Sample. -/
structure SampV where
  name : ByteArray
  time : Int
  value : Int
def SampV.cells (s : SampV) : List Value := [.string s.name, .int .i64 s.time, .int .i64 s.value]
def SampV.val (s : SampV) : Value := .agg #[.string s.name, .int .i64 s.time, .int .i64 s.value]
def SampV.wf (s : SampV) : Prop := in64 s.time ∧ in64 s.value ∧ s.name.size ≤ maxLen
def sampOk (s : SampV) : Bool := validB s.name && timeB s.time
def sampB (s : SampV) : List UInt8 := nameB s.name ++ le8 [s.time, s.value]
theorem sampB_len (s : SampV) (h : s.name.size ≤ 15) : (sampB s).length = 32 := by simp [sampB, nameB_len _ h, le8_len]
def scells (l : List SampV) : List Value := l.flatMap SampV.cells
theorem samp_len (s : SampV) : s.cells.length = 3 := rfl
theorem Rd.samp_ {w : World} {n k : Nat} {A : Option Addr} {l : List SampV} (h : Rd w 3 A n (scells l)) (hk : k < n) :
    ∃ ad s, A = some ad ∧ l[k]? = some s ∧ w.cell? (ad.add (k * 3)) = some (.string s.name) ∧ w.cell? ⟨(ad.add (k * 3)).block, (ad.add (k * 3)).off + 1, none⟩ = some (.int .i64 s.time) ∧ w.cell? ⟨(ad.add (k * 3)).block, (ad.add (k * 3)).off + 2, none⟩ = some (.int .i64 s.value) := by
  obtain ⟨ad, s, e, hr, hc⟩ := Rd.elem samp_len h hk (by decide)
  refine ⟨ad, s, e, hr, ?_, ?_, ?_⟩
  · have := hc 0 _ rfl; rwa [addr_zero] at this
  · have := hc 1 _ rfl; rwa [add_pos _ _ (by decide)] at this
  · have := hc 2 _ rfl; rwa [add_pos _ _ (by decide)] at this
theorem Rd.samps_len {w : World} {n : Nat} {A : Option Addr} {l : List SampV} (h : Rd w 3 A n (scells l)) : l.length = n := Rd.elems_len samp_len (by decide) h
theorem validB_ofs {s : SampV} (h : sampOk s = true) : s.name.size ≤ 15 := by
  unfold sampOk at h
  simp only [Bool.and_eq_true] at h
  exact validB_le h.1
theorem sampsB_len {l : List SampV} (h : l.all sampOk = true) : (l.flatMap sampB).length = 32 * l.length := by
  induction l with
  | nil => rfl
  | cons r l ih =>
    rw [List.all_cons, Bool.and_eq_true] at h
    rw [List.flatMap_cons, List.length_append, ih h.2, sampB_len r (validB_ofs h.1), List.length_cons]
    omega

end Go.Proofs.YtbdhmoeadakipaaGreat
namespace Go.Proofs.YtbdhmoeadakipaaGreat
open Go.RowKit

theorem Blk.set26 {w : World} {g : Nat} {t : TypeId} {x0 x1 a0 b0 c0 d0 e0 a b c d e : Value} (h : Blk w g t #[x0, x1, a0, b0, c0, d0, e0]) : Blk (((((w.setCell ⟨g, 2, none⟩ a).setCell ⟨g, 3, none⟩ b).setCell ⟨g, 4, none⟩ c).setCell ⟨g, 5, none⟩ d).setCell ⟨g, 6, none⟩ e) g t #[x0, x1, a, b, c, d, e] := by
  have := ((((h.set_ 2 a).set_ 3 b).set_ 4 c).set_ 5 d).set_ 6 e
  simpa using this
theorem Fr.set26 {w1 w : World} {F : Nat → Prop} (h : Fr F w1 w) {g : Nat} (hg : F g ∨ w1.heap.size ≤ g) (a b c d e : Value) : Fr F w1 (((((w.setCell ⟨g, 2, none⟩ a).setCell ⟨g, 3, none⟩ b).setCell ⟨g, 4, none⟩ c).setCell ⟨g, 5, none⟩ d).setCell ⟨g, 6, none⟩ e) :=
  ((((h.setCell (p := ⟨g, 2, none⟩) hg a).setCell (p := ⟨g, 3, none⟩) hg b).setCell (p := ⟨g, 4, none⟩) hg c).setCell (p := ⟨g, 5, none⟩) hg d).setCell (p := ⟨g, 6, none⟩) hg e
theorem Fr.set7 {w1 w : World} {F : Nat → Prop} (h : Fr F w1 w) {g : Nat} (hg : F g ∨ w1.heap.size ≤ g) (x y a b c d e : Value) : Fr F w1 (((((((w.setCell ⟨g, 0, none⟩ x).setCell ⟨g, 1, none⟩ y).setCell ⟨g, 2, none⟩ a).setCell ⟨g, 3, none⟩ b).setCell ⟨g, 4, none⟩ c).setCell ⟨g, 5, none⟩ d).setCell ⟨g, 6, none⟩ e) :=
  ((h.setCell (p := ⟨g, 0, none⟩) hg x).setCell (p := ⟨g, 1, none⟩) hg y).set26 hg a b c d e
theorem Blk.set7 {w : World} {g : Nat} {t : TypeId} {x0 y0 a0 b0 c0 d0 e0 x y a b c d e : Value} (h : Blk w g t #[x0, y0, a0, b0, c0, d0, e0]) : Blk (((((((w.setCell ⟨g, 0, none⟩ x).setCell ⟨g, 1, none⟩ y).setCell ⟨g, 2, none⟩ a).setCell ⟨g, 3, none⟩ b).setCell ⟨g, 4, none⟩ c).setCell ⟨g, 5, none⟩ d).setCell ⟨g, 6, none⟩ e) g t #[x, y, a, b, c, d, e] := by
  have := ((((((h.set_ 0 x).set_ 1 y).set_ 2 a).set_ 3 b).set_ 4 c).set_ 5 d).set_ 6 e
  simpa using this

/-- What rec.get reads: the record, and agg.Get's error. -/
def recRd (l : List UInt8) : RecV × Int :=
  let n := uName 0 l
  let t := uTake n.1 n.2.1 8
  let r := uTake t.1 t.2.1 t.2.1.length
  let a := aggGetV r.2.2
  (⟨bstr n.2.2, sgn (ofLe t.2.2), a.1⟩, a.2)
def rec0 : RecV := ⟨{ data := #[] }, 0, agg0⟩
def getOk (l : List UInt8) : Bool := decide ((recRd l).2 = 0) && recOk (recRd l).1 && decide (recB (recRd l).1 = l)
theorem ofLe_lt64 {l : List UInt8} (h : l.length ≤ 8) : ofLe l < 18446744073709551616 := by
  have h1 := ofLe_lt l
  have h2 : 256 ^ l.length ≤ 256 ^ 8 := Nat.pow_le_pow_right (by decide) h
  have h3 : (256 : Nat) ^ 8 = 18446744073709551616 := by decide
  omega
theorem sgn_in {n : Nat} (h : n < 18446744073709551616) : in64 (sgn n) := by
  unfold sgn in64
  split <;> omega
theorem sgn8_in {l : List UInt8} (h : l.length ≤ 8) : in64 (sgn (ofLe l)) := sgn_in (ofLe_lt64 h)
theorem take8_len (l : List UInt8) : (l.take 8).length ≤ 8 := by rw [List.length_take]; omega
theorem aggGet_wf (l : List UInt8) : (aggGetV l).1.wf := by
  have h0 : agg0.wf := by unfold agg0 AggV.wf in64; decide
  unfold aggGetV
  split
  · cases aggOk (aggOf l)
    · exact h0
    · exact ⟨sgn8_in (take8_len _), sgn8_in (take8_len _), ⟨by show (0 : Int) ≤ ((ofLe _ : Nat) : Int); omega, by have := ofLe_lt64 (take8_len (l.drop 16)); show ((ofLe ((l.drop 16).take 8) : Nat) : Int) ≤ _; omega⟩, sgn8_in (take8_len _), sgn8_in (take8_len _)⟩
  · exact h0
theorem uName_len (e : Int) (l : List UInt8) : (uName e l).2.2.length ≤ 16 := by
  have h := uTake_len e l 16
  unfold uName
  split
  · simp
  · split
    · rw [List.length_take, List.length_drop]; omega
    · simp
theorem recRd_wf (l : List UInt8) : (recRd l).1.wf := by
  refine ⟨sgn8_in (uTake_len _ _ 8), aggGet_wf _, ?_⟩
  show (bstr (uName 0 l).2.2).size ≤ maxLen
  rw [bstr_size]
  have := uName_len 0 l
  unfold maxLen; omega
theorem uTake_rest (e : Int) (b : List UInt8) (n : Nat) : (uTake e b n).2.1.length ≤ b.length := by
  unfold uTake
  split
  · split
    · exact Nat.le_refl _
    · show (b.drop n).length ≤ _; rw [List.length_drop]; omega
  · exact Nat.le_refl _
theorem uName_rest (e : Int) (b : List UInt8) : (uName e b).2.1.length ≤ b.length := by
  have h := uTake_rest e b 16
  unfold uName
  split
  · exact h
  · split <;> exact h

end Go.Proofs.YtbdhmoeadakipaaGreat
namespace Go.Proofs.YtbdhmoeadakipaaGreat
open Go.RowKit

def chunk (size : Nat) (l : List UInt8) (k : Nat) : List UInt8 := (l.drop (size * k)).take size
/-- The records that bytes tell, the first n. -/
def recsRd (l : List UInt8) (n : Nat) : List RecV := (List.range n).map fun k => (recRd (chunk 64 l k)).1
def recsOk (l : List UInt8) (n : Nat) : Bool := (List.range n).all fun k => getOk (chunk 64 l k)
theorem recsRd_snoc (l : List UInt8) (k : Nat) : recsRd l (k + 1) = recsRd l k ++ [(recRd (chunk 64 l k)).1] := by simp [recsRd, List.range_succ]
theorem recsOk_snoc (l : List UInt8) (k : Nat) : recsOk l (k + 1) = (recsOk l k && getOk (chunk 64 l k)) := by simp [recsOk, List.range_succ]
theorem recsOk_false {l : List UInt8} {k n : Nat} (hk : k < n) (h : getOk (chunk 64 l k) = false) : recsOk l n = false := by
  unfold recsOk
  rw [List.all_eq_false]
  exact ⟨k, List.mem_range.2 hk, by simp [h]⟩
theorem info_rec : (Tryz.prog.info? 126).map (fun i => (i.zero, i.size, i.bytes)) = some (some (.agg #[.string ByteArray.empty, .int .i64 0, .int .i64 0, .int .i64 0, .int .u64 0, .int .i64 0, .int .i64 0]), 7, 64) := by kernel_rfl
theorem adF_rowv {A : Option Addr} {n c : Nat} : ∀ k, adF A n k → rowF (.slice A n c) k := by
  rintro k ⟨_, ad, rfl, rfl⟩
  rfl

theorem info_samp : (Tryz.prog.info? 129).map (fun i => (i.zero, i.size, i.bytes)) = some (some (.agg #[.string ByteArray.empty, .int .i64 0, .int .i64 0]), 3, 32) := by kernel_rfl
theorem rcells_one (l : List RecV) : ∀ u ∈ rcells l, u.oneCell' = true := by
  intro u hu
  obtain ⟨r, _, hu⟩ := List.mem_flatMap.1 hu
  simp only [RecV.cells, List.mem_cons, List.not_mem_nil, or_false] at hu
  rcases hu with rfl | rfl | rfl | rfl | rfl | rfl | rfl <;> rfl
theorem scells_one (l : List SampV) : ∀ u ∈ scells l, u.oneCell' = true := by
  intro u hu
  obtain ⟨r, _, hu⟩ := List.mem_flatMap.1 hu
  simp only [SampV.cells, List.mem_cons, List.not_mem_nil, or_false] at hu
  rcases hu with rfl | rfl | rfl <;> rfl
theorem rcells_append (a b : List RecV) : rcells (a ++ b) = rcells a ++ rcells b := by simp [rcells]
theorem scells_append (a b : List SampV) : scells (a ++ b) = scells a ++ scells b := by simp [scells]
end Go.Proofs.YtbdhmoeadakipaaGreat
