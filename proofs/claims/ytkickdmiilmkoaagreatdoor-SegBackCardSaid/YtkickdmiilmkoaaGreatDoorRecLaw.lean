/- Plain: the bytes of records and samples tell them again. -/
import Derived.Test.YtkickdmiilmkoaaGreatDoorRecE
import Derived.Test.YtkickdmiilmkoaaGreatDoorPkBack
import Derived.Test.YtkickdmiilmkoaaGreatDoorBook
namespace Go.Proofs.YtkickdmiilmkoaaGreatDoor
open Go.RowKit

theorem le8_two (x y : Int) : le8 [x, y] = le (u64 x) 8 ++ le (u64 y) 8 := by rw [le8_cons, le8_cons]; simp [le8]
theorem le8_one (x : Int) : le8 [x] = le (u64 x) 8 := by rw [le8_cons]; simp [le8]
theorem sgn_le8 {x : Int} (h : in64 x) : sgn (ofLe (le (u64 x) 8)) = x := by rw [ofLe_le8 _ (u64_lt x), sgn_u64 h.1 h.2]
theorem tk8 (x : Nat) (t : List UInt8) : (le x 8 ++ t).take 8 = le x 8 := List.take_left' (le_length x 8)
theorem dr8 (x k : Nat) (t : List UInt8) : (le x 8 ++ t).drop (8 + k) = t.drop k := by
  rw [List.drop_append, le_length, List.drop_eq_nil_of_le (by rw [le_length]; omega), List.nil_append, Nat.add_sub_cancel_left]
theorem tk8' (x : Nat) : (le x 8).take 8 = le x 8 := List.take_of_length_le (by rw [le_length]; omega)
theorem aggOf_aggB {a : AggV} (h : a.wf) : aggOf (aggB a) = a := by
  obtain ⟨c, hi, lo, m, x⟩ := a
  obtain ⟨h1, h2, h3, h4, h5⟩ := h
  simp only at h1 h2 h3 h4 h5
  unfold aggOf aggB
  simp only
  rw [le8_two, le8_two]
  simp only [List.append_assoc]
  rw [tk8, show (8 : Nat) = 8 + 0 from rfl, dr8, show (16 : Nat) = 8 + (8 + 0) from rfl, dr8, dr8, show (24 : Nat) = 8 + (8 + (8 + 0)) from rfl, dr8, dr8, dr8, show (32 : Nat) = 8 + (8 + (8 + (8 + 0))) from rfl, dr8, dr8, dr8, dr8]
  simp only [List.drop_zero, Nat.add_zero]
  rw [tk8, tk8, tk8, tk8', sgn_le8 h1, sgn_le8 h2, sgn_le8 h4, sgn_le8 h5, ofLe_le8 _ (by omega)]
  congr 1
  omega
theorem aggGet_back {a : AggV} (h : a.wf) (hok : aggOk a = true) : aggGetV (aggB a) = (a, 0) := by
  unfold aggGetV
  rw [if_pos (aggB_len a), aggOf_aggB h, hok]
  rfl
theorem bstr_toList (s : ByteArray) : bstr s.data.toList = s := by simp [bstr]
theorem uTake_full (t : List UInt8) : uTake 0 t t.length = (0, [], t) := by rw [uTake_in (Nat.le_refl _), List.drop_length, List.take_length]
theorem recOk_parts {r : RecV} (h : recOk r = true) : validB r.name = true ∧ timeB r.start = true ∧ aggOk r.agg = true := by
  unfold recOk at h; simp only [Bool.and_eq_true] at h; exact ⟨h.1.1, h.1.2, h.2⟩
theorem recRd_back {r : RecV} (h : r.wf) (hok : recOk r = true) : recRd (recB r) = (r, 0) := by
  obtain ⟨h1, h2, h3⟩ := recOk_parts hok
  have hn := validB_le h1
  unfold recRd recB
  rw [List.append_assoc, nameB_back hn]
  simp only
  rw [le8_one, uTake_app (le_length _ 8)]
  simp only
  rw [uTake_full]
  simp only
  rw [aggGet_back h.2.1 h3, sgn_le8 h.1, bstr_toList]
theorem getOk_back {r : RecV} (h : r.wf) (hok : recOk r = true) : getOk (recB r) = true := by
  unfold getOk
  rw [recRd_back h hok]
  simp [hok]
theorem chunk_flat {α : Type} {f : α → List UInt8} {size : Nat} {l : List α} (hf : ∀ x ∈ l, (f x).length = size) {k : Nat} {x : α} (h : l[k]? = some x) : chunk size (l.flatMap f) k = f x := by
  induction l generalizing k with
  | nil => simp at h
  | cons a l ih =>
    have ha := hf a (.head _)
    unfold chunk at ih ⊢
    rw [List.flatMap_cons]
    rcases k with _ | k
    · simp only [List.getElem?_cons_zero, Option.some.injEq] at h
      subst h
      rw [Nat.mul_zero, List.drop_zero, List.take_left' ha]
    · simp only [List.getElem?_cons_succ] at h
      rw [Nat.mul_succ, List.drop_append, ha, List.drop_eq_nil_of_le (by rw [ha]; omega), List.nil_append, show size * k + size - size = size * k by omega]
      exact ih (fun y hy => hf y (.tail _ hy)) h
theorem all_mem {α : Type} {p : α → Bool} {l : List α} (h : l.all p = true) {x : α} (hx : x ∈ l) : p x = true := (List.all_eq_true.1 h) x hx
theorem recs_len {l : List RecV} (hok : l.all recOk = true) : ∀ r ∈ l, (recB r).length = 64 := fun r hr => recB_len r (validB_of (all_mem hok hr))
theorem recsRd_back {l : List RecV} (hw : ∀ r ∈ l, r.wf) (hok : l.all recOk = true) : recsRd (l.flatMap recB) l.length = l := by
  apply List.ext_getElem?
  intro k
  unfold recsRd
  rw [List.getElem?_map]
  rcases Nat.lt_or_ge k l.length with hk | hk
  · have h := List.getElem?_eq_getElem hk
    have hm := mem_of_get h
    rw [List.getElem?_range hk, Option.map_some, chunk_flat (recs_len hok) h, recRd_back (hw _ hm) (all_mem hok hm), h]
  · rw [List.getElem?_eq_none (by simpa using hk), List.getElem?_eq_none hk]; rfl
theorem recsOk_back {l : List RecV} (hw : ∀ r ∈ l, r.wf) (hok : l.all recOk = true) : recsOk (l.flatMap recB) l.length = true := by
  unfold recsOk
  rw [List.all_eq_true]
  intro k hk
  have hk := List.mem_range.1 hk
  have h := List.getElem?_eq_getElem hk
  have hm := mem_of_get h
  rw [chunk_flat (recs_len hok) h, getOk_back (hw _ hm) (all_mem hok hm)]

/-- What the bytes of a sample tell. -/
def sampRd (l : List UInt8) : SampV :=
  let n := uName 0 l
  let t := uTake n.1 n.2.1 8
  let v := uTake t.1 t.2.1 8
  ⟨bstr n.2.2, sgn (ofLe t.2.2), sgn (ofLe v.2.2)⟩
def sgetOk (l : List UInt8) : Bool := sampOk (sampRd l) && decide (sampB (sampRd l) = l)
theorem sampRd_wf (l : List UInt8) : (sampRd l).wf := by
  refine ⟨sgn8_in (uTake_len _ _ 8), sgn8_in (uTake_len _ _ 8), ?_⟩
  show (bstr (uName 0 l).2.2).size ≤ maxLen
  rw [bstr_size]
  have := uName_len 0 l
  unfold maxLen; omega
def sampsRd (l : List UInt8) (n : Nat) : List SampV := (List.range n).map fun k => sampRd (chunk 32 l k)
def sampsOk (l : List UInt8) (n : Nat) : Bool := (List.range n).all fun k => sgetOk (chunk 32 l k)
theorem sampsRd_snoc (l : List UInt8) (k : Nat) : sampsRd l (k + 1) = sampsRd l k ++ [sampRd (chunk 32 l k)] := by simp [sampsRd, List.range_succ]
theorem sampsOk_snoc (l : List UInt8) (k : Nat) : sampsOk l (k + 1) = (sampsOk l k && sgetOk (chunk 32 l k)) := by simp [sampsOk, List.range_succ]
theorem sampsOk_false {l : List UInt8} {k n : Nat} (hk : k < n) (h : sgetOk (chunk 32 l k) = false) : sampsOk l n = false := by
  unfold sampsOk
  rw [List.all_eq_false]
  exact ⟨k, List.mem_range.2 hk, by simp [h]⟩
theorem sampRd_back {s : SampV} (h : s.wf) (hok : sampOk s = true) : sampRd (sampB s) = s := by
  have h1 := hok
  unfold sampOk at h1
  simp only [Bool.and_eq_true] at h1
  have hn := validB_le h1.1
  unfold sampRd sampB
  rw [nameB_back hn]
  simp only
  rw [le8_two, uTake_app (le_length _ 8)]
  simp only
  rw [show le (u64 s.value) 8 = le (u64 s.value) 8 ++ [] by simp, uTake_app (le_length _ 8)]
  simp only
  rw [sgn_le8 h.1, sgn_le8 h.2.1, bstr_toList]
theorem sgetOk_back {s : SampV} (h : s.wf) (hok : sampOk s = true) : sgetOk (sampB s) = true := by
  unfold sgetOk
  rw [sampRd_back h hok]
  simp [hok]
theorem samps_lens {l : List SampV} (hok : l.all sampOk = true) : ∀ r ∈ l, (sampB r).length = 32 := fun r hr => sampB_len r (validB_ofs (all_mem hok hr))
theorem sampsRd_back {l : List SampV} (hw : ∀ r ∈ l, r.wf) (hok : l.all sampOk = true) : sampsRd (l.flatMap sampB) l.length = l := by
  apply List.ext_getElem?
  intro k
  unfold sampsRd
  rw [List.getElem?_map]
  rcases Nat.lt_or_ge k l.length with hk | hk
  · have h := List.getElem?_eq_getElem hk
    have hm := mem_of_get h
    rw [List.getElem?_range hk, Option.map_some, chunk_flat (samps_lens hok) h, sampRd_back (hw _ hm) (all_mem hok hm), h]
  · rw [List.getElem?_eq_none (by simpa using hk), List.getElem?_eq_none hk]; rfl
theorem sampsOk_back {l : List SampV} (hw : ∀ r ∈ l, r.wf) (hok : l.all sampOk = true) : sampsOk (l.flatMap sampB) l.length = true := by
  unfold sampsOk
  rw [List.all_eq_true]
  intro k hk
  have hk := List.mem_range.1 hk
  have h := List.getElem?_eq_getElem hk
  have hm := mem_of_get h
  rw [chunk_flat (samps_lens hok) h, sgetOk_back (hw _ hm) (all_mem hok hm)]
end Go.Proofs.YtkickdmiilmkoaaGreatDoor
