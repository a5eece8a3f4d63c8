/- A row's element is set; words about rows. -/
import Derived.Test.YtbblmmneeafhgaaGreatTiersP
namespace Go.Proofs.YtbblmmneeafhgaaGreat
set_option linter.all false
open Go.RowKit

theorem own_addr {w : World} {base n size c : Nat} {e : TypeId} {A : Option Addr} {xs : List Value} (h : w.ownsRow base e size (.slice A n c) n xs) (hn : 0 < n) : ∃ g, A = some ⟨g, 0, none⟩ := by
 rcases h.2 with ⟨_, h2⟩ | ⟨g, cap, cur, hv, _⟩
 ·omega
 ·injection hv with e1 _ _
  exact ⟨g, e1⟩
theorem own_blk {w : World} {base n size c g : Nat} {e : TypeId} {xs : List Value} (h : w.ownsRow base e size (.slice (some ⟨g, 0, none⟩) n c) n xs) : ∃ cs, Blk w g e cs := by
 rcases h.2 with ⟨h2, _⟩ | ⟨g', cap, cur, hv, hb, hg, _⟩
 ·cases h2
 ·injection hv with e1 _ _
  injection e1 with e1
  injection e1 with e1
  subst e1
  exact ⟨cur, hg⟩
theorem own_len {w : World} {base n c g : Nat} {e : TypeId} {xs : List Value} {cs : Array Value} (h : w.ownsRow base e 1 (.slice (some ⟨g, 0, none⟩) n c) n xs) (hB : Blk w g e cs) : n ≤ cs.size := by
 rcases h.2 with ⟨h2, _⟩ | ⟨g', cap, cur, hv, hb, hg, h3, h4, h5, h6⟩
 ·cases h2
 ·injection hv with e1 _ e3
  injection e1 with e1
  injection e1 with e1
  subst e1
  have hB' : w.heap[g]? = some (Obj.cells cs e (0, 0)) := hB
  rw [hg] at hB'
  injection hB' with hB'
  injection hB' with hc _ _
  subst hc
  have h1 := h.1
  have := congrArg List.length h6
  rw [List.length_take, h1, Array.length_toList] at this
  omega
theorem own_set1 {w : World} {base n c g k : Nat} {e : TypeId} {xs : List Value} {v : Value} (h : w.ownsRow base e 1 (.slice (some ⟨g, 0, none⟩) n c) n xs) : (w.setCell ⟨g, k, none⟩ v).ownsRow base e 1 (.slice (some ⟨g, 0, none⟩) n c) n (xs.set k v) := by
 obtain ⟨h1, h2⟩ := h
 refine ⟨by rw [List.length_set]; exact h1, ?_⟩
 rcases h2 with ⟨h2, _⟩ | ⟨g', cap, cur, hv, hb, hg, h3, h4, h5, h6⟩
 ·cases h2
 ·injection hv with e1 _ e3
  injection e1 with e1
  injection e1 with e1
  subst e1 e3
  refine .inr ⟨g, c, cur.setIfInBounds k v, rfl, hb, ?_, h3, h4, by simp [h5], ?_⟩
  ·rw [Sort.setCell_eq]
   unfold Sort.mapBlock
   rw [Array.getElem?_modify, if_pos rfl, hg]
   rfl
  ·rw [← h6, Array.toList_setIfInBounds, List.take_set]
theorem nodup_set {L : List Nat} {k b : Nat} (h : L.Nodup) (hb : b ∉ L) : (L.set k b).Nodup := by
 unfold List.Nodup at h ⊢
 rw [List.pairwise_iff_getElem] at h ⊢
 intro i j hi hj hij
 rw [List.length_set] at hi hj
 rw [List.getElem_set, List.getElem_set]
 split
 ·split
  ·omega
  ·exact fun e => hb (e ▸ List.getElem_mem hj)
 ·split
  ·exact fun e => hb (e ▸ List.getElem_mem hi)
  ·exact h i j hi hj hij
end Go.Proofs.YtbblmmneeafhgaaGreat
