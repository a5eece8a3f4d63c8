/- What stays true of tiers, whatever is put and ticks by. -/
import Derived.Test.YtlhhcancfgjfkaaComm
import Derived.Test.YtlhhcancfgjfkaaTickLaw
namespace Go.Proofs.Ytlhhcancfgjfkaa
set_option linter.all false
open Go.RowKit

def gridT (l : List TierV) (tabs : List (List RecV)) : Prop := ∀ k x, l[k]? = some x → ∀ r ∈ tabs.getD k [], validB r.name = true ∧ 0 ≤ r.start ∧ onB r.start x.every = true
structure GoodX (nm : ByteArray) (l : List TierV) (fl : List Int) (X : TiersX) (c : Nat) : Prop where
  name : X.name = nm
  tiers : X.tiers = l
  floors : X.floors = fl
  now : 0 ≤ X.now ∧ X.now ≤ 1099511627776
  tlen : X.tabs.length = l.length
  len : ∀ m ∈ X.tabs, m.length ≤ c
  good : goodT X X.tabs
  grid : gridT l X.tabs
theorem goodT_congr {X Y : TiersX} {tabs : List (List RecV)} (h : goodT X tabs) : goodT Y tabs := h
theorem addV_grid {every : Int} {l : List RecV} (hs : Sorted l) (h : ∀ r ∈ l, validB r.name = true ∧ 0 ≤ r.start ∧ onB r.start every = true) (r : RecV) : ∀ y ∈ addV every l r, validB y.name = true ∧ 0 ≤ y.start ∧ onB y.start every = true := by
  intro y hy
  unfold addV at hy
  split at hy
  · rename_i hr
    unfold rightR at hr
    simp only [Bool.and_eq_true, decide_eq_true_eq] at hr
    rcases (mem_insR mgM hs y).1 hy with rfl | ⟨hy, _⟩
    · exact ⟨hr.1.1.1, hr.1.1.2, hr.1.2⟩
    · exact h y hy
  · exact h y hy
theorem addT_grid {X : TiersX} {tabs : List (List RecV)} (hg : goodT X tabs) (h : gridT X.tiers tabs) (s : SampV) : gridT X.tiers (addT X tabs s) := by
  intro k x hx r hr
  rw [addT_getD, if_pos (List.getElem?_eq_some_iff.1 hx).1] at hr
  unfold stepL at hr
  rw [hx] at hr
  simp only at hr
  split at hr
  · exact addV_grid (hg k).1 (h k x hx) _ r hr
  · exact h k x hx r hr
theorem putsT_grid {X : TiersX} : ∀ {l : List SampV} {tabs : List (List RecV)}, goodT X tabs → gridT X.tiers tabs → gridT X.tiers (putsT X tabs l)
  | [], _, _, h => h
  | s :: l, _, hg, h => putsT_grid (l := l) (addT_good hg s) (addT_grid hg h s)
theorem getD_mem_or {L : List (List RecV)} (k : Nat) : L.getD k [] ∈ L ∨ L.getD k [] = [] := by
  rw [List.getD_eq_getElem?_getD]
  cases h : L[k]? with
  | none => exact .inr rfl
  | some m => exact .inl (mem_of_get h)
theorem addT_short {X : TiersX} {tabs : List (List RecV)} {c : Nat} (h : ∀ m ∈ tabs, m.length ≤ c) (s : SampV) : ∀ m ∈ addT X tabs s, m.length ≤ c + 1 := by
  intro m hm
  unfold addT at hm
  obtain ⟨k, _, rfl⟩ := List.mem_map.1 hm
  have h1 := stepL_len X s k (tabs.getD k [])
  have h2 : (tabs.getD k []).length ≤ c := by
    rcases getD_mem_or (L := tabs) k with h3 | h3
    · exact h _ h3
    · rw [h3]; exact Nat.zero_le _
  omega
theorem putsT_short {X : TiersX} : ∀ {l : List SampV} {tabs : List (List RecV)} {c : Nat}, (∀ m ∈ tabs, m.length ≤ c) → ∀ m ∈ putsT X tabs l, m.length ≤ c + l.length
  | [], _, _, h => h
  | s :: l, tabs, c, h => fun m hm => by
    have := putsT_short (l := l) (addT_short (X := X) h s) m hm
    rw [List.length_cons]
    omega
theorem putsT_tlen {X : TiersX} : ∀ {l : List SampV} {tabs : List (List RecV)}, tabs.length = X.tiers.length → (putsT X tabs l).length = X.tiers.length
  | [], _, h => h
  | s :: l, tabs, h => putsT_tlen (l := l) (tabs := addT X tabs s) (by unfold addT; rw [List.length_map, List.length_range])
theorem GoodX.new {nm : ByteArray} {l : List TierV} {now : Int} {fl : List Int} (h : newE nm l now fl = 0) : GoodX nm l fl (newX nm l now fl) 0 := by
  have hn : 0 ≤ now ∧ now ≤ 1099511627776 := by
    unfold newE at h
    split at h
    · split at h
      · omega
      · omega
    · omega
  have hg : ∀ k, (newX nm l now fl).tabs.getD k [] = [] := fun k => by
    show (l.map fun _ => ([] : List RecV)).getD k [] = []
    rw [List.getD_eq_getElem?_getD, List.getElem?_map]
    cases l[k]? <;> rfl
  refine ⟨rfl, rfl, rfl, hn, by simp [newX], fun m hm => ?_, fun k => ?_, fun k x _ r hr => ?_⟩
  · have hm : m ∈ l.map fun _ => ([] : List RecV) := hm
    obtain ⟨_, _, rfl⟩ := List.mem_map.1 hm
    exact Nat.le_refl _
  · rw [hg]; exact good_nil
  · rw [hg] at hr; cases hr
theorem GoodX.put {nm : ByteArray} {l : List TierV} {fl : List Int} {X : TiersX} {c : Nat} (h : GoodX nm l fl X c) (s : List SampV) : GoodX nm l fl (putX X s) (c + 8) := by
  unfold putX
  split
  · rename_i hE
    have h8 : s.length ≤ 8 := by
      unfold putE at hE
      split at hE
      · omega
      · split at hE <;> omega
    refine ⟨h.name, h.tiers, h.floors, h.now, ?_, fun m hm => ?_, ?_, ?_⟩
    · rw [← h.tiers]; exact putsT_tlen (by rw [h.tlen, h.tiers])
    · have := putsT_short (X := X) (l := s) h.len m hm
      omega
    · exact goodT_congr (putsT_good h.good)
    · have := putsT_grid (X := X) (l := s) h.good (by rw [h.tiers]; exact h.grid)
      rw [h.tiers] at this
      exact this
  · exact ⟨h.name, h.tiers, h.floors, h.now, h.tlen, fun m hm => Nat.le_trans (h.len m hm) (Nat.le_add_right _ _), h.good, h.grid⟩
theorem keepT_good {f : RecV → Bool} {l : List RecV} (h : goodL l) : goodL (keepT f l) := ⟨h.1.filter _, fun r hr => h.2 r (List.mem_filter.1 hr).1⟩
theorem GoodX.tick {nm : ByteArray} {l : List TierV} {fl : List Int} {X : TiersX} {c : Nat} (h : GoodX nm l fl X c) (n : Int) : GoodX nm l fl (tickX X n) c := by
  unfold tickX
  split
  · rename_i hE
    have hn : 0 ≤ n ∧ n ≤ 1099511627776 - X.now := by
      unfold tickE at hE
      split at hE
      · omega
      · split at hE <;> omega
    have h0 := h.now
    have hg : ∀ k, (dropL (X.now + n) X).getD k [] = if k < X.tiers.length then keepT (startBelow (fromV (X.now + n) X.tiers X.floors k)) (X.tabs.getD k []) else [] := fun k => by
      split
      · rename_i hk; exact dropL_getD _ X k hk
      · rename_i hk
        unfold dropL
        rw [List.getD_eq_getElem?_getD, List.getElem?_eq_none (by simpa using hk)]
        rfl
    refine ⟨h.name, h.tiers, h.floors, by simp only; omega, ?_, fun m hm => ?_, fun k => ?_, fun k x hx r hr => ?_⟩
    · show (dropL _ X).length = _
      unfold dropL
      rw [List.length_map, List.length_range, h.tiers]
    · have hm : m ∈ dropL (X.now + n) X := hm
      unfold dropL at hm
      obtain ⟨k, _, rfl⟩ := List.mem_map.1 hm
      have h1 : (keepT (startBelow (fromV (X.now + n) X.tiers X.floors k)) (X.tabs.getD k [])).length ≤ (X.tabs.getD k []).length := List.length_filter_le _ _
      have h2 : (X.tabs.getD k []).length ≤ c := by
        rcases getD_mem_or (L := X.tabs) k with h3 | h3
        · exact h.len _ h3
        · rw [h3]; exact Nat.zero_le _
      omega
    · rw [hg]
      split
      · exact keepT_good (h.good k)
      · exact good_nil
    · rw [hg] at hr
      split at hr
      · exact h.grid k x hx r (List.mem_filter.1 hr).1
      · cases hr
  · exact h
end Go.Proofs.Ytlhhcancfgjfkaa
