/- The plain law of time that goes on in pieces. -/
import Derived.Test.YtlhhcancfgjfkaaTiersAsk
namespace Go.Proofs.Ytlhhcancfgjfkaa
set_option linter.all false
open Go.RowKit

theorem floor_emod {t e : Int} (he : 1 ≤ e) (h0 : -4611686018427387904 ≤ t) (he2 : e ≤ 1000000) : floorV t e = t - t % e := by
  obtain ⟨h1, h2, _, _⟩ := tmod_bd t e he
  have h := Int.tmod_add_mul_tdiv t e
  have hm : t % e = t.tmod e % e := by
    conv => lhs; rw [← h]
    rw [Int.add_mul_emod_self_left]
  have hv : t.tmod e % e = if t.tmod e < 0 then t.tmod e + e else t.tmod e := by
    split
    · rw [← Int.add_emod_right]
      exact Int.emod_eq_of_lt (by omega) (by omega)
    · exact Int.emod_eq_of_lt (by omega) (by omega)
  unfold floorV
  rw [if_neg (by omega), hm, hv]
  split <;> split <;> omega
theorem floor_mono {a b e : Int} (he : 1 ≤ e) (h0 : -4611686018427387904 ≤ a) (he2 : e ≤ 1000000) (hab : a ≤ b) : floorV a e ≤ floorV b e := by
  rw [floor_emod he h0 he2, floor_emod he (by omega) he2]
  have h1 := Int.mul_ediv_add_emod a e
  have h2 := Int.mul_ediv_add_emod b e
  have h3 : a / e ≤ b / e := Int.ediv_le_ediv (by omega) hab
  have h4 : e * (a / e) ≤ e * (b / e) := Int.mul_le_mul_of_nonneg_left h3 (by omega)
  omega
theorem back_mono {a b keep e : Int} (ha : 0 ≤ a) (hk : keep ≤ 1000000) (he2 : e ≤ 1000000) (hab : a ≤ b) : backV a keep e ≤ backV b keep e := by
  unfold backV
  by_cases hz : a < 0 ∨ keep < 0 ∨ e < 1
  · rw [if_pos hz, if_pos (by omega)]
    exact Int.le_refl _
  · rw [if_neg hz, if_neg (by omega)]
    have := floor_mono (a := a - keep) (b := b - keep) (e := e) (by omega) (by omega) he2 (by omega)
    omega
theorem from_mono {a b : Int} {l : List TierV} {fl : List Int} (hl : ∀ t ∈ l, t.keep ≤ 1000000 ∧ t.every ≤ 1000000) (ha : 0 ≤ a) (hab : a ≤ b) (k : Nat) : fromV a l fl k ≤ fromV b l fl k := by
  unfold fromV
  split
  · rename_i x y hx hy
    have hb := back_mono (keep := x.keep) (e := y.every) ha (hl x (mem_of_get hx)).1 (hl y (mem_of_get hy)).2 hab
    simp only
    split <;> omega
  · exact Int.le_refl _
theorem keepT_twice {x y : Int} (h : x ≤ y) (l : List RecV) : keepT (startBelow y) (keepT (startBelow x) l) = keepT (startBelow y) l := by
  unfold keepT
  rw [List.filter_filter]
  refine List.filter_congr fun r _ => ?_
  unfold startBelow
  by_cases h1 : r.start < x
  · have : r.start < y := by omega
    simp [h1, this]
  · by_cases h2 : r.start < y <;> simp [h1, h2]
theorem dropL_getD (N : Int) (X : TiersX) (k : Nat) (hk : k < X.tiers.length) : (dropL N X).getD k [] = keepT (startBelow (fromV N X.tiers X.floors k)) (X.tabs.getD k []) := by
  unfold dropL
  rw [List.getD_eq_getElem?_getD, List.getElem?_map, List.getElem?_range hk]
  rfl
theorem dropL_twice {X : TiersX} {N M : Int} (hl : ∀ t ∈ X.tiers, t.keep ≤ 1000000 ∧ t.every ≤ 1000000) (h0 : 0 ≤ N) (hNM : N ≤ M) (q : Int) : dropL M { X with now := q, tabs := dropL N X } = dropL M X := by
  show (List.range X.tiers.length).map (fun k => keepT (startBelow (fromV M X.tiers X.floors k)) ((dropL N X).getD k [])) = _
  refine List.map_congr_left fun k hk => ?_
  rw [dropL_getD N X k (List.mem_range.1 hk), keepT_twice (from_mono hl h0 hNM k)]
theorem tickX_ok {X : TiersX} {n : Int} (h : tickE X n = 0) : tickX X n = { X with now := X.now + n, tabs := dropL (X.now + n) X } := by unfold tickX; rw [if_pos h]
theorem tick_twice {X : TiersX} {a b : Int} (hl : ∀ t ∈ X.tiers, t.keep ≤ 1000000 ∧ t.every ≤ 1000000) (h0 : 0 ≤ X.now) (ha : 0 ≤ a) (hb : 0 ≤ b) (hm : X.now + a + b ≤ 1099511627776) :
    tickE X a = 0 ∧ tickE (tickX X a) b = 0 ∧ tickE X (a + b) = 0 ∧ tickX (tickX X a) b = tickX X (a + b) ∧ (tickX X a).now = X.now + a ∧ (tickX X a).tiers = X.tiers := by
  have e1 : tickE X a = 0 := by unfold tickE; rw [if_neg (by omega), if_neg (by omega)]
  have e2 : tickE X (a + b) = 0 := by unfold tickE; rw [if_neg (by omega), if_neg (by omega)]
  have x1 := tickX_ok e1
  have e3 : tickE (tickX X a) b = 0 := by rw [x1]; unfold tickE; simp only; rw [if_neg (by omega), if_neg (by omega)]
  refine ⟨e1, e3, e2, ?_, by rw [x1], by rw [x1]⟩
  rw [tickX_ok e3, tickX_ok e2, x1]
  have hd := dropL_twice (X := X) (N := X.now + a) (M := X.now + a + b) hl (by omega) (by omega) (X.now + a)
  simp only at hd ⊢
  rw [hd, Int.add_assoc]
end Go.Proofs.Ytlhhcancfgjfkaa
