/- StateSmall's plain law: with no room nothing is taken, and no change is begun. -/
import Derived.Test.YtkfdgodngbinlaaGreatDoorStM
import Derived.Test.YtkfdgodngbinlaaGreatDoorGoodX
import Derived.Test.YtkfdgodngbinlaaGreatDoorLowLaw
namespace Go.Proofs.YtkfdgodngbinlaaGreatDoor
set_option linter.all false
open Go.RowKit

theorem mem_le_sum : ∀ {L : List Nat} {x : Nat}, x ∈ L → x ≤ L.sum
 | a :: L, x, h => by
  rw [List.sum_cons]
  rcases List.mem_cons.1 h with rfl | h
  ·omega
  ·have := mem_le_sum h; omega
theorem needV_pos {M : Int} {l : List RecV} (hM : 1 ≤ M) (hl : l ≠ []) : 1 ≤ needV M l := by
 obtain ⟨r, hr⟩ : ∃ r, r ∈ l := by
  cases l with
  | nil => exact absurd rfl hl
  | cons a l => exact ⟨a, by simp⟩
 have hs := shard_lt (s := r.name) hM
 obtain ⟨k, hk⟩ : ∃ k : Nat, shardV r.name M = (k : Int) := ⟨(shardV r.name M).toNat, by omega⟩
 have h1 : 1 ≤ cntS M l k := by
  unfold cntS
  exact List.length_pos_of_mem (List.mem_filter.2 ⟨hr, by simp [hk]⟩)
 have h2 : (cntS M l k + 2) / 3 ∈ ((List.range M.toNat).map fun k => (cntS M l k + 2) / 3) := List.mem_map.2 ⟨k, List.mem_range.2 (by omega), rfl⟩
 have := mem_le_sum h2
 unfold needV
 omega
theorem insR_ne (mg : Option AggV → AggV → AggV) (l : List RecV) (r : RecV) : insR mg l r ≠ [] := by
 cases l with
 | nil => simp [insR]
 | cons x l =>
  unfold insR
  split
  ·simp
  ·split <;> simp
theorem put_need {X : TiersX} {x : TierV} {rest : List TierV} (hx : X.tiers = x :: rest) (he : x.every = 1) (hsh : 1 ≤ x.shards) (ht : X.tabs.length = X.tiers.length) {s : List SampV} (hE : putE X s = 0) : 1 ≤ needX (putX X s) := by
 have hP : putX X s = { X with tabs := putsT X X.tabs s } := by unfold putX; rw [if_pos hE]
 unfold putE at hE
 have hn : s ≠ [] := by
  rintro rfl
  simp at hE
 rw [if_neg (by simpa using hn)] at hE
 have h8 : ¬ 8 < s.length := by
  intro h
  rw [if_pos h] at hE
  cases hE
 rw [if_neg h8] at hE
 obtain ⟨l', z, rfl⟩ : ∃ l' z, s = l' ++ [z] := ⟨s.dropLast, s.getLast hn, (List.dropLast_concat_getLast hn).symm⟩
 have hz : takesV X.now X.tiers X.floors z = 0 := by
  unfold firstE at hE
  split at hE
  ·rename_i y hy
   have := List.find?_some hy
   simp only [ne_eq, decide_not, Bool.not_eq_true', decide_eq_false_iff_not] at this
   exact absurd hE this
  ·rename_i hy
   have := List.find?_eq_none.1 hy z (by simp)
   simpa using this
 have hz2 : validB z.name = true ∧ 0 ≤ z.time ∧ fromI X.now X.tiers X.floors 0 ≤ z.time := by
  unfold takesV at hz
  split at hz
  ·rename_i h1
   split at hz
   ·cases hz
   ·split at hz
    ·rename_i h2
     exact ⟨h1.1, h1.2, h2.2⟩
    ·cases hz
  ·cases hz
 have hfl : floorV z.time 1 = z.time := by
  unfold floorV
  rw [if_neg (by omega)]
  have : z.time.tmod 1 = 0 := by simp [Int.tmod_one]
  rw [this]
  simp
 have hst : startV X.now X.tiers X.floors (0 : Nat) z.time = (z.time, true) := by
  unfold startV
  have hl : X.tiers.length = rest.length + 1 := by rw [hx]; rfl
  rw [if_pos ⟨by omega, by omega, hz2.2.1⟩]
  have : X.tiers[((0 : Nat) : Int).toNat]? = some x := by rw [hx]; rfl
  rw [this]
  simp only [he, hfl, Prod.mk.injEq, true_and, decide_eq_true_eq]
  exact hz2.2.2
 have hst0 : ∀ m, stepL X z 0 m ≠ [] := fun m => by
  unfold stepL
  rw [hst]
  have : X.tiers[0]? = some x := by rw [hx]; rfl
  rw [this]
  simp only [if_true]
  unfold addV
  have hr : rightR x.every ⟨z.name, z.time, aggOne z.value⟩ = true := by
   unfold rightR onB
   simp [hz2.1, hz2.2.1, he, aggOk_one, Int.tmod_one]
  rw [if_pos hr]
  exact insR_ne _ _ _
 have hlen : (putsT X X.tabs (l' ++ [z])).length = X.tiers.length := putsT_tlen ht
 have hhead : (putsT X X.tabs (l' ++ [z])).getD 0 [] ≠ [] := by
  rw [putsT_snoc, addT_getD, if_pos (by rw [hx]; exact Nat.succ_pos _)]
  exact hst0 _
 rw [hP]
 unfold needX needsX
 show 1 ≤ (List.zipWith _ X.tiers (putsT X X.tabs (l' ++ [z]))).sum
 cases hq : putsT X X.tabs (l' ++ [z]) with
 | nil => rw [hq, hx] at hlen; cases hlen
 | cons m ms =>
  rw [hq] at hhead
  rw [hx, List.zipWith_cons_cons, List.sum_cons]
  have hm : m ≠ [] := hhead
  have := needV_pos (M := max x.shards 1) (by omega) hm
  omega
theorem web8_tiers : ∃ x rest, (readV web8).2.2 = x :: rest ∧ x.every = 1 ∧ 1 ≤ x.shards := by
 have h : (((readV web8).2.2).map fun x => decide (x.every = 1 ∧ 1 ≤ x.shards))[0]? = some true := by decide +kernel
 cases hq : (readV web8).2.2 with
 | nil => rw [hq] at h; cases h
 | cons x rest =>
  rw [hq] at h
  refine ⟨x, rest, rfl, ?_⟩
  simpa using h
structure SmR (R : Int × ByteArray × List TierV) : Prop where
 e : R.1 = 0
 good : StGood (stNewQ 0 R) 0
 head : ∃ x rest, R.2.2 = x :: rest ∧ x.every = 1 ∧ 1 ≤ x.shards
 fills : fillsV R.2.2 = 3
theorem web8_fills : fillsV (readV web8).2.2 = 3 := by decide +kernel
theorem web8_sm : SmR (readV web8) := ⟨web8_read, stNew_good (rm_new ⟨by decide, by decide⟩), web8_tiers, web8_fills⟩
section
variable {R : Int × ByteArray × List TierV}
def smQ (R : Int × ByteArray × List TierV) (n : Int) : StX := stTick (stNewQ 0 R) n
theorem sm_tickE {n : Int} (h : 0 ≤ n ∧ n ≤ 1000) : tickE (stNewQ 0 R).X n = 0 := by
 unfold tickE
 rw [if_neg (by omega)]
 have : (stNewQ 0 R).X.now = 0 := rfl
 rw [this, if_neg (by omega)]
theorem sm_good (h : SmR R) (n : Int) : StGood (smQ R n) 0 := h.good.tick (by decide) n
theorem sm_room (n : Int) : (smQ R n).room = 0 := stTick_room _ _
theorem sm_ch (n : Int) : (smQ R n).ch = none := by
 unfold smQ stTick
 split <;> rfl
theorem sm_need (h : SmR R) (n : Int) : needX (smQ R n).X = 0 := by
 have h := (sm_good h n).need
 rw [sm_ch, sm_room] at h
 have h : ((needX (smQ R n).X : Nat) : Int) + 0 ≤ 0 := h
 omega
theorem sm_parts (n : Int) : (smQ R n).X.tiers = R.2.2 := by
 unfold smQ stTick
 split
 ·exact (tickX_parts _ n).2.1
 ·rfl
theorem sm_tabs (n : Int) : ∀ m ∈ (smQ R n).X.tabs, m = [] := by
 intro m hm
 unfold smQ stTick at hm
 split at hm
 ·rename_i hE
  have hm : m ∈ (tickX (stNewQ 0 R).X n).tabs := hm
  rw [tickX_ok hE] at hm
  have hm : m ∈ dropL ((stNewQ 0 R).X.now + n) (stNewQ 0 R).X := hm
  unfold dropL at hm
  obtain ⟨k, _, rfl⟩ := List.mem_map.1 hm
  have : (stNewQ 0 R).X.tabs.getD k [] = [] := getD_nil_new k
  rw [this]
  rfl
 ·obtain ⟨_, _, rfl⟩ := List.mem_map.1 hm
  rfl
theorem sm_len (n : Int) : lenX (smQ R n).X = 0 := by
 unfold lenX
 have h := sm_tabs (R := R) n
 generalize (smQ R n).X.tabs = L at h
 induction L with
 | nil => rfl
 | cons a L ih =>
  rw [List.map_cons, List.sum_cons, ih (fun m hm => h m (List.mem_cons_of_mem _ hm)), h a (by simp)]
  rfl
def smW (R : Int × ByteArray × List TierV) (n : Int) (l : List SampV) : Int := if l.length = 0 then 1 else if firstE (smQ R n).X l = 0 then 20 else firstE (smQ R n).X l
theorem sm_put (hR : SmR R) (n : Int) {l : List SampV} (h8 : l.length ≤ 8) : stPutE (smQ R n) l = smW R n l ∧ stPut (smQ R n) l = smQ R n := by
 have hp : putE (smQ R n).X l = if l.length = 0 then 1 else firstE (smQ R n).X l := by unfold putE; rw [if_neg (show ¬ 8 < l.length by omega)]
 have hE : stPutE (smQ R n) l = smW R n l := by
  unfold stPutE smW
  by_cases h0 : l.length = 0
  ·rw [hp, if_pos h0, if_neg (by decide), if_pos h0]
  ·rw [if_neg h0] at hp
   rw [if_neg h0]
   by_cases hf : firstE (smQ R n).X l = 0
   ·rw [hp, if_pos hf, if_pos hf]
    obtain ⟨x, rest, h1, h2, h3⟩ := hR.head
    have hg := (sm_good hR n).good
    have hnd := put_need (X := (smQ R n).X) (x := x) (rest := rest) (by rw [sm_parts, h1]) h2 h3 (hg.tlen) (s := l) (by rw [hp, hf])
    have hr : roomB (smQ R n) (putX (smQ R n).X l) = false := by
     unfold roomB
     rw [sm_ch, sm_room]
     have : decide (((needX (putX (smQ R n).X l) : Nat) : Int) + boundO none ≤ 0) = false := decide_eq_false (by show ¬ (_ + (0 : Int) ≤ 0); omega)
     rw [this]
     rfl
    rw [hr]
    rfl
   ·rw [hp, if_neg hf, if_neg hf]
 refine ⟨hE, ?_⟩
 have hne : stPutE (smQ R n) l ≠ 0 := by
  rw [hE]
  unfold smW
  split
  ·decide
  ·split
   ·decide
   ·assumption
 unfold stPut
 rw [if_neg hne]
theorem sm_change (hR : SmR R) (n : Int) : stChangeE (smQ R n) R = 20 ∧ stChange (smQ R n) R = smQ R n := by
 have hE : stChangeE (smQ R n) R = 20 := by
  unfold stChangeE
  rw [sm_ch]
  simp only
  rw [if_pos hR.e, if_neg]
  rw [sm_need hR, sm_room]
  have e : (beginS (smQ R n).X R.2.1 R.2.2).bound = 2 * ((needX ((beginS (smQ R n).X R.2.1 R.2.2).built (smQ R n).X) : Nat) : Int) + fillsV R.2.2 := rfl
  rw [hR.fills] at e
  omega
 refine ⟨hE, ?_⟩
 unfold stChange
 rw [if_neg (by rw [hE]; decide)]
end
end Go.Proofs.YtkfdgodngbinlaaGreatDoor
