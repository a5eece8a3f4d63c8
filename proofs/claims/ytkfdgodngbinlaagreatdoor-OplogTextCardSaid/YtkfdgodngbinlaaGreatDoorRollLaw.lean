/- The plain law of what a tier has: of all samples that ever came, those of its buckets that are not below its reach. -/
import Derived.Test.YtkfdgodngbinlaaGreatDoorGoodX
namespace Go.Proofs.YtkfdgodngbinlaaGreatDoor
set_option linter.all false
open Go.RowKit

theorem findA_keep {so : RecV → Bool} (hso : ∀ x y, skey x y → so x = so y) {l : List RecV} {r : RecV} (hr : so r = false) : findA (keepT so l) r = findA l r := by
 unfold findA keepT
 rw [List.find?_filter]
 congr 2
 funext x
 by_cases h : skey x r
 ·simp [h, hso x r h, hr]
 ·simp [h]
theorem keep_ins_hi {so : RecV → Bool} (hso : ∀ x y, skey x y → so x = so y) {l : List RecV} (hs : Sorted l) {r : RecV} (hr : so r = false) : keepT so (insR mgM l r) = insR mgM (keepT so l) r := by
 have hk : Sorted (keepT so l) := hs.filter _
 refine Sorted.ext ((insR_sorted mgM hs).filter _) (insR_sorted mgM hk) (fun y => ?_)
 have e : newR mgM (keepT so l) r = newR mgM l r := by unfold newR; rw [findA_keep hso hr]
 have h1 : y ∈ keepT so (insR mgM l r) ↔ y ∈ insR mgM l r ∧ (!so y) = true := List.mem_filter
 have h2 : y ∈ keepT so l ↔ y ∈ l ∧ (!so y) = true := List.mem_filter
 show y ∈ keepT so (insR mgM l r) ↔ _
 rw [h1, mem_insR mgM hs, mem_insR mgM hk, e, h2]
 constructor
 ·rintro ⟨h | ⟨h, k⟩, k2⟩
  ·exact .inl h
  ·exact .inr ⟨⟨h, k2⟩, k⟩
 ·rintro (h | ⟨⟨h, k2⟩, k⟩)
  ·refine ⟨.inl h, ?_⟩
   rw [h, hso _ r (newR_key mgM l r), hr]
   rfl
  ·exact ⟨.inr ⟨h, k⟩, k2⟩
theorem keep_ins_lo {so : RecV → Bool} (hso : ∀ x y, skey x y → so x = so y) {l : List RecV} (hs : Sorted l) {r : RecV} (hr : so r = true) : keepT so (insR mgM l r) = keepT so l := by
 refine Sorted.ext ((insR_sorted mgM hs).filter _) (hs.filter _) (fun y => ?_)
 show y ∈ keepT so (insR mgM l r) ↔ y ∈ keepT so l
 have h1 : y ∈ keepT so (insR mgM l r) ↔ y ∈ insR mgM l r ∧ (!so y) = true := List.mem_filter
 have h2 : y ∈ keepT so l ↔ y ∈ l ∧ (!so y) = true := List.mem_filter
 rw [h1, mem_insR mgM hs, h2]
 constructor
 ·rintro ⟨h | ⟨h, k⟩, k2⟩
  ·rw [h, hso _ r (newR_key mgM l r), hr] at k2
   cases k2
  ·exact ⟨h, k2⟩
 ·rintro ⟨h, k2⟩
  refine ⟨.inr ⟨h, fun k => ?_⟩, k2⟩
  rw [hso _ r k, hr] at k2
  cases k2
theorem keep_add_hi {every : Int} {so : RecV → Bool} (hso : ∀ x y, skey x y → so x = so y) {l : List RecV} (hs : Sorted l) {r : RecV} (hr : so r = false) : keepT so (addV every l r) = addV every (keepT so l) r := by
 unfold addV
 split
 ·exact keep_ins_hi hso hs hr
 ·rfl
theorem keep_add_lo {every : Int} {so : RecV → Bool} (hso : ∀ x y, skey x y → so x = so y) {l : List RecV} (hs : Sorted l) {r : RecV} (hr : so r = true) : keepT so (addV every l r) = keepT so l := by
 unfold addV
 split
 ·exact keep_ins_lo hso hs hr
 ·rfl
theorem startBelow_key (b : Int) : ∀ x y, skey x y → startBelow b x = startBelow b y := fun x y h => by unfold startBelow; rw [h.2]
theorem fromI_nat {now : Int} {l : List TierV} {fl : List Int} {k : Nat} (hk : k < l.length) : fromI now l fl (k : Int) = fromV now l fl k := by
 unfold fromI
 rw [if_pos (by omega), Int.toNat_natCast]
theorem keep_step {X Y : TiersX} (ht : Y.tiers = X.tiers) {k : Nat} (hle : fromV X.now X.tiers X.floors k ≤ fromV Y.now Y.tiers Y.floors k) {l : List RecV} (hs : Sorted l) (s : SampV) :
  keepT (startBelow (fromV Y.now Y.tiers Y.floors k)) (stepL X s k l) = stepL Y s k (keepT (startBelow (fromV Y.now Y.tiers Y.floors k)) l) := by
 rw [ht] at hle ⊢
 unfold stepL startV
 rw [ht]
 simp only [Int.toNat_natCast]
 cases hx : X.tiers[k]? with
 | none => rfl
 | some x =>
  have hk : k < X.tiers.length := (List.getElem?_eq_some_iff.1 hx).1
  simp only
  by_cases h0 : 0 ≤ s.time
  ·have hc : 0 ≤ (k : Int) ∧ (k : Int) < (X.tiers.length : Int) ∧ 0 ≤ s.time := ⟨by omega, by omega, h0⟩
   simp only [if_pos hc, fromI_nat hk, decide_eq_true_eq]
   generalize fromV X.now X.tiers X.floors k = f at hle ⊢
   generalize fromV Y.now X.tiers Y.floors k = g at hle ⊢
   by_cases h1 : f ≤ floorV s.time x.every
   ·rw [if_pos h1]
    by_cases h2 : g ≤ floorV s.time x.every
    ·rw [if_pos h2]
     exact keep_add_hi (startBelow_key g) hs (by unfold startBelow; simp; omega)
    ·rw [if_neg h2]
     exact keep_add_lo (startBelow_key g) hs (by unfold startBelow; simp; omega)
   ·rw [if_neg h1, if_neg (by omega)]
  ·have hc : ¬ (0 ≤ (k : Int) ∧ (k : Int) < (X.tiers.length : Int) ∧ 0 ≤ s.time) := fun h => h0 h.2.2
   simp only [if_neg hc]
   simp
def viewG (X : TiersX) (k : Nat) (l : List RecV) (all : List SampV) : List RecV := all.foldl (fun l s => stepL X s k l) l
def viewL (X : TiersX) (k : Nat) (all : List SampV) : List RecV := viewG X k [] all
theorem viewG_app (X : TiersX) (k : Nat) (l : List RecV) (a b : List SampV) : viewG X k l (a ++ b) = viewG X k (viewG X k l a) b := by unfold viewG; rw [List.foldl_append]
theorem viewG_keep {X Y : TiersX} (ht : Y.tiers = X.tiers) {k : Nat} (hle : fromV X.now X.tiers X.floors k ≤ fromV Y.now Y.tiers Y.floors k) : ∀ {all : List SampV} {l : List RecV}, goodL l →
  keepT (startBelow (fromV Y.now Y.tiers Y.floors k)) (viewG X k l all) = viewG Y k (keepT (startBelow (fromV Y.now Y.tiers Y.floors k)) l) all
 | [], _, _ => rfl
 | s :: all, l, h => by
  show keepT _ (viewG X k (stepL X s k l) all) = viewG _ k (stepL _ s k _) all
  rw [viewG_keep ht hle (stepL_good h s k), keep_step ht hle h.1]
def ViewX (X : TiersX) (all : List SampV) : Prop := ∀ k, k < X.tiers.length → X.tabs.getD k [] = viewL X k all
theorem putsT_view {X : TiersX} {k : Nat} (hk : k < X.tiers.length) : ∀ {ss : List SampV} {tabs : List (List RecV)}, (putsT X tabs ss).getD k [] = viewG X k (tabs.getD k []) ss
 | [], _ => rfl
 | s :: ss, tabs => by
  rw [putsT_cons, putsT_view hk, addT_getD, if_pos hk]
  rfl
theorem ViewX.new (nm : ByteArray) (l : List TierV) (now : Int) (fl : List Int) : ViewX (newX nm l now fl) [] := fun k hk => by
 show (l.map fun _ => ([] : List RecV)).getD k [] = []
 rw [List.getD_eq_getElem?_getD, List.getElem?_map]
 cases l[k]? <;> rfl
theorem ViewX.put {X : TiersX} {all : List SampV} (h : ViewX X all) {s : List SampV} (hE : putE X s = 0) : ViewX (putX X s) (all ++ s) := by
 intro k hk
 unfold putX at hk ⊢
 rw [if_pos hE] at hk ⊢
 simp only at hk ⊢
 rw [putsT_view hk, h k hk]
 unfold viewL
 rw [viewG_app]
 rfl
theorem ViewX.tick {X : TiersX} {all : List SampV} (h : ViewX X all) (hl : ∀ t ∈ X.tiers, t.keep ≤ 1000000 ∧ t.every ≤ 1000000) (h0 : 0 ≤ X.now) (n : Int) : ViewX (tickX X n) all := by
 intro k hk
 unfold tickX at hk ⊢
 split
 ·rename_i hE
  rw [if_pos hE] at hk
  simp only at hk ⊢
  have hn : 0 ≤ n := by
   unfold tickE at hE
   split at hE
   ·omega
   ·omega
  rw [dropL_getD _ X k hk, h k hk]
  exact viewG_keep (X := X) (Y := ⟨X.now + n, X.name, X.tiers, X.floors, dropL (X.now + n) X⟩) rfl (from_mono (a := X.now) (b := X.now + n) hl h0 (by omega) k) good_nil
 ·rename_i hE
  rw [if_neg hE] at hk
  exact h k hk
end Go.Proofs.YtkfdgodngbinlaaGreatDoor
namespace Go.Proofs.YtkfdgodngbinlaaGreatDoor
set_option linter.all false
open Go.RowKit

theorem bothV_assoc {a b c : AggV} (ha : aggOk a = true) (hb : aggOk b = true) (hc : aggOk c = true) : bothV c (bothV a b) = bothV (bothV c a) b := by
 have ho1 := bothV_ok hc ha
 have ho2 := bothV_ok ha hb
 obtain ⟨h1, h2, h3⟩ := aggOk_pos ha
 obtain ⟨k1, k2, k3⟩ := aggOk_pos hb
 obtain ⟨m1, m2, m3⟩ := aggOk_pos hc
 have e1 : (bothV c a) = ⟨if c.count < 4611686018427387904 - a.count then c.count + a.count else 4611686018427387904, wrap64 (c.hi + a.hi + (c.lo + a.lo) / 18446744073709551616), (c.lo + a.lo) % 18446744073709551616, min c.min a.min, max c.max a.max⟩ := by
  unfold bothV
  rw [if_neg (by omega)]
 have e2 : (bothV a b) = ⟨if a.count < 4611686018427387904 - b.count then a.count + b.count else 4611686018427387904, wrap64 (a.hi + b.hi + (a.lo + b.lo) / 18446744073709551616), (a.lo + b.lo) % 18446744073709551616, min a.min b.min, max a.max b.max⟩ := by
  unfold bothV
  rw [if_neg (by omega)]
 have p1 := (aggOk_pos ho1).1
 rw [e1] at p1 ⊢
 rw [e2]
 unfold bothV
 simp only at p1 ⊢
 rw [if_neg (show ¬ c.count = 0 by omega), if_neg (show ¬ (if c.count < 4611686018427387904 - a.count then c.count + a.count else 4611686018427387904) = 0 by omega), AggV.mk.injEq]
 refine ⟨?_, ?_, by omega, by omega, by omega⟩
 ·repeat' split
  all_goals omega
 ·unfold wrap64
  omega
theorem mgM_assoc {o : Option AggV} {a b : AggV} (ho : ∀ x, o = some x → aggOk x = true) (ha : aggOk a = true) (hb : aggOk b = true) : mgM o (bothV a b) = mgM (some (mgM o a)) b := by
 rw [mgM_some (mgM_ok ho ha) hb]
 cases o with
 | none => rw [mgM_none ha, mgM_none (bothV_ok ha hb)]
 | some x => rw [mgM_some (ho x rfl) ha, mgM_some (ho x rfl) (bothV_ok ha hb), bothV_assoc ha hb (ho x rfl)]
theorem ins_twice {l : List RecV} (hs : Sorted l) (ho : okL l) (n : ByteArray) (st : Int) {a b : AggV} (ha : aggOk a = true) (hb : aggOk b = true) : insR mgM (insR mgM l ⟨n, st, a⟩) ⟨n, st, b⟩ = insR mgM l ⟨n, st, bothV a b⟩ := by
 have hI := insR_sorted mgM (r := ⟨n, st, a⟩) hs
 have hk : skey (⟨n, st, a⟩ : RecV) ⟨n, st, b⟩ := ⟨rfl, rfl⟩
 have hk2 : skey (⟨n, st, bothV a b⟩ : RecV) ⟨n, st, b⟩ := ⟨rfl, rfl⟩
 have hk3 : skey (⟨n, st, bothV a b⟩ : RecV) ⟨n, st, a⟩ := ⟨rfl, rfl⟩
 refine Sorted.ext (insR_sorted mgM hI) (insR_sorted mgM hs) (fun y => ?_)
 rw [mem_insR mgM hI, mem_insR mgM hs, mem_insR mgM hs]
 have e : newR mgM (insR mgM l ⟨n, st, a⟩) ⟨n, st, b⟩ = newR mgM l ⟨n, st, bothV a b⟩ := by
  unfold newR
  rw [findA_ins hs, if_pos hk]
  simp only
  rw [findA_key hk3, mgM_assoc (findA_ok ho _) ha hb]
 rw [e]
 constructor
 ·rintro (h | ⟨h | ⟨h, hn1⟩, hn2⟩)
  ·exact .inl h
  ·exact absurd (h ▸ (newR_key mgM l ⟨n, st, a⟩ : skey _ _)) (fun h3 => hn2 (skey_trans h3 hk))
  ·exact .inr ⟨h, fun h3 => hn1 h3⟩
 ·rintro (h | ⟨h, hn⟩)
  ·exact .inl h
  ·exact .inr ⟨.inr ⟨h, fun h3 => hn h3⟩, fun h3 => hn h3⟩
theorem addV_twice {e : Int} {l : List RecV} (h : goodL l) (n : ByteArray) (st : Int) {a b : AggV} (ha : aggOk a = true) (hb : aggOk b = true) : addV e (addV e l ⟨n, st, a⟩) ⟨n, st, b⟩ = addV e l ⟨n, st, bothV a b⟩ := by
 unfold addV rightR
 simp only [ha, hb, bothV_ok ha hb]
 split
 ·exact ins_twice h.1 h.2 n st ha hb
 ·rfl
theorem addsV_good {e : Int} : ∀ {rs : List RecV} {l : List RecV}, goodL l → goodL (addsV e l rs)
 | [], _, h => h
 | r :: rs, _, h => addsV_good (rs := rs) (addV_good h r)
def rollR (e fr : Int) (acc : List RecV) (r : RecV) : List RecV := if fr ≤ floorV r.start e then addV e acc ⟨r.name, floorV r.start e, r.agg⟩ else acc
def rollsR (e fr : Int) (acc l : List RecV) : List RecV := l.foldl (rollR e fr) acc
theorem rolls_eq (e fr : Int) : ∀ (l acc : List RecV), addsV e acc (rollL e fr l) = rollsR e fr acc l
 | [], _ => rfl
 | x :: l, acc => by
  show _ = rollsR e fr (rollR e fr acc x) l
  rw [← rolls_eq e fr l]
  unfold rollL rollR
  rw [List.map_cons]
  by_cases h : fr ≤ floorV x.start e
  ·rw [List.filter_cons_of_pos (by simpa using h), if_pos h]
   rfl
  ·rw [List.filter_cons_of_neg (by simpa using h), if_neg h]
theorem rollR_good {e fr : Int} {acc : List RecV} (h : goodL acc) (r : RecV) : goodL (rollR e fr acc r) := by
 unfold rollR
 split
 ·exact addV_good h _
 ·exact h
theorem rollsR_good {e fr : Int} : ∀ {l acc : List RecV}, goodL acc → goodL (rollsR e fr acc l)
 | [], _, h => h
 | x :: l, _, h => rollsR_good (l := l) (rollR_good h x)
theorem rollR_comm {e fr : Int} {acc : List RecV} (h : goodL acc) (a b : RecV) : rollR e fr (rollR e fr acc a) b = rollR e fr (rollR e fr acc b) a := by
 unfold rollR
 by_cases h1 : fr ≤ floorV a.start e <;> by_cases h2 : fr ≤ floorV b.start e <;> simp only [h1, h2, if_true, if_false]
 exact addV_comm h _ _
theorem rollsR_late {e fr : Int} (r : RecV) : ∀ {l acc : List RecV}, goodL acc → rollsR e fr (rollR e fr acc r) l = rollR e fr (rollsR e fr acc l) r
 | [], _, _ => rfl
 | y :: l, acc, h => by
  show rollsR e fr (rollR e fr (rollR e fr acc r) y) l = rollR e fr (rollsR e fr (rollR e fr acc y) l) r
  rw [rollR_comm h, rollsR_late r (rollR_good h y)]
theorem rolls_ins {e fr : Int} {r : RecV} (hr : aggOk r.agg = true) : ∀ {l acc : List RecV}, goodL acc → okL l → rollsR e fr acc (insR mgM l r) = rollsR e fr (rollR e fr acc r) l
 | [], acc, _, _ => by
  unfold insR
  rw [mgM_none hr]
  rfl
 | x :: l, acc, hg, ho => by
  have hx := ho x (by simp)
  have ho' : okL l := fun y hy => ho y (List.mem_cons_of_mem _ hy)
  unfold insR
  split
  ·show rollsR e fr (rollR e fr acc x) (insR mgM l r) = rollsR e fr (rollR e fr (rollR e fr acc r) x) l
   rw [rolls_ins hr (rollR_good hg x) ho', rollR_comm hg]
  ·split
   ·rename_i hk
    show rollsR e fr (rollR e fr acc ⟨r.name, r.start, mgM (some x.agg) r.agg⟩) l = rollsR e fr (rollR e fr (rollR e fr acc r) x) l
    congr 1
    rw [rollR_comm hg, mgM_some hx hr]
    unfold rollR
    simp only
    rw [hk.2]
    split
    ·rw [hk.1]
     exact (addV_twice hg r.name (floorV r.start e) hx hr).symm
    ·rfl
   ·rw [mgM_none hr]
    rfl
theorem rolls_add {e1 e fr : Int} {l acc : List RecV} (hg : goodL acc) (hl : goodL l) {r : RecV} (hr : rightR e1 r = true) : rollsR e fr acc (addV e1 l r) = rollR e fr (rollsR e fr acc l) r := by
 have ha : aggOk r.agg = true := by unfold rightR at hr; simp only [Bool.and_eq_true] at hr; exact hr.2
 unfold addV
 rw [if_pos hr, rolls_ins ha hg hl.2, rollsR_late r hg]
theorem insR_end {r : RecV} : ∀ {l : List RecV}, (∀ x ∈ l, klt x r) → aggOk r.agg = true → insR mgM l r = l ++ [r]
 | [], _, h => by unfold insR; rw [mgM_none h]; rfl
 | x :: l, hl, h => by
  unfold insR
  rw [if_pos (hl x (by simp)), insR_end (fun y hy => hl y (List.mem_cons_of_mem _ hy)) h]
  rfl
theorem adds_self {e : Int} : ∀ {l acc : List RecV}, Sorted (acc ++ l) → (∀ r ∈ l, rightR e r = true) → addsV e acc l = acc ++ l
 | [], acc, _, _ => by simp [addsV]
 | r :: l, acc, hs, hr => by
  have h1 := hr r (by simp)
  have ha : aggOk r.agg = true := by unfold rightR at h1; simp only [Bool.and_eq_true] at h1; exact h1.2
  have hk : ∀ x ∈ acc, klt x r := fun x hx => (List.pairwise_append.1 hs).2.2 x hx r (by simp)
  show addsV e (addV e acc r) l = _
  unfold addV
  rw [if_pos h1, insR_end hk ha, adds_self (by rw [List.append_assoc]; exact hs) (fun y hy => hr y (List.mem_cons_of_mem _ hy)), List.append_assoc]
  rfl
theorem addV_right {e : Int} {l : List RecV} (hg : goodL l) (h : ∀ r ∈ l, rightR e r = true) (r : RecV) : ∀ y ∈ addV e l r, rightR e y = true := by
 intro y hy
 unfold addV at hy
 split at hy
 ·rename_i hr
  rcases (mem_insR mgM hg.1 y).1 hy with rfl | ⟨hy, _⟩
  ·unfold rightR at hr ⊢
   simp only [Bool.and_eq_true] at hr ⊢
   exact ⟨hr.1, mgM_ok (findA_ok hg.2 r) hr.2⟩
  ·exact h y hy
 ·exact h y hy
theorem addV_from {e fr : Int} {l : List RecV} (hg : goodL l) (h : ∀ r ∈ l, fr ≤ r.start) {r : RecV} (hr : fr ≤ r.start) : ∀ y ∈ addV e l r, fr ≤ y.start := by
 intro y hy
 unfold addV at hy
 split at hy
 ·rcases (mem_insR mgM hg.1 y).1 hy with rfl | ⟨hy, _⟩
  ·exact hr
  ·exact h y hy
 ·exact h y hy
theorem rollsR_right {e fr : Int} : ∀ {l acc : List RecV}, goodL acc → (∀ r ∈ acc, rightR e r = true ∧ fr ≤ r.start) → ∀ r ∈ rollsR e fr acc l, rightR e r = true ∧ fr ≤ r.start
 | [], _, _, h => h
 | x :: l, acc, hg, h => rollsR_right (l := l) (rollR_good hg x) (fun r hr => by
  unfold rollR at hr
  split at hr
  ·rename_i hf
   exact ⟨addV_right hg (fun y hy => (h y hy).1) _ r hr, addV_from hg (fun y hy => (h y hy).2) hf r hr⟩
  ·exact h r hr)
theorem rollV_right {e1 e fr : Int} {l : List RecV} : goodL (rollV e1 e fr l) ∧ ∀ r ∈ rollV e1 e fr l, rightR e r = true ∧ fr ≤ r.start := by
 unfold rollV
 split
 ·rw [rolls_eq]
  exact ⟨rollsR_good good_nil, rollsR_right good_nil (fun r hr => by cases hr)⟩
 ·exact ⟨good_nil, fun r hr => by cases hr⟩
theorem adds_roll {e1 e fr : Int} {l : List RecV} : addsV e [] (rollV e1 e fr l) = rollV e1 e fr l := by
 obtain ⟨h1, h2⟩ := rollV_right (e1 := e1) (e := e) (fr := fr) (l := l)
 exact adds_self (acc := []) h1.1 (fun r hr => (h2 r hr).1)
theorem floor_is {t e : Int} (h0 : 0 ≤ t) (he : 1 ≤ e) : floorV t e = t - t % e := by
 unfold floorV
 obtain ⟨_, _, h3, _⟩ := tmod_bd t e he
 rw [if_neg (by omega), if_neg (by have := (h3 h0).1; omega), Int.tmod_eq_emod_of_nonneg h0]
theorem floor_floor {t a b : Int} (h0 : 0 ≤ t) (ha : 1 ≤ a) (hb : 1 ≤ b) (hd : a ∣ b) : floorV (floorV t a) b = floorV t b := by
 obtain ⟨f1, f2, _⟩ := floor_on h0 ha
 rw [floor_is f1 hb, floor_is h0 ha, floor_is h0 hb]
 obtain ⟨c, rfl⟩ := hd
 have h1 := Int.mul_ediv_add_emod t (a * c)
 have h2 := Int.mul_ediv_add_emod t a
 have h3 : t % a = t % (a * c) % a := (Int.emod_emod_of_dvd t (Int.dvd_mul_right a c)).symm
 have hc : 0 < c := by
  rcases Int.lt_or_le 0 c with h | h
  ·exact h
  ·have := Int.mul_nonpos_of_nonneg_of_nonpos (show 0 ≤ a by omega) h; omega
 have h4 := Int.emod_nonneg t (show a * c ≠ 0 by omega)
 have h5 := Int.emod_lt_of_pos t (show 0 < a * c by omega)
 have h6 := Int.emod_nonneg (t % (a * c)) (show a ≠ 0 by omega)
 have h7 : t % (a * c) % a ≤ t % (a * c) := by
  have := Int.mul_ediv_add_emod (t % (a * c)) a
  have h8 : 0 ≤ t % (a * c) / a := Int.ediv_nonneg h4 (by omega)
  have h9 := Int.mul_nonneg (show 0 ≤ a by omega) h8
  omega
 have e : (t - t % a) % (a * c) = t % (a * c) - t % a := by
  have h8 : t - t % a = (t % (a * c) - t % a) + (a * c) * (t / (a * c)) := by omega
  rw [h8, Int.add_mul_emod_self_left]
  exact Int.emod_eq_of_lt (by omega) (by omega)
 rw [e]
 omega
theorem right_one {n : ByteArray} {t e v : Int} (h0 : 0 ≤ t) (he : 1 ≤ e) : rightR e ⟨n, floorV t e, aggOne v⟩ = validB n := by
 obtain ⟨f1, _, f3⟩ := floor_on h0 he
 unfold rightR
 simp [f1, f3, aggOk_one]
theorem roll_step {X Y : TiersX} {i j : Nat} {x y : TierV} (hx : X.tiers[i]? = some x) (hy : Y.tiers[j]? = some y) (hx1 : 1 ≤ x.every) (hy1 : 1 ≤ y.every) (hd : x.every ∣ y.every) (hf : fromV X.now X.tiers X.floors i ≤ fromV Y.now Y.tiers Y.floors j)
  {l : List RecV} (hl : goodL l) (s : SampV) : rollsR y.every (fromV Y.now Y.tiers Y.floors j) [] (stepL X s i l) = stepL Y s j (rollsR y.every (fromV Y.now Y.tiers Y.floors j) [] l) := by
 have hi := (List.getElem?_eq_some_iff.1 hx).1
 have hj := (List.getElem?_eq_some_iff.1 hy).1
 unfold stepL startV
 simp only [Int.toNat_natCast, hx, hy, fromI_nat hi, fromI_nat hj]
 by_cases h0 : 0 ≤ s.time
 ·rw [if_pos (⟨by omega, by omega, h0⟩ : 0 ≤ (i : Int) ∧ (i : Int) < (X.tiers.length : Int) ∧ 0 ≤ s.time), if_pos (⟨by omega, by omega, h0⟩ : 0 ≤ (j : Int) ∧ (j : Int) < (Y.tiers.length : Int) ∧ 0 ≤ s.time)]
  simp only [decide_eq_true_eq]
  have hff := floor_floor h0 hx1 hy1 hd
  obtain ⟨f1, f2, f3⟩ := floor_on h0 hx1
  obtain ⟨g1, g2, g3⟩ := floor_on f1 hy1
  rw [hff] at g1 g2 g3
  generalize fromV X.now X.tiers X.floors i = f at hf ⊢
  generalize fromV Y.now Y.tiers Y.floors j = g at hf ⊢
  by_cases h1 : f ≤ floorV s.time x.every
  ·rw [if_pos h1]
   by_cases hv : validB s.name = true
   ·rw [rolls_add good_nil hl (by rw [right_one h0 hx1]; exact hv)]
    unfold rollR
    simp only [hff]
   ·have e1 : addV x.every l ⟨s.name, floorV s.time x.every, aggOne s.value⟩ = l := by unfold addV; rw [if_neg (by rw [right_one h0 hx1]; exact hv)]
    have e2 : ∀ m, addV y.every m ⟨s.name, floorV s.time y.every, aggOne s.value⟩ = m := fun m => by unfold addV; rw [if_neg (by rw [right_one h0 hy1]; exact hv)]
    rw [e1, e2]
    split <;> rfl
  ·rw [if_neg h1, if_neg (by omega)]
 ·have c1 : ¬ (0 ≤ (i : Int) ∧ (i : Int) < (X.tiers.length : Int) ∧ 0 ≤ s.time) := fun h => h0 h.2.2
  have c2 : ¬ (0 ≤ (j : Int) ∧ (j : Int) < (Y.tiers.length : Int) ∧ 0 ≤ s.time) := fun h => h0 h.2.2
  simp only [if_neg c1, if_neg c2]
  simp
theorem divides_dvd {a b : Int} (h : dividesB a b = true) : 1 ≤ a ∧ a ∣ b := by
 unfold dividesB at h
 simp only [Bool.and_eq_true, decide_eq_true_eq] at h
 exact ⟨h.1, Int.dvd_of_tmod_eq_zero h.2⟩
end Go.Proofs.YtkfdgodngbinlaaGreatDoor
