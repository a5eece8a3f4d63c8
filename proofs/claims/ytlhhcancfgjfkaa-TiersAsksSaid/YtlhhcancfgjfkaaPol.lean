/- Policies in memory; walks of package policy. -/
import Derived.Test.YtlhhcancfgjfkaaName
namespace Go.Proofs.Ytlhhcancfgjfkaa
set_option linter.all false
open Go.RowKit

structure TierV where
  name : ByteArray
  every : Int
  keep : Int
  shards : Int
def TierV.cells (t : TierV) : List Value := [.string t.name, .int .i64 t.every, .int .i64 t.keep, .int .i64 t.shards]
def TierV.val (t : TierV) : Value := .agg #[.string t.name, .int .i64 t.every, .int .i64 t.keep, .int .i64 t.shards]
def tcells (l : List TierV) : List Value := l.flatMap TierV.cells

theorem tcells_length (l : List TierV) : (tcells l).length = l.length * 4 := by
  induction l with
  | nil => rfl
  | cons a t ih => simp only [tcells, List.flatMap_cons, List.length_append] at ih ⊢; rw [ih]; simp [TierV.cells]; omega
theorem tcells_get {l : List TierV} {k : Nat} {t : TierV} (h : l[k]? = some t) (j : Nat) (hj : j < 4) : (tcells l)[k * 4 + j]? = t.cells[j]? := by
  induction l generalizing k with
  | nil => cases h
  | cons a r ih =>
    cases k with
    | zero =>
      simp only [List.getElem?_cons_zero, Option.some.injEq] at h
      subst h
      simp only [tcells, List.flatMap_cons]
      rw [List.getElem?_append_left (by simp [TierV.cells]; omega)]
      simp
    | succ k =>
      simp only [List.getElem?_cons_succ] at h
      have := ih h
      simp only [tcells, List.flatMap_cons]
      rw [List.getElem?_append_right (by simp [TierV.cells]; omega)]
      rw [← this]
      simp only [tcells]
      congr 1
      simp [TierV.cells]; omega
theorem Rd.tier {w : World} {n k : Nat} {A : Option Addr} {l : List TierV} (h : Rd w 4 A n (tcells l)) (hk : k < n) :
    ∃ ad t, A = some ad ∧ l[k]? = some t ∧ w.cell? (ad.add (k * 4)) = some (.string t.name) ∧ w.cell? ⟨(ad.add (k * 4)).block, (ad.add (k * 4)).off + 1, none⟩ = some (.int .i64 t.every) ∧ w.cell? ⟨(ad.add (k * 4)).block, (ad.add (k * 4)).off + 2, none⟩ = some (.int .i64 t.keep) ∧ w.cell? ⟨(ad.add (k * 4)).block, (ad.add (k * 4)).off + 3, none⟩ = some (.int .i64 t.shards) := by
  obtain ⟨ad, e, hc⟩ := h.2 (by omega)
  have hl : k < l.length := by have := h.1; rw [tcells_length] at this; omega
  have ht := List.getElem?_eq_getElem hl
  refine ⟨ad, l[k], e, ht, hc _ _ (tcells_get ht 0 (by decide)), ?_, ?_, ?_⟩
  · rw [← add_pos _ _ (by decide), add_of_add]; exact hc _ _ (tcells_get ht 1 (by decide))
  · rw [← add_pos _ _ (by decide), add_of_add]; exact hc _ _ (tcells_get ht 2 (by decide))
  · rw [← add_pos _ _ (by decide), add_of_add]; exact hc _ _ (tcells_get ht 3 (by decide))
theorem Rd.tiers_len {w : World} {n : Nat} {A : Option Addr} {l : List TierV} (h : Rd w 4 A n (tcells l)) : l.length = n := by have := h.1; rw [tcells_length] at this; omega

/-- Does a tier bear the name? -/
def named (l : List TierV) (nm : ByteArray) : Bool := l.any fun x => decide (x.name = nm)
def TierV.ok (t : TierV) : Bool := validB t.name && withinB t.keep 1000000 && withinB t.shards 8
/-- policy.fits behind the tiers 'ahead'. -/
def fitsT (t : TierV) (ahead : List TierV) : Bool :=
  t.ok && match ahead.getLast? with
    | none => (t.every == 1)
    | some a => !(named ahead t.name) && decide (a.every < t.every) && decide (t.every ≤ 1000000) && dividesB a.every t.every && decide (a.keep ≤ t.keep)

theorem valid_one (x : ByteArray) (hx : x.size ≤ maxLen) (b c : Nat) (w : World) (hc : w.cell? ⟨b, 0, none⟩ = some (.string x)) :
    Calls Try.prog 45 #[.slice (some ⟨b, 0, none⟩) 1 c] w fun r w' => r = .returned (.bool (validB x)) ∧ w = w' := by
  have h := valid_any [x] (some ⟨b, 0, none⟩) 1 c w ⟨rfl, fun _ => ⟨_, rfl, fun j u hu => by
    rcases j with _ | j
    · simp at hu; subst hu; exact hc
    · simp at hu⟩⟩ (by decide) (by simpa using hx)
  simpa using h

theorem valid_new (x : ByteArray) (hx : x.size ≤ maxLen) (k c : Nat) (w : World) (t : TypeId) (hk : k = w.heap.size) :
    Calls Try.prog 45 #[.slice (some ⟨k, 0, none⟩) 1 c] (w.alloc (.cells #[.string x] t)) fun r w' => r = .returned (.bool (validB x)) ∧ w.alloc (.cells #[.string x] t) = w' :=
  valid_one x hx k c _ (by subst hk; exact cell_head _ _ _)


theorem name_eq (a b : ByteArray) : (a.toList == b.toList) = decide (a = b) := by
  rw [Bool.eq_iff_iff, beq_iff_eq, decide_eq_true_iff, Lib.toList_data, Lib.toList_data]
  exact ⟨fun h => ByteArray.ext (Array.toList_inj.mp h), fun h => by rw [h]⟩
/-- The closure in policy.fits. -/
theorem same_any (nm : ByteArray) (p : Addr) (x : TierV) (w : World) (hp : w.cell? p = some (.string nm)) :
    Calls Try.prog 92 #[.agg #[.string x.name, .int .i64 x.every, .int .i64 x.keep, .int .i64 x.shards], .pointer (some p)] w
      fun r w' => r = .returned (.bool (decide (x.name = nm))) ∧ Below w.heap.size w w' := by
  have hp1 : ∀ o, (w.alloc o).cell? p = some (.string nm) := fun o => (Fr.none_alloc _ _).cell hp (fun h => h)
  have he := name_eq x.name nm
  obtain ⟨b, hb⟩ : ∃ b, decide (x.name = nm) = b := ⟨_, rfl⟩
  rw [hb] at he ⊢
  clear hb
  cases b <;>
  · go_enter Try.func92, Try.ntmps92
    go_wp2_with fail
    go_ret
    exact ⟨rfl, ((Own.start w).skip (Fr.none_alloc _ _)).bel⟩

theorem named_snoc {l : List TierV} {nm : ByteArray} {k : Nat} {x : TierV} (h : l[k]? = some x) (ha : named (l.take k) nm = false) : named (l.take (k + 1)) nm = decide (x.name = nm) := by
  unfold named at ha ⊢
  rw [take_snoc h, List.any_append, ha]; simp
theorem named_take {l : List TierV} {nm : ByteArray} {k : Nat} (ha : named (l.take k) nm = true) : named l nm = true := by
  unfold named at ha ⊢
  rw [List.any_eq_true] at ha ⊢
  obtain ⟨x, hx, h⟩ := ha
  exact ⟨x, List.mem_of_mem_take hx, h⟩
set_option maxRecDepth 100000 in
theorem index_any (nm : ByteArray) (p : Addr) (l : List TierV) (A : Option Addr) (n c : Nat) (w : World) (hr : Rd w 4 A n (tcells l)) (hp : w.cell? p = some (.string nm)) (hn : n ≤ 1099511627776) :
    Calls Try.prog 104 #[.slice A n c, .func (Fn.func 92) #[] #[.pointer (some p)]] w
      fun r w' => (∃ k : Int, r = .returned (.int .i64 k) ∧ decide (0 ≤ k) = named l nm) ∧ Below w.heap.size w w' := by
  have Hlen := Lib.hid hr.tiers_len
  go_enter Try.func104, Try.ntmps104
  go_wp2_with fail
  go_loopw [8] (fun i wr => ∃ k : Nat, k ≤ n ∧ i = .int .i64 k ∧ Below w.heap.size w wr ∧ Hid (named (l.take k) nm = false)) (fun i _ => n - (intOf i).toNat)
  case atStart => exact ⟨0, Nat.zero_le _, rfl, Below.refl _ _, rfl⟩
  case round =>
    obtain ⟨k, hk, rfl, hb, ha⟩ := hrel
    by_cases hlt : k < n
    · obtain ⟨ad, x, rfl, hu, d0, d1, d2, d3⟩ := (hr.below hb).tier hlt
      have Hu := Lib.hid hu
      have Hb := Lib.hid hb
      have Hp := Lib.hid ((Fr.of_below (F := fun _ => False) hb).cell hp (fun h => h))
      clear hu hb
      by_cases he : decide (x.name = nm) = true
      · have E := Lib.hid (named_take (k := k + 1) (by rw [named_snoc Hu.out ha.out]; exact he))
        have He := Lib.hid he
        clear he
        go_wp2_with fail
        refine (same_any nm p x _ Hp.out).mono ?_
        rw [He.out]
        rintro r w1 ⟨rfl, hb1⟩
        have Hb1 := Lib.hid hb1
        clear hb1 d0 d1 d2 d3
        go_wp2_with fail
        go_ret
        exact ⟨⟨(k : Int), rfl, by rw [E.out]; exact decide_eq_true (by omega)⟩, ((Own.start w).below Hb.out |>.below Hb1.out).bel⟩
      · have He := Lib.hid (show decide (x.name = nm) = false by simpa using he)
        have E := Lib.hid (show named (l.take (k + 1)) nm = false by rw [named_snoc Hu.out ha.out]; exact He.out)
        clear he
        go_wp2_with fail
        refine (same_any nm p x _ Hp.out).mono ?_
        rw [He.out]
        rintro r w1 ⟨rfl, hb1⟩
        have Hb1 := Lib.hid hb1
        clear hb1 d0 d1 d2 d3
        go_wp2_with fail
        go_roundw
        case rel => exact ⟨k + 1, by omega, by go_num, ((Own.start w).below Hb.out |>.below Hb1.out).bel, E.out⟩
        case measure => simp [intOf]; omega
    · obtain rfl : k = n := by omega
      have Hb := Lib.hid hb
      clear hb
      go_wp2_with fail
      go_ret
      have := ha.out
      rw [take_all (by have := Hlen.out; omega)] at this
      exact ⟨⟨-1, rfl, by rw [this]; rfl⟩, Hb.out⟩
theorem contains_any (nm : ByteArray) (p : Addr) (l : List TierV) (A : Option Addr) (n c : Nat) (w : World) (hr : Rd w 4 A n (tcells l)) (hp : w.cell? p = some (.string nm)) (hn : n ≤ 1099511627776) :
    Calls Try.prog 91 #[.slice A n c, .func (Fn.func 92) #[] #[.pointer (some p)]] w
      fun r w' => r = .returned (.bool (named l nm)) ∧ Below w.heap.size w w' := by
  have H := Lib.hid (index_any nm p l A n c w hr hp hn)
  obtain ⟨b, hb⟩ : ∃ b, named l nm = b := ⟨_, rfl⟩
  rw [hb]
  have Hnb := Lib.hid hb
  clear hb hr hp
  go_enter Try.func91, Try.ntmps91
  go_wp2_with fail
  refine H.out.mono ?_
  rintro r w1 ⟨⟨k, rfl, hk⟩, hb⟩
  have Hb := Lib.hid hb
  rw [Hnb.out] at hk
  clear hb
  cases b
  · have h0 : k < 0 := by have := of_decide_eq_false hk; omega
    clear hk
    go_wp2_with fail
    all_goals (go_ret <;> exact ⟨by simp [*], Hb.out⟩)
  · have h0 : 0 ≤ k := of_decide_eq_true hk
    clear hk
    go_wp2_with fail
    all_goals (go_ret <;> exact ⟨by simp [*], Hb.out⟩)

set_option maxRecDepth 100000 in
set_option maxHeartbeats 1000000 in
theorem fitsT_any (t : TierV) (ht : t.name.size ≤ maxLen) (ahead : List TierV) (A : Option Addr) (n c : Nat) (w : World) (hr : Rd w 4 A n (tcells ahead)) (hn : n ≤ 1099511627776) :
    Calls Try.prog 69 #[t.val, .slice A n c] w fun r w' => r = .returned (.bool (fitsT t ahead)) ∧ Below w.heap.size w w' := by
  unfold TierV.val
  have Ht := Lib.hid ht
  have Hlen := Lib.hid hr.tiers_len
  clear ht
  by_cases hok : t.ok = true
  · have hok' := hok
    unfold TierV.ok at hok'
    simp only [Bool.and_eq_true] at hok'
    obtain ⟨⟨o1, o2⟩, o3⟩ := hok'
    by_cases h0 : n = 0
    · subst h0
      obtain rfl : ahead = [] := List.eq_nil_of_length_eq_zero Hlen.out
      clear hr
      rw [show fitsT t [] = (t.every == 1) by simp [fitsT, hok]]
      have O1 := Lib.hid o1
      have O2 := Lib.hid o2
      have O3 := Lib.hid o3
      clear o1 o2 o3 hok
      go_enter Try.func69, Try.ntmps69
      go_wp2_with fail
      refine (valid_new t.name Ht.out _ _ _ _ (by simp)).mono ?_
      rw [O1.out]
      rintro r w1 ⟨rfl, rfl⟩
      go_wp2_with fail
      refine (within_any _ _ _).mono ?_
      rw [O2.out]
      rintro r w1 ⟨rfl, rfl⟩
      go_wp2_with fail
      refine (within_any _ _ _).mono ?_
      rw [O3.out]
      rintro r w1 ⟨rfl, rfl⟩
      go_wp2_with fail
      go_ret
      exact ⟨rfl, (((Own.start w).skip (Fr.none_alloc _ _)).skip (Fr.none_alloc _ _)).bel⟩
    · have h1 : 0 < n := by omega
      obtain ⟨ad, la, rfl, hla, d0, d1, d2, d3⟩ := hr.tier (k := n - 1) (by omega)
      have O1 := Lib.hid o1
      have O2 := Lib.hid o2
      have O3 := Lib.hid o3
      have Hla := Lib.hid hla
      clear o1 o2 o3 hla
      have i1 : ((n : Int) == 0) = false := by simp; omega
      have i2 : (n : Int) - 1 = ((n - 1 : Nat) : Int) := by omega
      have i3 : n - 1 < n := by omega
      obtain ⟨m, hm⟩ : ∃ m, n - 1 = m := ⟨_, rfl⟩
      rw [hm] at d0 d1 d2 d3 i2 i3
      replace d0 := cell_2 d0
      replace d1 := cell_2 d1
      replace d2 := cell_2 d2
      replace d3 := cell_2 d3
      have Hr := Lib.hid hr
      have Hok := Lib.hid hok
      clear hr hok hm h0
      go_enter Try.func69, Try.ntmps69
      go_wp2_with fail
      refine (valid_new t.name Ht.out _ _ _ _ (by simp)).mono ?_
      rw [O1.out]
      rintro r w1 ⟨rfl, rfl⟩
      go_wp2_with fail
      refine (within_any _ _ _).mono ?_
      rw [O2.out]
      rintro r w1 ⟨rfl, rfl⟩
      go_wp2_with fail
      refine (within_any _ _ _).mono ?_
      rw [O3.out]
      rintro r w1 ⟨rfl, rfl⟩
      go_wp2_with fail
      have B0 := Lib.hid ((Blk.new w 30 #[.string t.name, .int .i64 t.every, .int .i64 t.keep, .int .i64 t.shards]).alloc (.cells #[.string t.name] 9) |>.alloc (.cells #[.string la.name, .int .i64 la.every, .int .i64 la.keep, .int .i64 la.shards] 30))
      have B1 := Lib.hid (Blk.new' (w := (w.alloc (.cells #[.string t.name, .int .i64 t.every, .int .i64 t.keep, .int .i64 t.shards] 30)).alloc (.cells #[.string t.name] 9)) (k := w.heap.size + 1 + 1) (by simp) 30 #[.string la.name, .int .i64 la.every, .int .i64 la.keep, .int .i64 la.shards])
      have R3 := Lib.hid (((Hr.out.alloc (.cells #[.string t.name, .int .i64 t.every, .int .i64 t.keep, .int .i64 t.shards] 30)).alloc (.cells #[.string t.name] 9)).alloc (.cells #[.string la.name, .int .i64 la.every, .int .i64 la.keep, .int .i64 la.shards] 30))
      have O := Lib.hid ((((Own.start w).skip (Fr.none_alloc w (.cells #[.string t.name, .int .i64 t.every, .int .i64 t.keep, .int .i64 t.shards] 30))).skip (Fr.none_alloc _ (.cells #[.string t.name] 9))).skip (Fr.none_alloc _ (.cells #[.string la.name, .int .i64 la.every, .int .i64 la.keep, .int .i64 la.shards] 30)))
      refine (contains_any t.name _ ahead _ n c _ R3.out (B0.out.cell 0) hn).mono ?_
      rintro r w1 ⟨rfl, hb⟩
      have c1 := (B0.out.below hb).cell 1
      have c2 := (B0.out.below hb).cell 2
      have e1 := (B1.out.below hb).cell 1
      have e2 := (B1.out.below hb).cell 2
      simp only [List.getElem?_toArray, List.getElem?_cons_succ, List.getElem?_cons_zero] at c1 c2 e1 e2
      have O2 := Lib.hid (O.out.below hb)
      have hfin : fitsT t ahead = (!(named ahead t.name) && decide (la.every < t.every) && decide (t.every ≤ 1000000) && dividesB la.every t.every && decide (la.keep ≤ t.keep)) := by
        unfold fitsT
        rw [Hok.out, List.getLast?_eq_getElem?, Hlen.out, Hla.out]; rfl
      have Hfin := Lib.hid hfin
      clear d0 d1 d2 d3 hb hfin B0 B1 R3 O
      cases hnm : named ahead t.name
      · by_cases f1 : la.every < t.every
        · by_cases f2 : t.every ≤ 1000000
          · cases hdv : dividesB la.every t.every
            · go_wp2_with fail
              refine (divides_any _ _ _).mono ?_
              rw [hdv]
              rintro r w2 ⟨rfl, rfl⟩
              go_wp2_with fail
              go_ret
              exact ⟨by rw [Hfin.out]; simp [*] <;> (intros; omega), O2.out.bel⟩
            · by_cases f3 : la.keep ≤ t.keep
              · go_wp2_with fail
                refine (divides_any _ _ _).mono ?_
                rw [hdv]
                rintro r w2 ⟨rfl, rfl⟩
                go_wp2_with fail
                go_ret
                exact ⟨by rw [Hfin.out]; simp [*] <;> (intros; omega), O2.out.bel⟩
              · go_wp2_with fail
                refine (divides_any _ _ _).mono ?_
                rw [hdv]
                rintro r w2 ⟨rfl, rfl⟩
                go_wp2_with fail
                go_ret
                exact ⟨by rw [Hfin.out]; simp [*] <;> (intros; omega), O2.out.bel⟩
          · go_wp2_with fail
            go_ret
            exact ⟨by rw [Hfin.out]; simp [*] <;> (intros; omega), O2.out.bel⟩
        · go_wp2_with fail
          go_ret
          exact ⟨by rw [Hfin.out]; simp [*] <;> (intros; omega), O2.out.bel⟩
      · go_wp2_with fail
        go_ret
        exact ⟨by rw [Hfin.out]; simp [*] <;> (intros; omega), O2.out.bel⟩
  · rw [show fitsT t ahead = false by unfold fitsT; rw [show t.ok = false by simpa using hok]; rfl]
    have O := Lib.hid (((Own.start w).skip (Fr.none_alloc w (.cells #[.string t.name, .int .i64 t.every, .int .i64 t.keep, .int .i64 t.shards] 30))).skip (Fr.none_alloc _ (.cells #[.string t.name] 9)))
    unfold TierV.ok at hok
    clear hr
    cases hv : validB t.name
    · have Hv := Lib.hid hv
      clear hok hv
      go_enter Try.func69, Try.ntmps69
      go_wp2_with fail
      refine (valid_new t.name Ht.out _ _ _ _ (by simp)).mono ?_
      rw [Hv.out]
      rintro r w1 ⟨rfl, rfl⟩
      go_wp2_with fail
      go_ret
      exact ⟨rfl, O.out.bel⟩
    · have Hv := Lib.hid hv
      cases hk : withinB t.keep 1000000
      · have Hk := Lib.hid hk
        clear hok hv hk
        go_enter Try.func69, Try.ntmps69
        go_wp2_with fail
        refine (valid_new t.name Ht.out _ _ _ _ (by simp)).mono ?_
        rw [Hv.out]
        rintro r w1 ⟨rfl, rfl⟩
        go_wp2_with fail
        refine (within_any _ _ _).mono ?_
        rw [Hk.out]
        rintro r w1 ⟨rfl, rfl⟩
        go_wp2_with fail
        go_ret
        exact ⟨rfl, O.out.bel⟩
      · have Hk := Lib.hid hk
        have Hs := Lib.hid (show withinB t.shards 8 = false by rw [hv, hk] at hok; simpa using hok)
        clear hok hv hk
        go_enter Try.func69, Try.ntmps69
        go_wp2_with fail
        refine (valid_new t.name Ht.out _ _ _ _ (by simp)).mono ?_
        rw [Hv.out]
        rintro r w1 ⟨rfl, rfl⟩
        go_wp2_with fail
        refine (within_any _ _ _).mono ?_
        rw [Hk.out]
        rintro r w1 ⟨rfl, rfl⟩
        go_wp2_with fail
        refine (within_any _ _ _).mono ?_
        rw [Hs.out]
        rintro r w1 ⟨rfl, rfl⟩
        go_wp2_with fail
        go_ret
        exact ⟨rfl, O.out.bel⟩
end Go.Proofs.Ytlhhcancfgjfkaa
