/- Tiers and ints compared: walks of sedimentbook.SameTiers, SameInts. -/
import Derived.Test.YtfhhepfkjndkgaaGreatSame
import Derived.Test.YtfhhepfkjndkgaaGreatFrom
namespace Go.Proofs.YtfhhepfkjndkgaaGreat
set_option linter.all false
open Go.RowKit

def tierEq (x y : TierV) : Bool := (x.name.toList == y.name.toList) && ((x.every == y.every) && ((x.keep == y.keep) && (x.shards == y.shards)))
theorem tierEq_iff (x y : TierV) : tierEq x y = true ↔ x = y := by
  obtain ⟨a, b, c, d⟩ := x
  obtain ⟨a', b', c', d'⟩ := y
  unfold tierEq
  simp only [Bool.and_eq_true, beq_iff_eq, TierV.mk.injEq]
  exact ⟨fun h => ⟨toList_inj h.1, h.2⟩, fun h => ⟨by rw [h.1], h.2⟩⟩
instance tierDec : DecidableEq TierV := fun x y => if h : tierEq x y = true then isTrue ((tierEq_iff x y).1 h) else isFalse fun e => h ((tierEq_iff x y).2 e)
theorem run_eqtier (x y : TierV) (w : World) : (binOp .eql 123 x.val y.val).run Tryz.prog w = .ok (.bool (tierEq x y)) w := by
  have hu : Tryz.prog.underlying 123 = some (.struct (Tryz.prog.fieldsOf 123)) := by kernel_rfl
  have hp : Tryz.prog.stoodInHeld 123 = false := by kernel_rfl
  have hf : (Tryz.prog.fieldsOf 123).toList = [⟨"Name", 9, 0, false, "", "", 0⟩, ⟨"Every", 3, 1, false, "", "", 16⟩, ⟨"Keep", 3, 2, false, "", "", 24⟩, ⟨"Shards", 3, 3, false, "", "", 32⟩] := by kernel_rfl
  unfold TierV.val tierEq
  rw [run_eql_struct, run_equalIn_struct (P := Tryz.prog) w 9999 _ _ _ hu hp, hf]
  simp [Op.eqFields, part, eqs_string 9998, eqs_int 9998]
  by_cases h1 : x.name.toList = y.name.toList <;> by_cases h2 : x.every = y.every <;> by_cases h3 : x.keep = y.keep <;> by_cases h4 : x.shards = y.shards <;> simp [h1, h2, h3, h4]
theorem tier_len (t : TierV) : t.cells.length = 4 := rfl
theorem tcells_append (a b : List TierV) : tcells (a ++ b) = tcells a ++ tcells b := by simp [tcells]
theorem tierEq_true {x y : TierV} (h : x = y) (w : World) : (binOp .eql 123 x.val y.val).run Tryz.prog w = .ok (.bool true) w := by rw [run_eqtier, ((tierEq_iff x y).2 h)]
theorem tierEq_false {x y : TierV} (h : x ≠ y) (w : World) : (binOp .eql 123 x.val y.val).run Tryz.prog w = .ok (.bool false) w := by
  rw [run_eqtier]
  cases hb : tierEq x y
  · rfl
  · exact absurd ((tierEq_iff x y).1 hb) h
set_option maxHeartbeats 1000000 in
theorem sametiers_any (la lb : List TierV) (A : Option Addr) (n c : Nat) (B : Option Addr) (m d : Nat) (w : World) (ha : Rd w 4 A n (tcells la)) (hb : Rd w 4 B m (tcells lb)) (hn : n ≤ 1099511627776) (hm : m ≤ 1099511627776) :
    Calls Tryz.prog 190 #[.slice A n c, .slice B m d] w fun r w' => r = .returned (.bool (decide (la = lb))) ∧ Below w.heap.size w w' := by
  have Ha := Lib.hid ha
  have Hb := Lib.hid hb
  have hla := Lib.hid ha.tiers_len
  have hlb := Lib.hid hb.tiers_len
  clear ha hb
  by_cases hnm : n = m
  · subst hnm
    go_enter Tryz.func190, Tryz.ntmps190
    go_wp2_with fail
    go_loopw [5] (fun i wr => ∃ k : Nat, k ≤ n ∧ i = .int .i64 k ∧ Hid (la.take k = lb.take k) ∧ Own w wr (fun _ => False)) (fun i _ => n - (intOf i).toNat)
    case atStart => exact ⟨0, Nat.zero_le _, rfl, rfl, Own.start w⟩
    case round =>
      obtain ⟨k, hk, rfl, htk, ho⟩ := hrel
      have Ho := Lib.hid ho
      by_cases hlt : k < n
      · obtain ⟨ad, x, rfl, hx, a0, a1, a2, a3⟩ := (Ha.out.fr0 (Fr.b0 ho.bel)).tier hlt
        obtain ⟨bd, y, rfl, hy, b0, b1, b2, b3⟩ := (Hb.out.fr0 (Fr.b0 ho.bel)).tier hlt
        have Hx := Lib.hid hx
        have Hy := Lib.hid hy
        by_cases heq : x = y
        · have htk2 : Hid (la.take (k + 1) = lb.take (k + 1)) := by show _ = _; rw [take_snoc Hx.out, take_snoc Hy.out, htk.out, heq]
          have q := tierEq_true heq
          unfold TierV.val at q
          clear hx hy ho heq
          go_wp2
          go_quiet (fail)
          go_wp2
          go_roundw
          case rel => exact ⟨k + 1, by omega, by go_num, htk2.out, Ho.out.skip (Fr.none_drewN _ _)⟩
          case measure => simp [intOf]; omega
        · have hne : Hid (decide (la = lb) = false) := by
            refine decide_eq_false fun h => ?_
            have h1 := Hx.out
            have h2 := Hy.out
            rw [h] at h1
            rw [h1] at h2
            exact heq (Option.some.inj h2)
          have q := tierEq_false heq
          unfold TierV.val at q
          clear hx hy ho heq
          go_wp2
          go_quiet (fail)
          go_wp2
          go_ret
          exact ⟨by rw [hne.out]; rfl, (Ho.out.skip (Fr.none_drewN _ _)).bel⟩
      · obtain rfl : k = n := by omega
        have hE : Hid (decide (la = lb) = true) := by
          refine decide_eq_true ?_
          have h := htk.out
          rwa [take_all (by rw [hla.out]; exact Nat.le_refl _), take_all (by rw [hlb.out]; exact Nat.le_refl _)] at h
        clear ho
        go_wp2_with fail
        go_ret
        exact ⟨by rw [hE.out]; rfl, Ho.out.bel⟩
  · have hne : Hid (decide (la = lb) = false) := by
      refine decide_eq_false fun h => hnm ?_
      have h1 := hla.out
      have h2 := hlb.out
      rw [h] at h1
      omega
    have hnm2 : ((n : Int) != (m : Int)) = true := by simpa using (show (n : Int) ≠ (m : Int) by omega)
    go_enter Tryz.func190, Tryz.ntmps190
    go_wp2_with fail
    go_ret
    exact ⟨by rw [hne.out]; rfl, Below.refl _ _⟩

theorem sametiers_eq (l : List TierV) (A : Option Addr) (n c : Nat) (B : Option Addr) (d : Nat) (w : World) (ha : Rd w 4 A n (tcells l)) (hb : Rd w 4 B n (tcells l)) (hn : n ≤ 1000000000) :
    Calls Tryz.prog 190 #[.slice A n c, .slice B n d] w fun r w' => r = .returned (.bool true) ∧ Below w.heap.size w w' :=
  (sametiers_any l l A n c B n d w ha hb (by omega) (by omega)).mono fun r w' ⟨e, b⟩ => ⟨by rw [e, decide_eq_true rfl], b⟩

/-- An int's cell. -/
def icell (x : Int) : List Value := [.int .i64 x]
def icells (l : List Int) : List Value := l.flatMap icell
theorem icells_is (l : List Int) : icells l = l.map (Value.int .i64) := by
  induction l with
  | nil => rfl
  | cons a l ih => unfold icells at ih ⊢; rw [List.flatMap_cons, ih]; rfl
theorem icell_len (x : Int) : (icell x).length = 1 := rfl
theorem Rd.icell_ {w : World} {n k : Nat} {A : Option Addr} {l : List Int} (h : Rd w 1 A n (icells l)) (hk : k < n) : ∃ ad x, A = some ad ∧ l[k]? = some x ∧ w.cell? (ad.add k) = some (.int .i64 x) := by
  rw [icells_is] at h
  exact h.at_map hk
theorem Rd.icells_len {w : World} {n : Nat} {A : Option Addr} {l : List Int} (h : Rd w 1 A n (icells l)) : l.length = n := by
  rw [icells_is] at h
  exact h.len_map
theorem icells_one (l : List Int) : ∀ u ∈ icells l, u.oneCell' = true := by
  rw [icells_is]
  intro u hu
  rw [List.mem_map] at hu
  obtain ⟨x, _, rfl⟩ := hu
  rfl
theorem icells_append (a b : List Int) : icells (a ++ b) = icells a ++ icells b := by simp [icells]
set_option maxHeartbeats 1000000 in
theorem sameints_any (la lb : List Int) (A : Option Addr) (n c : Nat) (B : Option Addr) (m d : Nat) (w : World) (ha : Rd w 1 A n (icells la)) (hb : Rd w 1 B m (icells lb)) (hn : n ≤ 1099511627776) (hm : m ≤ 1099511627776) :
    Calls Tryz.prog 118 #[.slice A n c, .slice B m d] w fun r w' => r = .returned (.bool (decide (la = lb))) ∧ Below w.heap.size w w' := by
  have Ha := Lib.hid ha
  have Hb := Lib.hid hb
  have hla := Lib.hid ha.icells_len
  have hlb := Lib.hid hb.icells_len
  clear ha hb
  by_cases hnm : n = m
  · subst hnm
    go_enter Tryz.func118, Tryz.ntmps118
    go_wp2_with fail
    go_loopw [5] (fun i wr => ∃ k : Nat, k ≤ n ∧ i = .int .i64 k ∧ Hid (la.take k = lb.take k) ∧ Own w wr (fun _ => False)) (fun i _ => n - (intOf i).toNat)
    case atStart => exact ⟨0, Nat.zero_le _, rfl, rfl, Own.start w⟩
    case round =>
      obtain ⟨k, hk, rfl, htk, ho⟩ := hrel
      have Ho := Lib.hid ho
      by_cases hlt : k < n
      · obtain ⟨ad, x, rfl, hx, a0⟩ := (Ha.out.fr0 (Fr.b0 ho.bel)).icell_ hlt
        obtain ⟨bd, y, rfl, hy, b0⟩ := (Hb.out.fr0 (Fr.b0 ho.bel)).icell_ hlt
        have Hx := Lib.hid hx
        have Hy := Lib.hid hy
        by_cases heq : x = y
        · have htk2 : Hid (la.take (k + 1) = lb.take (k + 1)) := by show _ = _; rw [take_snoc Hx.out, take_snoc Hy.out, htk.out, heq]
          have q : (x == y) = true := by simpa using heq
          have q2 : x = y := heq
          clear hx hy ho
          go_wp2
          go_quiet (fail)
          go_wp2
          go_roundw
          case rel => exact ⟨k + 1, by omega, by go_num, htk2.out, Ho.out.skip (Fr.none_drewN _ _)⟩
          case measure => simp [intOf]; omega
        · have hne : Hid (decide (la = lb) = false) := by
            refine decide_eq_false fun h => ?_
            have h1 := Hx.out
            have h2 := Hy.out
            rw [h] at h1
            rw [h1] at h2
            exact heq (Option.some.inj h2)
          have q : (x == y) = false := by simpa using heq
          have q2 : decide (x = y) = false := decide_eq_false heq
          have q3 : ¬ x = y := heq
          clear hx hy ho heq
          go_wp2
          go_quiet (fail)
          go_wp2
          go_ret
          exact ⟨by rw [hne.out]; rfl, (Ho.out.skip (Fr.none_drewN _ _)).bel⟩
      · obtain rfl : k = n := by omega
        have hE : Hid (decide (la = lb) = true) := by
          refine decide_eq_true ?_
          have h := htk.out
          rwa [take_all (by rw [hla.out]; exact Nat.le_refl _), take_all (by rw [hlb.out]; exact Nat.le_refl _)] at h
        clear ho
        go_wp2_with fail
        go_ret
        exact ⟨by rw [hE.out]; rfl, Ho.out.bel⟩
  · have hne : Hid (decide (la = lb) = false) := by
      refine decide_eq_false fun h => hnm ?_
      have h1 := hla.out
      have h2 := hlb.out
      rw [h] at h1
      omega
    have hnm2 : ((n : Int) != (m : Int)) = true := by simpa using (show (n : Int) ≠ (m : Int) by omega)
    go_enter Tryz.func118, Tryz.ntmps118
    go_wp2_with fail
    go_ret
    exact ⟨by rw [hne.out]; rfl, Below.refl _ _⟩

theorem sameints_eq (l : List Int) (A : Option Addr) (n c : Nat) (B : Option Addr) (d : Nat) (w : World) (ha : Rd w 1 A n (icells l)) (hb : Rd w 1 B n (icells l)) (hn : n ≤ 1000000000) :
    Calls Tryz.prog 118 #[.slice A n c, .slice B n d] w fun r w' => r = .returned (.bool true) ∧ Below w.heap.size w w' :=
  (sameints_any l l A n c B n d w ha hb (by omega) (by omega)).mono fun r w' ⟨e, b⟩ => ⟨by rw [e, decide_eq_true rfl], b⟩
end Go.Proofs.YtfhhepfkjndkgaaGreat
