/- Walks: pack.Number. -/
import Derived.Test.YtomofnmlhjpifaaDoorPkF
namespace Go.Proofs.YtomofnmlhjpifaaDoor
open Go.RowKit

def digVal (l : List UInt8) : Int := l.foldl (fun n c => 10 * n + ((c.toNat : Int) - 48)) 0
def isDig (c : UInt8) : Bool := decide (48 ≤ c.toNat ∧ c.toNat ≤ 57)
def numBad (d : List UInt8) (neg : Bool) : Bool := decide (d.length < 1 ∨ 18 < d.length ∨ ((d.headD 0).toNat = 48 ∧ (1 < d.length ∨ neg = true)))
def numD (d : List UInt8) (neg : Bool) : Int × Int :=
  if numBad d neg = true then (0, 1) else if d.all isDig = true then ((if neg = true then -(digVal d) else digVal d), 0) else (0, 1)
def numV (s : List UInt8) : Int × Int := numD (Lib.trimPrefix s [45]) (Lib.hasPrefix s [45])

theorem digVal_snoc (l : List UInt8) (c : UInt8) : digVal (l ++ [c]) = 10 * digVal l + ((c.toNat : Int) - 48) := by simp [digVal]
theorem digVal_bd (l : List UInt8) (h : ∀ c ∈ l, isDig c = true) : 0 ≤ digVal l ∧ digVal l < 10 ^ l.length := by
  suffices H : ∀ (l : List UInt8), (∀ c ∈ l, isDig c = true) → 0 ≤ digVal l.reverse ∧ digVal l.reverse < 10 ^ l.length by
    have := H l.reverse (fun c hc => h c (List.mem_reverse.1 hc))
    simpa using this
  intro l
  induction l with
  | nil => intro _; simp [digVal]
  | cons c t ih =>
    intro h
    have h1 := ih (fun x hx => h x (List.mem_cons_of_mem _ hx))
    have h2 := of_decide_eq_true (h c (List.mem_cons_self ..))
    rw [List.reverse_cons, digVal_snoc, List.length_cons, Int.pow_succ]
    omega

theorem numD_no {d : List UInt8} {neg : Bool} (h : numBad d neg = false) (h2 : d.all isDig = false) : numD d neg = (0, 1) := by simp [numD, h, h2]
theorem numD_yes {d : List UInt8} {neg : Bool} (h : numBad d neg = false) (h2 : d.all isDig = true) : numD d neg = ((if neg = true then -(digVal d) else digVal d), 0) := by simp [numD, h, h2]

set_option maxRecDepth 100000 in
theorem number_bad (s : List UInt8) (w : World) (h : numBad (Lib.trimPrefix s [45]) (Lib.hasPrefix s [45]) = true) (hs : s.length ≤ 1099511627776) :
    Calls Tryd.prog 18 #[.string (bstr s)] w fun r w' => r = .returned (.tuple #[.int .i64 0, .int .i64 1]) ∧ w = w' := by
  have hc := Tryd.strings_CutPrefix (bstr s) ⟨#[45]⟩ w
  rw [bstr_list] at hc
  change Calls _ _ _ _ (fun e w' => e = .returned (.tuple #[.string (bstr (Lib.trimPrefix s [45])), .bool (Lib.hasPrefix s [45])]) ∧ w' = w) at hc
  generalize Lib.trimPrefix s [45] = d at *
  generalize Lib.hasPrefix s [45] = neg at *
  have Hc := Lib.hid hc
  have h := of_decide_eq_true h
  have hsz := bstr_size d
  clear hc
  rcases h with h | h | ⟨h1, h2⟩
  · have hz : (((bstr d).size : Int) == 0) = true := beq_iff_eq.2 (by omega)
    clear h hsz
    go_enter Tryd.func18, Tryd.ntmps18
    go_wp2_with fail
    refine Hc.out.mono ?_
    rintro r w' ⟨rfl, rfl⟩
    go_wp2
    go_ret2
    exact ⟨rfl, rfl⟩
  · have hz : (((bstr d).size : Int) == 0) = false := beq_eq_false_iff_ne.2 (by omega)
    have hz2 : (18 : Int) < ((bstr d).size : Int) := by omega
    clear h hsz
    go_enter Tryd.func18, Tryd.ntmps18
    go_wp2_with fail
    refine Hc.out.mono ?_
    rintro r w' ⟨rfl, rfl⟩
    go_wp2
    go_ret2
    exact ⟨rfl, rfl⟩
  · rcases d with _ | ⟨c, t⟩
    · simp at h1
    · have hidx : ∀ h : 0 < (bstr (c :: t)).size, (bstr (c :: t))[0]'h = c := by intro h; rfl
      have h1' : ((c.toNat : Int) == 48) = true := by simp at h1; simp; omega
      have hlen : (c :: t).length = t.length + 1 := rfl
      rw [hlen] at hsz h2
      clear h1
      generalize bstr (c :: t) = x at *
      have hz : ((x.size : Int) == 0) = false := beq_eq_false_iff_ne.2 (by omega)
      have hz0 : 0 < x.size := by omega
      by_cases h18 : 18 < t.length + 1
      · have hz2 : (18 : Int) < (x.size : Int) := by omega
        clear hsz h2 h18
        go_enter Tryd.func18, Tryd.ntmps18
        go_wp2_with fail
        refine Hc.out.mono ?_
        rintro r w' ⟨rfl, rfl⟩
        go_wp2
        go_ret2
        exact ⟨rfl, rfl⟩
      · have hz2 : (x.size : Int) ≤ 18 := by omega
        by_cases h3 : 1 < t.length + 1
        · have hz3 : (1 : Int) < (x.size : Int) := by omega
          clear hsz h2 h18 h3
          go_enter Tryd.func18, Tryd.ntmps18
          go_wp2_with fail
          refine Hc.out.mono ?_
          rintro r w' ⟨rfl, rfl⟩
          go_wp2
          go_ret2
          exact ⟨rfl, rfl⟩
        · have hz3 : (x.size : Int) ≤ 1 := by omega
          have hneg : neg = true := by rcases h2 with h2 | h2
                                       · omega
                                       · exact h2
          subst hneg
          clear hsz h2 h18 h3
          go_enter Tryd.func18, Tryd.ntmps18
          go_wp2_with fail
          refine Hc.out.mono ?_
          rintro r w' ⟨rfl, rfl⟩
          go_wp2
          go_ret2
          exact ⟨rfl, rfl⟩

set_option maxRecDepth 100000 in
theorem number_ok (s : List UInt8) (w : World) (h : numBad (Lib.trimPrefix s [45]) (Lib.hasPrefix s [45]) = false) :
    Calls Tryd.prog 18 #[.string (bstr s)] w fun r w' => r = .returned (.tuple #[.int .i64 (numV s).1, .int .i64 (numV s).2]) ∧ w = w' := by
  have hc := Tryd.strings_CutPrefix (bstr s) ⟨#[45]⟩ w
  rw [bstr_list] at hc
  change Calls _ _ _ _ (fun e w' => e = .returned (.tuple #[.string (bstr (Lib.trimPrefix s [45])), .bool (Lib.hasPrefix s [45])]) ∧ w' = w) at hc
  unfold numV
  generalize Lib.trimPrefix s [45] = d at *
  generalize Lib.hasPrefix s [45] = neg at *
  have Hc := Lib.hid hc
  have hbad := of_decide_eq_false h
  have hsz := bstr_size d
  have Hbd := Lib.hid h
  clear hc h
  rcases d with _ | ⟨c, t⟩
  · simp at hbad
  · have hidx : ∀ h : 0 < (bstr (c :: t)).size, (bstr (c :: t))[0]'h = c := by intro h; rfl
    have hget : ∀ (k : Nat) (x : UInt8), (c :: t)[k]? = some x → ∀ h : k < (bstr (c :: t)).size, (bstr (c :: t))[k]'h = x := by
      intro k x hk h
      have : (bstr (c :: t))[k]'h = (c :: t)[k]'(by rw [bstr_size] at h; exact h) := rfl
      rw [this]
      exact (List.getElem?_eq_some_iff.1 hk).2
    have Hget := Lib.hid hget
    have Hbad := Lib.hid hbad
    have hlen : (c :: t).length = t.length + 1 := rfl
    have Hz := Lib.hid (hsz.trans hlen)
    have hz18 : ((bstr (c :: t)).size : Int) ≤ 18 := by simp only [hlen] at hbad; omega
    have hz0 : 0 < (bstr (c :: t)).size := by omega
    have hz : (((bstr (c :: t)).size : Int) == 0) = false := beq_eq_false_iff_ne.2 (by omega)
    -- the loop, once the tests are behind it
    have hcase : ((c.toNat : Int) == 48) = false ∨ (((c.toNat : Int) == 48) = true ∧ ((bstr (c :: t)).size : Int) ≤ 1 ∧ neg = false) := by
      by_cases h48 : c.toNat = 48
      · right
        simp only [List.headD_cons, h48, true_and, not_or] at hbad
        refine ⟨beq_iff_eq.2 (by omega), by omega, by simpa using hbad.2.2.2⟩
      · left; exact beq_eq_false_iff_ne.2 (by omega)
    have hd18 : decide ((18 : Int) < ((bstr (c :: t)).size : Int)) = false := decide_eq_false (by omega)
    have hL := hlen ▸ bstr_size (c :: t)
    have HL := Lib.hid (bstr_size (c :: t))
    clear hget hbad hsz hlen hL
    generalize hl : (c :: t) = l at *
    generalize bstr l = x at *
    have Hl := Lib.hid hl
    clear hl
    have hpow : ∀ k, k ≤ 17 → (10 : Int) ^ k ≤ 100000000000000000 := by
      intro k hk
      have h6 : (10 : Nat) ^ k ≤ 10 ^ 17 := Nat.pow_le_pow_right (by decide) hk
      have h7 := Int.ofNat_le.2 h6
      rw [Int.natCast_pow, Int.natCast_pow] at h7
      have h8 : (10 : Int) ^ 17 = 100000000000000000 := by decide
      rw [← h8]
      exact h7
    have Hpow := Lib.hid hpow
    clear hpow
    have hcase2 : ((c.toNat : Int) == 48) = false ∨ (((c.toNat : Int) == 48) = true ∧ decide ((1 : Int) < (x.size : Int)) = false ∧ neg = false) := by
      rcases hcase with h | ⟨h1, h2, h3⟩
      · exact .inl h
      · exact .inr ⟨h1, decide_eq_false (by omega), h3⟩
    clear hcase
    have hcase3 : (((c.toNat : Int) == 48) = false ∧ neg = true) ∨ (((c.toNat : Int) == 48) = false ∧ neg = false) ∨ (((c.toNat : Int) == 48) = true ∧ decide ((1 : Int) < (x.size : Int)) = false ∧ neg = false) := by
      rcases hcase2 with h | h
      · cases neg
        · exact .inr (.inl ⟨h, rfl⟩)
        · exact .inl ⟨h, rfl⟩
      · exact .inr (.inr h)
    clear hcase2
    rcases hcase3 with ⟨hcase, rfl⟩ | ⟨hcase, rfl⟩ | ⟨hc1, hc2, rfl⟩
    all_goals
      go_enter Tryd.func18, Tryd.ntmps18
      go_wp2_with fail
      refine Hc.out.mono ?_
      rintro r w' ⟨rfl, rfl⟩
      go_wp2
      go_loop [6, 36] (fun v i => ∃ (k : Nat) (n : Int), k ≤ x.size ∧ i = .int .i64 k ∧ v = .int .i64 n ∧ Hid (n = digVal (l.take k)) ∧ Hid (∀ c ∈ l.take k, isDig c = true) ∧ 0 ≤ n ∧ Hid (n < 10 ^ k)) (fun _ i => x.size - (intOf i).toNat)
      case atStart => exact ⟨0, 0, Nat.zero_le _, rfl, rfl, rfl, fun _ h => by simp at h, by omega, by show (0 : Int) < 10 ^ 0; decide⟩
      case round =>
        obtain ⟨k, n, hk, rfl, rfl, hn, hall, hn0, hlt⟩ := hrel
        by_cases hkl : k < x.size
        · obtain ⟨y, hy⟩ : ∃ y, l[k]? = some y := ⟨_, List.getElem?_eq_getElem (by have := HL.out; omega)⟩
          have hix := Hget.out k y hy
          have Hy := Lib.hid hy
          have hyb := y.toNat_lt
          have hn17 : n < 100000000000000000 := by
            have := Hpow.out k (by omega)
            have := hlt.out
            omega
          have hki : (k : Int) < (x.size : Int) := by omega
          clear hy
          by_cases hd : 48 ≤ y.toNat ∧ y.toNat ≤ 57
          · obtain ⟨hd1, hd2⟩ := hd
            have hd1' : (48 : Int) ≤ (y.toNat : Int) := by omega
            have hd2' : (y.toNat : Int) ≤ 57 := by omega
            go_wp2
            go_round
            case rel =>
              refine ⟨k + 1, 10 * n + ((y.toNat : Int) - 48), by omega, by go_num, rfl, ?_, ?_, by omega, ?_⟩
              · show _ = _
                rw [take_snoc Hy.out, digVal_snoc, hn.out]
              · show ∀ c ∈ _, _
                rw [take_snoc Hy.out]
                intro c hc
                rcases List.mem_append.1 hc with h | h
                · exact hall.out c h
                · rw [List.mem_singleton.1 h]; exact decide_eq_true ⟨hd1, hd2⟩
              · show _ < _
                have := hlt.out
                rw [Int.pow_succ]
                omega
            case measure => simp [intOf]; omega
          · have hno : l.all isDig = false := by
              rw [List.all_eq_false]
              exact ⟨y, mem_of_get Hy.out, by simp only [isDig, hd]; decide⟩
            have Hno := Lib.hid hno
            clear hno
            have hd' : (y.toNat : Int) < 48 ∨ (48 ≤ (y.toNat : Int) ∧ 57 < (y.toNat : Int)) := by omega
            clear hd
            rcases hd' with hd | ⟨hd1, hd2⟩
            all_goals
              go_wp2
              go_ret2
              rw [numD_no Hbd.out Hno.out]
              exact ⟨rfl, rfl⟩
        · obtain rfl : k = x.size := by omega
          have hfull : l.take x.size = l := List.take_of_length_le (by have := HL.out; omega)
          have hyes : l.all isDig = true := by
            have := hall.out
            rw [hfull] at this
            exact List.all_eq_true.2 this
          have Hyes := Lib.hid hyes
          have hb : -1000000000000000000 ≤ n ∧ n ≤ 1000000000000000000 := by
            have h1 := hlt.out
            have h2 := Hpow.out (x.size - 1) (by omega)
            have h3 : (10 : Int) ^ x.size = 10 ^ (x.size - 1) * 10 := by rw [← Int.pow_succ, Nat.succ_eq_add_one, Nat.sub_add_cancel hz0]
            omega
          obtain ⟨hb1, hb2⟩ := hb
          have hfin := hn.out
          rw [hfull] at hfin
          have Hfin := Lib.hid hfin
          clear hfin hyes hfull
          go_wp2
          go_ret2
          rw [numD_yes Hbd.out Hyes.out, ← Hfin.out]
          exact ⟨rfl, rfl⟩

theorem number_any (s : List UInt8) (w : World) (hs : s.length ≤ 1099511627776) :
    Calls Tryd.prog 18 #[.string (bstr s)] w fun r w' => r = .returned (.tuple #[.int .i64 (numV s).1, .int .i64 (numV s).2]) ∧ w = w' := by
  by_cases h : numBad (Lib.trimPrefix s [45]) (Lib.hasPrefix s [45]) = true
  · have e : numV s = (0, 1) := by unfold numV numD; rw [if_pos h]
    rw [e]
    exact number_bad s w h hs
  · exact number_ok s w (by simpa using h)
end Go.Proofs.YtomofnmlhjpifaaDoor
