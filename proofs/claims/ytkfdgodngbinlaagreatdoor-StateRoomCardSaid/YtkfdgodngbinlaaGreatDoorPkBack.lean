/- Walks of the small functions of package pack: fits, fail, low, Words, Ints, Small. -/
import Derived.Test.YtkfdgodngbinlaaGreatDoorChecked
import Derived.Test.YtkfdgodngbinlaaGreatDoorBase
import Derived.Test.YtkfdgodngbinlaaGreatDoorShelf
import Derived.Laws.BitsAllLaws
import Derived.Lib.TrimByte
import Derived.Lib.AppendIntMem
namespace Go.Proofs.YtkfdgodngbinlaaGreatDoor
set_option linter.all false
open Go.RowKit

def le : Nat → Nat → List UInt8
  | _, 0 => []
  | x, k + 1 => UInt8.ofNat x :: le (x / 256) k

theorem le_length (x k : Nat) : (le x k).length = k := by
  induction k generalizing x with
  | zero => rfl
  | succ k ih => simp [le, ih]

def Pk (w : World) (g : Nat) (F : Nat → Prop) (e : Int) (l : List UInt8) : Prop :=
  ∃ A n c, Blk w g 127 #[.int .i64 e, .slice A n c] ∧ w.ownsRow 0 5 1 (.slice A n c) n (bys l) ∧ F = fun k => k = g ∨ rowF (.slice A n c) k

theorem Pk.fr {w w' : World} {g : Nat} {F G : Nat → Prop} {e : Int} {l : List UInt8} (h : Pk w g F e l) (hf : Fr G w w') (hn : ∀ k, F k → ¬ G k) : Pk w' g F e l := by
  obtain ⟨A, n, c, h1, h2, rfl⟩ := h
  exact ⟨A, n, c, h1.fr hf (hn g (.inl rfl)), own_fr h2 hf (fun k hk => hn k (.inr hk)), rfl⟩
theorem Pk.lt {w : World} {g : Nat} {F : Nat → Prop} {e : Int} {l : List UInt8} (h : Pk w g F e l) : ∀ k, F k → k < w.heap.size := by
  obtain ⟨A, n, c, h1, h2, rfl⟩ := h
  rintro k (rfl | hk)
  · exact h1.lt
  · exact own_lt h2 k hk

theorem Pk.push {w0 w1 : World} {g m m' c c' : Nat} {A A' : Option Addr} {e : Int} {l : List UInt8} (hb : Blk w1 g 127 #[.int .i64 e, .slice A m c])
    (ho : w1.ownsRow 0 5 1 (.slice A' m' c') m' (bys l)) (hm : Mv (rowF (.slice A m c)) (rowF (.slice A' m' c')) w0 w1) :
    ∃ F', Pk (w1.setCell ⟨g, 1, none⟩ (.slice A' m' c')) g F' e l ∧ Mv (fun k => k = g ∨ rowF (.slice A m c) k) F' w0 (w1.setCell ⟨g, 1, none⟩ (.slice A' m' c')) := by
  have hne : ¬ rowF (.slice A' m' c') g := own_blk_ne ho hb (by decide)
  have hs : Fr (fun k => k = g) w1 (w1.setCell ⟨g, 1, none⟩ (.slice A' m' c')) := (Fr.refl (fun k => k = g) w1).setCell (p := ⟨g, 1, none⟩) (.inl rfl) _
  refine ⟨_, ⟨A', m', c', hb.set_ 1 _, own_fr ho hs (fun k hk hg => hne (hg ▸ hk)), rfl⟩, ⟨?_, ?_⟩⟩
  · refine (hm.fr.mono (fun i hi => .inl (.inr hi))).trans hs (fun i hi => .inl (.inl hi))
  · rintro k (hk | hk)
    · exact .inl (.inl hk)
    · exact (hm.sub k hk).imp .inr id

theorem Pk.c0 {w : World} {g : Nat} {F : Nat → Prop} {e : Int} {l : List UInt8} (h : Pk w g F e l) : w.cell? ⟨g, 0, none⟩ = some (.int .i64 e) := by
  obtain ⟨A, m, c, hb, ho, rfl⟩ := h
  exact hb.cell 0
end Go.Proofs.YtkfdgodngbinlaaGreatDoor
namespace Go.Proofs.YtkfdgodngbinlaaGreatDoor
set_option linter.all false
open Go.RowKit

def u64 (x : Int) : Nat := (x % 18446744073709551616).toNat
def le8 (l : List Int) : List UInt8 := l.flatMap fun x => le (u64 x) 8
theorem le8_len (l : List Int) : (le8 l).length = 8 * l.length := by
  induction l with
  | nil => simp [le8]
  | cons a t ih => simp only [le8, List.flatMap_cons, List.length_append, le_length, List.length_cons] at ih ⊢; omega

theorem Pk.f0 {w : World} {g : Nat} {F : Nat → Prop} {e : Int} {l : List UInt8} (h : Pk w g F e l) : w.frozen? ⟨g, 0, none⟩ = false := by
  obtain ⟨A, m, c, hb, ho, rfl⟩ := h
  exact hb.frozen 0
end Go.Proofs.YtkfdgodngbinlaaGreatDoor
namespace Go.Proofs.YtkfdgodngbinlaaGreatDoor
set_option linter.all false
open Go.RowKit

def PkR (w : World) (g : Nat) (A : Option Addr) (m c : Nat) (e : Int) (l : List UInt8) : Prop :=
  Blk w g 127 #[.int .i64 e, .slice A m c] ∧ w.ownsRow 0 5 1 (.slice A m c) m (bys l)
def pkF (g : Nat) (A : Option Addr) (m c : Nat) : Nat → Prop := fun k => k = g ∨ rowF (.slice A m c) k
section
variable {w w1 : World} {g m c m' c' : Nat} {A A' : Option Addr} {e : Int} {l l' : List UInt8}
theorem PkR.pk (h : PkR w g A m c e l) : Pk w g (pkF g A m c) e l := ⟨A, m, c, h.1, h.2, rfl⟩
theorem PkR.len (h : PkR w g A m c e l) : m = l.length := by have := h.2.1; rw [bys_length] at this; omega
theorem PkR.c1 (h : PkR w g A m c e l) : w.cell? ⟨g, 1, none⟩ = some (.slice A m c) := h.1.cell 1
theorem PkR.c0 (h : PkR w g A m c e l) : w.cell? ⟨g, 0, none⟩ = some (.int .i64 e) := h.1.cell 0
theorem PkR.f0 (h : PkR w g A m c e l) : w.frozen? ⟨g, 0, none⟩ = false := h.1.frozen 0
theorem PkR.f1 (h : PkR w g A m c e l) : w.frozen? ⟨g, 1, none⟩ = false := h.1.frozen 1
theorem PkR.ne (h : PkR w g A m c e l) : ¬ rowF (.slice A m c) g := own_blk_ne h.2 h.1 (by decide)
theorem PkR.push {w0 : World} (hb : Blk w1 g 127 #[.int .i64 e, .slice A m c])
    (ho : w1.ownsRow 0 5 1 (.slice A' m' c') m' (bys l)) (hm : Mv (rowF (.slice A m c)) (rowF (.slice A' m' c')) w0 w1) :
    PkR (w1.setCell ⟨g, 1, none⟩ (.slice A' m' c')) g A' m' c' e l ∧ Mv (pkF g A m c) (pkF g A' m' c') w0 (w1.setCell ⟨g, 1, none⟩ (.slice A' m' c')) := by
  have hne : ¬ rowF (.slice A' m' c') g := own_blk_ne ho hb (by decide)
  have hs : Fr (fun k => k = g) w1 (w1.setCell ⟨g, 1, none⟩ (.slice A' m' c')) := (Fr.refl (fun k => k = g) w1).setCell (p := ⟨g, 1, none⟩) (.inl rfl) _
  refine ⟨⟨hb.set_ 1 _, own_fr ho hs (fun k hk hg => hne (hg ▸ hk))⟩, ⟨?_, ?_⟩⟩
  · refine (hm.fr.mono (fun i hi => .inl (.inr hi))).trans hs (fun i hi => .inl (.inl hi))
  · rintro k (hk | hk)
    · exact .inl (.inl hk)
    · exact (hm.sub k hk).imp .inr id
theorem PkR.fr {G : Nat → Prop} (h : PkR w g A m c e l) (hf : Fr G w w1) (hn : ∀ k, pkF g A m c k → ¬ G k) : PkR w1 g A m c e l :=
  ⟨h.1.fr hf (hn g (.inl rfl)), own_fr h.2 hf (fun k hk => hn k (.inr hk))⟩
theorem PkR.fr0 (h : PkR w g A m c e l) (hf : Fr (fun _ => False) w w1) : PkR w1 g A m c e l := h.fr hf (fun _ _ h => h)
end

def nameB (s : ByteArray) : List UInt8 := UInt8.ofNat s.size :: s.data.toList ++ List.replicate (15 - s.size) 0
theorem nameB_len (s : ByteArray) (h : s.size ≤ 15) : (nameB s).length = 16 := by
  have : s.data.toList.length = s.size := by rw [Array.length_toList]; rfl
  simp only [nameB, List.cons_append, List.length_cons, List.length_append, List.length_replicate, this]; omega


end Go.Proofs.YtkfdgodngbinlaaGreatDoor
namespace Go.Proofs.YtkfdgodngbinlaaGreatDoor
set_option linter.all false
open Go.RowKit

def bstr (l : List UInt8) : ByteArray := ⟨l.toArray⟩
theorem bstr_size (l : List UInt8) : (bstr l).size = l.length := by simp [bstr, ByteArray.size]
theorem bstr_list (l : List UInt8) : (bstr l).data.toList = l := by simp [bstr]
theorem bstr_of (s : ByteArray) : s = bstr s.data.toList := by simp [bstr]
def Up (w : World) (g : Nat) (e : Int) (b : List UInt8) : Prop := Blk w g 170 #[.int .i64 e, .string (bstr b)]

end Go.Proofs.YtkfdgodngbinlaaGreatDoor
namespace Go.Proofs.YtkfdgodngbinlaaGreatDoor
set_option linter.all false
open Go.RowKit

theorem Up.c0 {w : World} {g : Nat} {e : Int} {b : List UInt8} (h : Up w g e b) : w.cell? ⟨g, 0, none⟩ = some (.int .i64 e) := h.cell 0
theorem Up.c1 {w : World} {g : Nat} {e : Int} {b : List UInt8} (h : Up w g e b) : w.cell? ⟨g, 1, none⟩ = some (.string (bstr b)) := h.cell 1
theorem Up.fr0 {w w' : World} {g : Nat} {e : Int} {b : List UInt8} (h : Up w g e b) (hf : Fr (fun _ => False) w w') : Up w' g e b := Blk.fr h hf (fun h => h)

def UInv (g : Nat) (b : List UInt8) (w w' : World) : Prop := Up w' g 0 b ∧ Fr (fun _ => False) w w'
theorem UInv.start {g : Nat} {b : List UInt8} {w : World} (h : Up w g 0 b) : UInv g b w w.drew := ⟨h, (Fr.refl _ w).drew⟩
end Go.Proofs.YtkfdgodngbinlaaGreatDoor
namespace Go.Proofs.YtkfdgodngbinlaaGreatDoor
set_option linter.all false
open Go.RowKit

theorem Pk.new (w : World) : Pk (w.alloc (.cells #[.int .i64 0, .slice none 0 0] 127)) w.heap.size (pkF w.heap.size none 0 0) 0 [] ∧ ∀ k, pkF w.heap.size none 0 0 k → w.heap.size ≤ k := by
  refine ⟨⟨none, 0, 0, Blk.new _ _ _, World.ownsRow_nil _ _ _ _, rfl⟩, ?_⟩
  rintro k (rfl | hk)
  · exact Nat.le_refl _
  · cases hk

end Go.Proofs.YtkfdgodngbinlaaGreatDoor
namespace Go.Proofs.YtkfdgodngbinlaaGreatDoor
set_option linter.all false
open Go.RowKit

end Go.Proofs.YtkfdgodngbinlaaGreatDoor
namespace Go.Proofs.YtkfdgodngbinlaaGreatDoor
set_option linter.all false
open Go.RowKit

def Tab (w : World) : Prop := Lib.TabIs Tryz.prog w "internal/strconv.uint64pow10" .u64 Lib.pow10Tab
theorem Tab.below {w w' : World} (h : Tab w) (hb : Below w.heap.size w w') : Tab w' := tab_below h hb

end Go.Proofs.YtkfdgodngbinlaaGreatDoor
namespace Go.Proofs.YtkfdgodngbinlaaGreatDoor
set_option linter.all false
open Go.RowKit

def digVal (l : List UInt8) : Int := l.foldl (fun n c => 10 * n + ((c.toNat : Int) - 48)) 0
def isDig (c : UInt8) : Bool := decide (48 ≤ c.toNat ∧ c.toNat ≤ 57)
def numBad (d : List UInt8) (neg : Bool) : Bool := decide (d.length < 1 ∨ 18 < d.length ∨ ((d.headD 0).toNat = 48 ∧ (1 < d.length ∨ neg = true)))
def numD (d : List UInt8) (neg : Bool) : Int × Int :=
  if numBad d neg = true then (0, 1) else if d.all isDig = true then ((if neg = true then -(digVal d) else digVal d), 0) else (0, 1)
def numV (s : List UInt8) : Int × Int := numD (Lib.trimPrefix s [45]) (Lib.hasPrefix s [45])

theorem digVal_snoc (l : List UInt8) (c : UInt8) : digVal (l ++ [c]) = 10 * digVal l + ((c.toNat : Int) - 48) := by simp [digVal]
theorem numD_no {d : List UInt8} {neg : Bool} (h : numBad d neg = false) (h2 : d.all isDig = false) : numD d neg = (0, 1) := by simp [numD, h, h2]
theorem numD_yes {d : List UInt8} {neg : Bool} (h : numBad d neg = false) (h2 : d.all isDig = true) : numD d neg = ((if neg = true then -(digVal d) else digVal d), 0) := by simp [numD, h, h2]

set_option maxRecDepth 100000 in
theorem number_bad (s : List UInt8) (w : World) (h : numBad (Lib.trimPrefix s [45]) (Lib.hasPrefix s [45]) = true) (hs : s.length ≤ 1099511627776) :
    Calls Tryz.prog 191 #[.string (bstr s)] w fun r w' => r = .returned (.tuple #[.int .i64 0, .int .i64 1]) ∧ w = w' := by
  have hc := Tryz.strings_CutPrefix (bstr s) ⟨#[45]⟩ w
  rw [bstr_list] at hc
  change Calls _ _ _ _ (fun e w' => e = .returned (.tuple #[.string (bstr (Lib.trimPrefix s [45])), .bool (Lib.hasPrefix s [45])]) ∧ w' = w) at hc
  generalize Lib.trimPrefix s [45] = d at *
  generalize Lib.hasPrefix s [45] = neg at *
  have Hc := Lib.hid hc
  have h := of_decide_eq_true h
  have hsz := bstr_size d
  clear hc
  rcases h with h | h | ⟨h1, h2⟩
  · have hz : (((bstr d).size : Int) == 0) = true := beq_iff_eq.2 (by omega)
    clear h hsz
    go_enter Tryz.func191, Tryz.ntmps191
    go_wp2_with fail
    refine Hc.out.mono ?_
    rintro r w' ⟨rfl, rfl⟩
    go_wp2
    go_ret2
    exact ⟨rfl, rfl⟩
  · have hz : (((bstr d).size : Int) == 0) = false := beq_eq_false_iff_ne.2 (by omega)
    have hz2 : (18 : Int) < ((bstr d).size : Int) := by omega
    clear h hsz
    go_enter Tryz.func191, Tryz.ntmps191
    go_wp2_with fail
    refine Hc.out.mono ?_
    rintro r w' ⟨rfl, rfl⟩
    go_wp2
    go_ret2
    exact ⟨rfl, rfl⟩
  · rcases d with _ | ⟨c, t⟩
    · simp at h1
    · have hidx : ∀ h : 0 < (bstr (c :: t)).size, (bstr (c :: t))[0]'h = c := by intro h; rfl
      have h1' : ((c.toNat : Int) == 48) = true := by simp at h1; simp; omega
      have hlen : (c :: t).length = t.length + 1 := rfl
      rw [hlen] at hsz h2
      clear h1
      generalize bstr (c :: t) = x at *
      have hz : ((x.size : Int) == 0) = false := beq_eq_false_iff_ne.2 (by omega)
      have hz0 : 0 < x.size := by omega
      by_cases h18 : 18 < t.length + 1
      · have hz2 : (18 : Int) < (x.size : Int) := by omega
        clear hsz h2 h18
        go_enter Tryz.func191, Tryz.ntmps191
        go_wp2_with fail
        refine Hc.out.mono ?_
        rintro r w' ⟨rfl, rfl⟩
        go_wp2
        go_ret2
        exact ⟨rfl, rfl⟩
      · have hz2 : (x.size : Int) ≤ 18 := by omega
        by_cases h3 : 1 < t.length + 1
        · have hz3 : (1 : Int) < (x.size : Int) := by omega
          clear hsz h2 h18 h3
          go_enter Tryz.func191, Tryz.ntmps191
          go_wp2_with fail
          refine Hc.out.mono ?_
          rintro r w' ⟨rfl, rfl⟩
          go_wp2
          go_ret2
          exact ⟨rfl, rfl⟩
        · have hz3 : (x.size : Int) ≤ 1 := by omega
          have hneg : neg = true := by rcases h2 with h2 | h2
                                       · omega
                                       · exact h2
          subst hneg
          clear hsz h2 h18 h3
          go_enter Tryz.func191, Tryz.ntmps191
          go_wp2_with fail
          refine Hc.out.mono ?_
          rintro r w' ⟨rfl, rfl⟩
          go_wp2
          go_ret2
          exact ⟨rfl, rfl⟩

set_option maxRecDepth 100000 in
theorem number_ok (s : List UInt8) (w : World) (h : numBad (Lib.trimPrefix s [45]) (Lib.hasPrefix s [45]) = false) :
    Calls Tryz.prog 191 #[.string (bstr s)] w fun r w' => r = .returned (.tuple #[.int .i64 (numV s).1, .int .i64 (numV s).2]) ∧ w = w' := by
  have hc := Tryz.strings_CutPrefix (bstr s) ⟨#[45]⟩ w
  rw [bstr_list] at hc
  change Calls _ _ _ _ (fun e w' => e = .returned (.tuple #[.string (bstr (Lib.trimPrefix s [45])), .bool (Lib.hasPrefix s [45])]) ∧ w' = w) at hc
  unfold numV
  generalize Lib.trimPrefix s [45] = d at *
  generalize Lib.hasPrefix s [45] = neg at *
  have Hc := Lib.hid hc
  have hbad := of_decide_eq_false h
  have hsz := bstr_size d
  have Hbd := Lib.hid h
  clear hc h
  rcases d with _ | ⟨c, t⟩
  · simp at hbad
  · have hidx : ∀ h : 0 < (bstr (c :: t)).size, (bstr (c :: t))[0]'h = c := by intro h; rfl
    have hget : ∀ (k : Nat) (x : UInt8), (c :: t)[k]? = some x → ∀ h : k < (bstr (c :: t)).size, (bstr (c :: t))[k]'h = x := by
      intro k x hk h
      have : (bstr (c :: t))[k]'h = (c :: t)[k]'(by rw [bstr_size] at h; exact h) := rfl
      rw [this]
      exact (List.getElem?_eq_some_iff.1 hk).2
    have Hget := Lib.hid hget
    have Hbad := Lib.hid hbad
    have hlen : (c :: t).length = t.length + 1 := rfl
    have Hz := Lib.hid (hsz.trans hlen)
    have hz18 : ((bstr (c :: t)).size : Int) ≤ 18 := by simp only [hlen] at hbad; omega
    have hz0 : 0 < (bstr (c :: t)).size := by omega
    have hz : (((bstr (c :: t)).size : Int) == 0) = false := beq_eq_false_iff_ne.2 (by omega)
    -- the loop, once the tests are behind it
    have hcase : ((c.toNat : Int) == 48) = false ∨ (((c.toNat : Int) == 48) = true ∧ ((bstr (c :: t)).size : Int) ≤ 1 ∧ neg = false) := by
      by_cases h48 : c.toNat = 48
      · right
        simp only [List.headD_cons, h48, true_and, not_or] at hbad
        refine ⟨beq_iff_eq.2 (by omega), by omega, by simpa using hbad.2.2.2⟩
      · left; exact beq_eq_false_iff_ne.2 (by omega)
    have hd18 : decide ((18 : Int) < ((bstr (c :: t)).size : Int)) = false := decide_eq_false (by omega)
    have hL := hlen ▸ bstr_size (c :: t)
    have HL := Lib.hid (bstr_size (c :: t))
    clear hget hbad hsz hlen hL
    generalize hl : (c :: t) = l at *
    generalize bstr l = x at *
    have Hl := Lib.hid hl
    clear hl
    have hpow : ∀ k, k ≤ 17 → (10 : Int) ^ k ≤ 100000000000000000 := by
      intro k hk
      have h6 : (10 : Nat) ^ k ≤ 10 ^ 17 := Nat.pow_le_pow_right (by decide) hk
      have h7 := Int.ofNat_le.2 h6
      rw [Int.natCast_pow, Int.natCast_pow] at h7
      have h8 : (10 : Int) ^ 17 = 100000000000000000 := by decide
      rw [← h8]
      exact h7
    have Hpow := Lib.hid hpow
    clear hpow
    have hcase2 : ((c.toNat : Int) == 48) = false ∨ (((c.toNat : Int) == 48) = true ∧ decide ((1 : Int) < (x.size : Int)) = false ∧ neg = false) := by
      rcases hcase with h | ⟨h1, h2, h3⟩
      · exact .inl h
      · exact .inr ⟨h1, decide_eq_false (by omega), h3⟩
    clear hcase
    have hcase3 : (((c.toNat : Int) == 48) = false ∧ neg = true) ∨ (((c.toNat : Int) == 48) = false ∧ neg = false) ∨ (((c.toNat : Int) == 48) = true ∧ decide ((1 : Int) < (x.size : Int)) = false ∧ neg = false) := by
      rcases hcase2 with h | h
      · cases neg
        · exact .inr (.inl ⟨h, rfl⟩)
        · exact .inl ⟨h, rfl⟩
      · exact .inr (.inr h)
    clear hcase2
    rcases hcase3 with ⟨hcase, rfl⟩ | ⟨hcase, rfl⟩ | ⟨hc1, hc2, rfl⟩
    all_goals
      go_enter Tryz.func191, Tryz.ntmps191
      go_wp2_with fail
      refine Hc.out.mono ?_
      rintro r w' ⟨rfl, rfl⟩
      go_wp2
      go_loop [6, 36] (fun v i => ∃ (k : Nat) (n : Int), k ≤ x.size ∧ i = .int .i64 k ∧ v = .int .i64 n ∧ Hid (n = digVal (l.take k)) ∧ Hid (∀ c ∈ l.take k, isDig c = true) ∧ 0 ≤ n ∧ Hid (n < 10 ^ k)) (fun _ i => x.size - (intOf i).toNat)
      case atStart => exact ⟨0, 0, Nat.zero_le _, rfl, rfl, rfl, fun _ h => by simp at h, by omega, by show (0 : Int) < 10 ^ 0; decide⟩
      case round =>
        obtain ⟨k, n, hk, rfl, rfl, hn, hall, hn0, hlt⟩ := hrel
        by_cases hkl : k < x.size
        · obtain ⟨y, hy⟩ : ∃ y, l[k]? = some y := ⟨_, List.getElem?_eq_getElem (by have := HL.out; omega)⟩
          have hix := Hget.out k y hy
          have Hy := Lib.hid hy
          have hyb := y.toNat_lt
          have hn17 : n < 100000000000000000 := by
            have := Hpow.out k (by omega)
            have := hlt.out
            omega
          have hki : (k : Int) < (x.size : Int) := by omega
          clear hy
          by_cases hd : 48 ≤ y.toNat ∧ y.toNat ≤ 57
          · obtain ⟨hd1, hd2⟩ := hd
            have hd1' : (48 : Int) ≤ (y.toNat : Int) := by omega
            have hd2' : (y.toNat : Int) ≤ 57 := by omega
            go_wp2
            go_round
            case rel =>
              refine ⟨k + 1, 10 * n + ((y.toNat : Int) - 48), by omega, by go_num, rfl, ?_, ?_, by omega, ?_⟩
              · show _ = _
                rw [take_snoc Hy.out, digVal_snoc, hn.out]
              · show ∀ c ∈ _, _
                rw [take_snoc Hy.out]
                intro c hc
                rcases List.mem_append.1 hc with h | h
                · exact hall.out c h
                · rw [List.mem_singleton.1 h]; exact decide_eq_true ⟨hd1, hd2⟩
              · show _ < _
                have := hlt.out
                rw [Int.pow_succ]
                omega
            case measure => simp [intOf]; omega
          · have hno : l.all isDig = false := by
              rw [List.all_eq_false]
              exact ⟨y, mem_of_get Hy.out, by simp only [isDig, hd]; decide⟩
            have Hno := Lib.hid hno
            clear hno
            have hd' : (y.toNat : Int) < 48 ∨ (48 ≤ (y.toNat : Int) ∧ 57 < (y.toNat : Int)) := by omega
            clear hd
            rcases hd' with hd | ⟨hd1, hd2⟩
            all_goals
              go_wp2
              go_ret2
              rw [numD_no Hbd.out Hno.out]
              exact ⟨rfl, rfl⟩
        · obtain rfl : k = x.size := by omega
          have hfull : l.take x.size = l := List.take_of_length_le (by have := HL.out; omega)
          have hyes : l.all isDig = true := by
            have := hall.out
            rw [hfull] at this
            exact List.all_eq_true.2 this
          have Hyes := Lib.hid hyes
          have hb : -1000000000000000000 ≤ n ∧ n ≤ 1000000000000000000 := by
            have h1 := hlt.out
            have h2 := Hpow.out (x.size - 1) (by omega)
            have h3 : (10 : Int) ^ x.size = 10 ^ (x.size - 1) * 10 := by rw [← Int.pow_succ, Nat.succ_eq_add_one, Nat.sub_add_cancel hz0]
            omega
          obtain ⟨hb1, hb2⟩ := hb
          have hfin := hn.out
          rw [hfull] at hfin
          have Hfin := Lib.hid hfin
          clear hfin hyes hfull
          go_wp2
          go_ret2
          rw [numD_yes Hbd.out Hyes.out, ← Hfin.out]
          exact ⟨rfl, rfl⟩

theorem number_any (s : List UInt8) (w : World) (hs : s.length ≤ 1099511627776) :
    Calls Tryz.prog 191 #[.string (bstr s)] w fun r w' => r = .returned (.tuple #[.int .i64 (numV s).1, .int .i64 (numV s).2]) ∧ w = w' := by
  by_cases h : numBad (Lib.trimPrefix s [45]) (Lib.hasPrefix s [45]) = true
  · have e : numV s = (0, 1) := by unfold numV numD; rw [if_pos h]
    rw [e]
    exact number_bad s w h hs
  · exact number_ok s w (by simpa using h)
end Go.Proofs.YtkfdgodngbinlaaGreatDoor
