/- Walks of sedimentbook's LentSamples, StaysSamples, LentRecords, StaysRecords. -/
import Derived.Test.YtbblmmneeafhgaaGreatSame
import Derived.Test.YtbblmmneeafhgaaGreatBook
import Derived.Test.YtbblmmneeafhgaaGreatFrom
import Derived.Test.YtbblmmneeafhgaaGreatPolSame
namespace Go.Proofs.YtbblmmneeafhgaaGreat
set_option linter.all false
open Go.RowKit

def lentS (l : List SampV) : List Value := scells l ++ [.string { data := #[] }, .int .i64 (-77), .int .i64 0]
set_option maxRecDepth 100000 in
set_option maxHeartbeats 4000000 in
theorem lentS_any (l : List SampV) (A : Option Addr) (n c : Nat) (w : World) (hr : Rd w 3 A n (scells l)) (hn : n ≤ 1000000) :
  Calls Tryz.prog 12 #[.slice A n c] w fun r w' => ∃ B d, r = .returned (.slice B n d) ∧ n + 1 ≤ d ∧ d ≤ maxLen ∧ Rd w' 3 B (n + 1) (lentS l) ∧ (∀ k, adF B (n + 1) k → w.heap.size ≤ k) ∧ Below w.heap.size w w' := by
 obtain ⟨i0, hi0, hz0, hz1, hz2⟩ := info_parts info_samp
 have Hr := Lib.hid hr
 clear hr
 go_enter Tryz.func12, Tryz.ntmps12
 go_wp2_with (at_builtin; refine wpList_app2 rfl _ (.tmp 3) 50 rfl 95 i0 _ 3 32 Tryz.underlying50 hi0 hz0 hz1 hz2 rfl (by decide) (.slice none 0 0) 0 [] rfl w.heap.size (Nat.le_refl _) (World.ownsRow_nil _ _ _ _) A n c (scells l) rfl Hr.out (scells_one l) ?q1 ?q2 ?_)
 case q1 => unfold maxLen; omega
 case q2 => omega
 intro R1 c1 w1 ho1 hm1 _
 (try simp only [Nat.zero_add, List.nil_append] at ho1)
 (try simp only [Nat.zero_add] at hm1)
 (try rw [Nat.zero_add])
 have HO1 := Lib.hid ho1
 have O1 := Lib.hid (((Own.start w).also (G := rowF (.slice none 0 0)) (fun k hk => by cases hk)).mv hm1)
 have hs1 := Lib.hid hm1.size
 clear ho1 hm1
 go_wp2_with (at_builtin; refine wpList_app2 rfl (.tmp 4) (.tmp 6) 50 rfl 95 i0 _ 3 32 Tryz.underlying50 hi0 hz0 hz1 hz2 rfl (by decide) (.slice R1 n c1) n _ rfl w.heap.size (by have := hs1.out; simp; omega) (own_fr0 HO1.out (Fr.none_alloc _ _)) (some ⟨w1.heap.size, 0, none⟩) 1 1 [.string { data := #[] }, .int .i64 (-77), .int .i64 0] rfl (Rd.newS (by simp) _ _ _ _ rfl) (by simp [Value.oneCell']) ?q1 ?q2 ?_)
 case q1 => unfold maxLen; omega
 case q2 => omega
 intro R2 c2 w2 ho2 hm2 _
 have HO2 := Lib.hid ho2
 have O2 := Lib.hid ((O1.out.skip (Fr.none_alloc _ _)).mv hm2)
 obtain ⟨R3, c3, e3, hc3, hc4, hr3⟩ := own_slice ho2
 injection e3 with e1 e2 e3
 subst e1
 subst e3
 have hcn : n ≤ c2 := by omega
 have hcn2 : (n : Int) ≤ (c2 : Int) := by omega
 have hcm : c2 ≤ 9223372036854775807 := by unfold maxLen at hc4; omega
 have HC4 := Lib.hid hc4
 have HR3 := Lib.hid hr3
 clear ho2 hm2 hc4 hr3
 go_wp2_with fail
 go_ret
 exact ⟨R2, c2, rfl, hc3, HC4.out, HR3.out, fun k hk => O2.out.new k (adF_head k hk), O2.out.bel⟩

set_option maxRecDepth 100000 in
set_option maxHeartbeats 4000000 in
theorem staysS_any (l : List SampV) (B : Option Addr) (n d : Nat) (A : Option Addr) (c : Nat) (w : World) (hb : Rd w 3 B (n + 1) (lentS l)) (ha : Rd w 3 A n (scells l)) (hd : n + 1 ≤ d) (hd2 : d ≤ maxLen) (hn : n ≤ 1000000) :
  Calls Tryz.prog 23 #[.slice B n d, .slice A n c] w fun r w' => r = .returned (.bool true) ∧ Below w.heap.size w w' := by
 have hl : (scells l).length = n * 3 := ha.1
 have hbn : Rd w 3 B n (scells l) := by
  have := hb.take (k := n) (by omega)
  unfold lentS at this
  rwa [List.take_left' hl] at this
 obtain ⟨bd, rfl, hcell⟩ := hb.2 (by omega)
 have hm1 : w.cell? ((bd.add (n * 3)).add 1) = some (.int .i64 (-77)) := by
  rw [add_of_add]
  refine hcell (n * 3 + 1) _ ?_
  unfold lentS
  rw [List.getElem?_append_right (by rw [hl]; omega), hl, Nat.add_sub_cancel_left]
  rfl
 rw [add_pos _ _ (by decide)] at hm1
 have HM := Lib.hid hm1
 have HS := Lib.hid (samesamps_eq l _ _ _ _ _ w hbn ha (by omega) : Calls Tryz.prog 67 #[.slice (some bd) n d, .slice A n c] w fun r w' => r = .returned (.bool true) ∧ Below w.heap.size w w')
 unfold maxLen at hd2
 have hdi : (n : Int) + 1 ≤ (d : Int) := by omega
 have hto : ((n : Int) + 1).toNat = n + 1 := by omega
 clear hb ha hl hbn hcell hm1
 go_enter Tryz.func23, Tryz.ntmps23
 go_wp2_with fail
 refine HS.out.mono ?_
 rintro r w1 ⟨rfl, b1⟩
 have B1 := Lib.hid b1
 have m1 : w1.cell? _ = _ := (Fr.b0 b1).cell HM.out (fun h => h)
 clear b1
 go_wp2_with fail
 go_ret
 exact ⟨rfl, B1.out⟩

def lentR (l : List RecV) : List Value := rcells l ++ [.string { data := #[] }, .int .i64 (-77), .int .i64 0, .int .i64 0, .int .u64 0, .int .i64 0, .int .i64 0]
set_option maxRecDepth 100000 in
set_option maxHeartbeats 4000000 in
theorem lentR_any (l : List RecV) (A : Option Addr) (n c : Nat) (w : World) (hr : Rd w 7 A n (rcells l)) (hn : n ≤ 1000000) :
  Calls Tryz.prog 13 #[.slice A n c] w fun r w' => ∃ B d, r = .returned (.slice B n d) ∧ n + 1 ≤ d ∧ d ≤ maxLen ∧ Rd w' 7 B (n + 1) (lentR l) ∧ (∀ k, adF B (n + 1) k → w.heap.size ≤ k) ∧ Below w.heap.size w w' := by
 obtain ⟨i0, hi0, hz0, hz1, hz2⟩ := info_parts info_rec
 have Hr := Lib.hid hr
 clear hr
 go_enter Tryz.func13, Tryz.ntmps13
 go_wp2_with (at_builtin; refine wpList_app2 rfl _ (.tmp 3) 51 rfl 100 i0 _ 7 64 Tryz.underlying51 hi0 hz0 hz1 hz2 rfl (by decide) (.slice none 0 0) 0 [] rfl w.heap.size (Nat.le_refl _) (World.ownsRow_nil _ _ _ _) A n c (rcells l) rfl Hr.out (rcells_one l) ?q1 ?q2 ?_)
 case q1 => unfold maxLen; omega
 case q2 => omega
 intro R1 c1 w1 ho1 hm1 _
 (try simp only [Nat.zero_add, List.nil_append] at ho1)
 (try simp only [Nat.zero_add] at hm1)
 (try rw [Nat.zero_add])
 have HO1 := Lib.hid ho1
 have O1 := Lib.hid (((Own.start w).also (G := rowF (.slice none 0 0)) (fun k hk => by cases hk)).mv hm1)
 have hs1 := Lib.hid hm1.size
 clear ho1 hm1
 go_wp2_with (at_builtin; refine wpList_app2 rfl (.tmp 4) (.tmp 6) 51 rfl 100 i0 _ 7 64 Tryz.underlying51 hi0 hz0 hz1 hz2 rfl (by decide) (.slice R1 n c1) n _ rfl w.heap.size (by have := hs1.out; simp; omega) (own_fr0 HO1.out (Fr.none_alloc _ _)) (some ⟨w1.heap.size, 0, none⟩) 1 1 [.string { data := #[] }, .int .i64 (-77), .int .i64 0, .int .i64 0, .int .u64 0, .int .i64 0, .int .i64 0] rfl (Rd.newS (by simp) _ _ _ _ rfl) (by simp [Value.oneCell']) ?q1 ?q2 ?_)
 case q1 => unfold maxLen; omega
 case q2 => omega
 intro R2 c2 w2 ho2 hm2 _
 have HO2 := Lib.hid ho2
 have O2 := Lib.hid ((O1.out.skip (Fr.none_alloc _ _)).mv hm2)
 obtain ⟨R3, c3, e3, hc3, hc4, hr3⟩ := own_slice ho2
 injection e3 with e1 e2 e3
 subst e1
 subst e3
 have hcn : n ≤ c2 := by omega
 have hcn2 : (n : Int) ≤ (c2 : Int) := by omega
 have hcm : c2 ≤ 9223372036854775807 := by unfold maxLen at hc4; omega
 have HC4 := Lib.hid hc4
 have HR3 := Lib.hid hr3
 clear ho2 hm2 hc4 hr3
 go_wp2_with fail
 go_ret
 exact ⟨R2, c2, rfl, hc3, HC4.out, HR3.out, fun k hk => O2.out.new k (adF_head k hk), O2.out.bel⟩

set_option maxRecDepth 100000 in
set_option maxHeartbeats 4000000 in
theorem staysR_any (l : List RecV) (B : Option Addr) (n d : Nat) (A : Option Addr) (c : Nat) (w : World) (hb : Rd w 7 B (n + 1) (lentR l)) (ha : Rd w 7 A n (rcells l)) (hd : n + 1 ≤ d) (hd2 : d ≤ maxLen) (hn : n ≤ 1000000) :
  Calls Tryz.prog 24 #[.slice B n d, .slice A n c] w fun r w' => r = .returned (.bool true) ∧ Below w.heap.size w w' := by
 have hl : (rcells l).length = n * 7 := ha.1
 have hbn : Rd w 7 B n (rcells l) := by
  have := hb.take (k := n) (by omega)
  unfold lentR at this
  rwa [List.take_left' hl] at this
 obtain ⟨bd, rfl, hcell⟩ := hb.2 (by omega)
 have hm1 : w.cell? ((bd.add (n * 7)).add 1) = some (.int .i64 (-77)) := by
  rw [add_of_add]
  refine hcell (n * 7 + 1) _ ?_
  unfold lentR
  rw [List.getElem?_append_right (by rw [hl]; omega), hl, Nat.add_sub_cancel_left]
  rfl
 rw [add_pos _ _ (by decide)] at hm1
 have HM := Lib.hid hm1
 have HS := Lib.hid (samerecs_eq l _ _ _ _ _ w hbn ha (by omega) : Calls Tryz.prog 28 #[.slice (some bd) n d, .slice A n c] w fun r w' => r = .returned (.bool true) ∧ Below w.heap.size w w')
 unfold maxLen at hd2
 have hdi : (n : Int) + 1 ≤ (d : Int) := by omega
 have hto : ((n : Int) + 1).toNat = n + 1 := by omega
 clear hb ha hl hbn hcell hm1
 go_enter Tryz.func24, Tryz.ntmps24
 go_wp2_with fail
 refine HS.out.mono ?_
 rintro r w1 ⟨rfl, b1⟩
 have B1 := Lib.hid b1
 have m1 : w1.cell? _ = _ := (Fr.b0 b1).cell HM.out (fun h => h)
 clear b1
 go_wp2_with fail
 go_ret
 exact ⟨rfl, B1.out⟩
end Go.Proofs.YtbblmmneeafhgaaGreat
namespace Go.Proofs.YtbblmmneeafhgaaGreat
set_option linter.all false
open Go.RowKit

theorem icells_ints (l : List Int) : icells l = ints l := by
 unfold icells ints icell
 induction l with
 | nil => rfl
 | cons x t ih => simp only [List.flatMap_cons, List.map_cons, ih, List.singleton_append]
def lentI (l : List Int) : List Value := ints l ++ [.int .i64 (-77)]
set_option maxRecDepth 100000 in
set_option maxHeartbeats 4000000 in
theorem lentI_any (l : List Int) (A : Option Addr) (n c : Nat) (w : World) (hr : Rd w 1 A n (ints l)) (hn : n ≤ 1000000) :
  Calls Tryz.prog 8 #[.slice A n c] w fun r w' => ∃ B d, r = .returned (.slice B n d) ∧ n + 1 ≤ d ∧ d ≤ maxLen ∧ Rd w' 1 B (n + 1) (lentI l) ∧ (∀ k, adF B (n + 1) k → w.heap.size ≤ k) ∧ Below w.heap.size w w' := by
 obtain ⟨i0, hi0, hz0, hz1, hz2⟩ := info_parts info_int
 have Hr := Lib.hid hr
 clear hr
 go_enter Tryz.func8, Tryz.ntmps8
 go_wp2_with (at_builtin; refine wpList_app2 rfl _ (.tmp 3) 25 rfl 3 i0 _ 1 8 Tryz.underlying25 hi0 hz0 hz1 hz2 rfl (by decide) (.slice none 0 0) 0 [] rfl w.heap.size (Nat.le_refl _) (World.ownsRow_nil _ _ _ _) A n c (ints l) rfl Hr.out (ints_one l) ?q1 ?q2 ?_)
 case q1 => unfold maxLen; omega
 case q2 => omega
 intro R1 c1 w1 ho1 hm1 _
 (try simp only [Nat.zero_add, List.nil_append] at ho1)
 (try simp only [Nat.zero_add] at hm1)
 (try rw [Nat.zero_add])
 have HO1 := Lib.hid ho1
 have O1 := Lib.hid (((Own.start w).also (G := rowF (.slice none 0 0)) (fun k hk => by cases hk)).mv hm1)
 have hs1 := Lib.hid hm1.size
 clear ho1 hm1
 go_wp2_with (at_builtin; refine wpList_app2 rfl (.tmp 4) (.tmp 5) 25 rfl 3 i0 _ 1 8 Tryz.underlying25 hi0 hz0 hz1 hz2 rfl (by decide) (.slice R1 n c1) n _ rfl w.heap.size (by have := hs1.out; simp; omega) (own_fr0 HO1.out (Fr.none_alloc _ _)) (some ⟨w1.heap.size, 0, none⟩) 1 1 [.int .i64 (-77)] rfl (Rd.newS (by simp) _ _ _ _ rfl) (by simp [Value.oneCell']) ?q1 ?q2 ?_)
 case q1 => unfold maxLen; omega
 case q2 => omega
 intro R2 c2 w2 ho2 hm2 _
 have HO2 := Lib.hid ho2
 have O2 := Lib.hid ((O1.out.skip (Fr.none_alloc _ _)).mv hm2)
 obtain ⟨R3, c3, e3, hc3, hc4, hr3⟩ := own_slice ho2
 injection e3 with e1 e2 e3
 subst e1
 subst e3
 have hcn : n ≤ c2 := by omega
 have hcn2 : (n : Int) ≤ (c2 : Int) := by omega
 have hcm : c2 ≤ 9223372036854775807 := by unfold maxLen at hc4; omega
 have HC4 := Lib.hid hc4
 have HR3 := Lib.hid hr3
 clear ho2 hm2 hc4 hr3
 go_wp2_with fail
 go_ret
 exact ⟨R2, c2, rfl, hc3, HC4.out, HR3.out, fun k hk => O2.out.new k (adF_head k hk), O2.out.bel⟩

set_option maxRecDepth 100000 in
set_option maxHeartbeats 4000000 in
theorem staysI_any (l : List Int) (B : Option Addr) (n d : Nat) (A : Option Addr) (c : Nat) (w : World) (hb : Rd w 1 B (n + 1) (lentI l)) (ha : Rd w 1 A n (ints l)) (hd : n + 1 ≤ d) (hd2 : d ≤ maxLen) (hn : n ≤ 1000000) :
  Calls Tryz.prog 11 #[.slice B n d, .slice A n c] w fun r w' => r = .returned (.bool true) ∧ Below w.heap.size w w' := by
 have hl : (ints l).length = n * 1 := ha.1
 have hbn : Rd w 1 B n (ints l) := by
  have := hb.take (k := n) (by omega)
  unfold lentI at this
  rwa [List.take_left' hl] at this
 obtain ⟨bd, rfl, hcell⟩ := hb.2 (by omega)
 have hm1 : w.cell? (bd.add n) = some (.int .i64 (-77)) := by
  refine hcell n _ ?_
  unfold lentI
  rw [Nat.mul_one] at hl
  rw [List.getElem?_append_right (by rw [hl]; omega), hl, Nat.sub_self]
  rfl
 have HM := Lib.hid hm1
 have HS := Lib.hid (sameints_eq l _ _ _ _ _ w (by rw [icells_ints]; exact hbn) (by rw [icells_ints]; exact ha) (by omega) : Calls Tryz.prog 48 #[.slice (some bd) n d, .slice A n c] w fun r w' => r = .returned (.bool true) ∧ Below w.heap.size w w')
 unfold maxLen at hd2
 have hdi : (n : Int) + 1 ≤ (d : Int) := by omega
 have hto : ((n : Int) + 1).toNat = n + 1 := by omega
 clear hb ha hl hbn hcell hm1
 go_enter Tryz.func11, Tryz.ntmps11
 go_wp2_with fail
 refine HS.out.mono ?_
 rintro r w1 ⟨rfl, b1⟩
 have B1 := Lib.hid b1
 have m1 : w1.cell? _ = _ := (Fr.b0 b1).cell HM.out (fun h => h)
 clear b1
 go_wp2_with fail
 go_ret
 exact ⟨rfl, B1.out⟩
end Go.Proofs.YtbblmmneeafhgaaGreat
