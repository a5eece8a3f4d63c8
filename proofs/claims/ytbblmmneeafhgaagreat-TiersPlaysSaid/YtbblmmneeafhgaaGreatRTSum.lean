/- Walks of sedimentref1.Hash and Shard. -/
import Derived.Test.YtbblmmneeafhgaaGreatName
import Derived.Test.YtbblmmneeafhgaaGreatRTAdd
import Derived.Test.YtbblmmneeafhgaaGreatTabNeed
import Derived.Test.YtbblmmneeafhgaaGreatTiersP
import Derived.Test.YtbblmmneeafhgaaGreatTk
namespace Go.Proofs.YtbblmmneeafhgaaGreat
set_option linter.all false
open Go.RowKit

set_option maxRecDepth 100000 in
theorem rhash_any (x : ByteArray) (hx : x.size ≤ maxLen) (w : World) :
  Calls Tryz.prog 206 #[.string x] w fun r w' => r = .returned (.int .u32 (hashV x.data.toList)) ∧ w = w' := by
 have hn : (x.size : Int) ≤ 9223372036854775807 := by unfold maxLen at hx; omega
 clear hx
 go_enter Tryz.func206, Tryz.ntmps206
 go_wp2_with fail
 go_loopw [3, 4] (fun h i wr => ∃ (j : Nat) (v : Int), j ≤ x.size ∧ i = .int .i64 j ∧ h = .int .u32 v ∧ 0 ≤ v ∧ v ≤ 4294967295 ∧ w = wr ∧ Hid (v = hashV (x.data.toList.take j))) (fun _ i _ => x.size - (intOf i).toNat)
 case atStart => exact ⟨0, 2166136261, Nat.zero_le _, rfl, rfl, by decide, by decide, rfl, rfl⟩
 case round =>
  obtain ⟨j, v, hj, rfl, rfl, v0, v1, rfl, hv⟩ := hrel
  by_cases hlj : j < x.size
  ·have hb1 : x[j].toNat < 256 := x[j].toNat_lt
   go_wp2_with fail
   go_roundw
   case rel =>
    refine ⟨j + 1, _, by omega, by go_num, rfl, ?_, ?_, by trivial, ?_⟩
    ·omega
    ·omega
    ·show _ = hashV (x.data.toList.take (j + 1))
     rw [take_snoc (byte_at hlj), hashV_snoc, ← hv.out]; rfl
   case measure => simp [intOf]; omega
  ·go_wp2_with fail
   go_ret
   obtain rfl : j = x.size := by omega
   have := hv.out
   rw [take_all (by rw [str_len]; exact Nat.le_refl _)] at this
   exact ⟨by rw [← this]; rfl, rfl⟩

theorem rshard_any (x : ByteArray) (hx : x.size ≤ maxLen) (n : Int) (w : World) :
  Calls Tryz.prog 189 #[.string x, .int .i64 n] w fun r w' => r = .returned (.int .i64 (shardV x n)) ∧ w = w' := by
 have hh := hashV_in x.data.toList
 by_cases h : n < 1
 ·rw [show shardV x n = 0 by simp [shardV, h]]
  go_enter Tryz.func189, Tryz.ntmps189
  go_wp2_with fail
  all_goals (go_ret <;> simp [*])
 ·rw [show shardV x n = hashV x.data.toList % n by simp [shardV, h]]
  have H := Lib.hid (rhash_any x hx)
  clear hx
  obtain ⟨v, hv⟩ : ∃ v, hashV x.data.toList = v := ⟨_, rfl⟩
  rw [hv] at hh ⊢
  have Hv := Lib.hid hv
  clear hv
  go_enter Tryz.func189, Tryz.ntmps189
  go_wp2_with fail
  refine (H.out _).mono ?_
  rw [Hv.out]
  rintro r w1 ⟨rfl, rfl⟩
  go_wp2_with fail
  all_goals (go_ret <;> simp [*])
end Go.Proofs.YtbblmmneeafhgaaGreat
namespace Go.Proofs.YtbblmmneeafhgaaGreat
set_option linter.all false
open Go.RowKit

def shardL (k M : Int) (b : Bool) (l : List RecV) : List RecV := l.filter fun r => decide (shardV r.name M = k) == b
set_option maxRecDepth 100000 in
set_option maxHeartbeats 6000000 in
theorem rtshard_any (p lo : Nat) (F : Nat → Prop) (every : Int) (l : List RecV) (k0 M : Int) (b0 : Bool) (w : World) (h : RTabF w p lo F every l) (hl : l.length ≤ 1000000) :
  Calls Tryz.prog 190 #[.pointer (some ⟨p, 0, none⟩), .int .i64 k0, .int .i64 M, .bool b0] w fun r w' => (∃ R cs, r = .returned (.slice R (shardL k0 M b0 l).length cs) ∧ w'.ownsRow w.heap.size 100 7 (.slice R (shardL k0 M b0 l).length cs) (shardL k0 M b0 l).length (rcells (shardL k0 M b0 l))) ∧ Fr (fun _ => False) w w' := by
 obtain ⟨⟨A, c, hb, ho, _⟩, hwf, _, _⟩ := h
 obtain ⟨n, hn⟩ : ∃ n, l.length = n := ⟨_, rfl⟩
 have Hn := Lib.hid hn
 rw [hn] at hb ho hl
 obtain ⟨hnc, hc9, hrd, _⟩ := own_any ho
 have Hb := Lib.hid hb
 have Hrd := Lib.hid hrd
 have Hwf := Lib.hid hwf
 obtain ⟨kp, hkp⟩ : ∃ f : List RecV → List RecV, shardL k0 M b0 = f := ⟨_, rfl⟩
 rw [hkp]
 have Hsn : Hid (∀ (q : Nat) (r : RecV), l[q]? = some r → kp (l.take (q + 1)) = if ((decide (shardV r.name M = k0)) == b0) = true then kp (l.take q) ++ [r] else kp (l.take q)) := by
  intro q r hr
  rw [← hkp, take_snoc hr]
  unfold shardL
  rw [List.filter_append]
  cases h : (decide (shardV r.name M = k0)) == b0 <;> simp [h]
 have Hk0 : Hid (kp (l.take 0) = []) := by show _ = _; rw [← hkp]; rfl
 have HkN : Hid (kp (l.take n) = kp l) := by show _ = _; rw [← hn, List.take_length]
 have Hkl : Hid (∀ q, (kp (l.take q)).length ≤ 1000000) := fun q => by
  rw [← hkp]
  refine Nat.le_trans (List.length_filter_le _ _) ?_
  rw [List.length_take]
  omega
 obtain ⟨i0, hi, hz0, hz1, hz2⟩ := info_parts info_rec
 have HHi := Lib.hid hi
 obtain ⟨NL, hNL⟩ : ∃ v, (kp l).length = v := ⟨_, rfl⟩
 have HNL := Lib.hid hNL
 rw [hNL]
 clear hb ho hrd hwf hn hkp hNL
 go_enter Tryz.func190, Tryz.ntmps190
 go_wp2_with fail
 go_loopw [9, 10] (fun o i wr => ∃ (q k : Nat) (R : Option Addr) (cs : Nat), q ≤ n ∧ i = .int .i64 q ∧ o = .slice R k cs ∧ (kp (l.take q)).length = k ∧ wr.ownsRow w.heap.size 100 7 (.slice R k cs) k (rcells (kp (l.take q))) ∧ Fr (fun _ => False) w wr) (fun _ i _ => n - (intOf i).toNat)
 case atStart =>
  refine ⟨0, 0, none, 0, Nat.zero_le _, rfl, rfl, by rw [Hk0.out]; rfl, ?_, Fr.refl _ _⟩
  rw [Hk0.out]
  exact World.ownsRow_nil _ _ _ _
 case round =>
  obtain ⟨q, k, R, cs, hq, rfl, rfl, hlk, hrow, hfr⟩ := hrel
  have hklm : k ≤ 1000000 := by rw [← hlk]; exact Hkl.out q
  have Hlk := Lib.hid hlk
  have Hrow := Lib.hid hrow
  have HFr := Lib.hid hfr
  have a1 := (Hb.out.fr hfr (fun h => h)).cell 1
  simp only [List.getElem?_toArray, List.getElem?_cons_succ, List.getElem?_cons_zero] at a1
  clear hlk hrow hfr
  by_cases hlt : q < n
  ·obtain ⟨ra, ⟨rn, rs, ⟨r1, r2, r3, r4, r5⟩⟩, rfl, hr, d0, d1, d2, d3, d4, d5, d6⟩ := (Hrd.out.fr0 HFr.out).rec_ hlt
   have Hsq := Lib.hid (Hsn.out q _ hr)
   simp only at Hsq d0 d1 d2 d3 d4 d5 d6
   have hrs := (Hwf.out _ (mem_of_get hr)).2.2
   simp only at hrs
   have HSh := Lib.hid (rshard_any rn hrs M wr)
   obtain ⟨sv, hsv⟩ : ∃ v, shardV rn M = v := ⟨_, rfl⟩
   rw [hsv] at HSh Hsq
   have e1 : decide ((q : Int) < (n : Int)) = true := decide_eq_true (by omega)
   have e5 : 0 ≤ (q : Int) ∧ (q : Int) < (n : Int) := by omega
   have hqw : IntKind.i64.wrap ((q : Int) + 1) = (q : Int) + 1 := by simp [IntKind.wrap, IntKind.signed, IntKind.bits]; omega
   obtain ⟨eb, heb⟩ : ∃ b, (decide (sv = k0) == b0) = b := ⟨_, rfl⟩
   rw [heb] at Hsq
   have heb2 : ((sv == k0) == b0) = eb := by rw [← heb]; congr 1
   clear hr hsv hrs
   go_wp2_with fail
   refine HSh.out.mono ?_
   rintro r w' ⟨rfl, rfl⟩
   cases eb with
   | true =>
    have hHsq : Hid (kp (l.take (q + 1)) = kp (l.take q) ++ [⟨rn, rs, ⟨r1, r2, r3, r4, r5⟩⟩]) := by show _ = _; rw [Hsq.out, if_pos rfl]
    clear Hsq
    go_wp2_with (at_builtin; refine wpList_app2 rfl _ _ 51 rfl 100 i0 _ 7 64 Tryz.underlying51 hi hz0 hz1 hz2 rfl (by decide) (.slice R k cs) k _ rfl w.heap.size (by have := HFr.out.size; simp; omega) (own_fr0 Hrow.out (Fr.none_alloc _ _)) (some ⟨wr.heap.size, 0, none⟩) 1 1 [.string rn, .int .i64 rs, .int .i64 r1, .int .i64 r2, .int .u64 r3, .int .i64 r4, .int .i64 r5] rfl (Rd.newS (by simp) _ _ _ _ rfl) (by simp [Value.oneCell']) ?q1 ?q2 ?_)
    case q1 => unfold maxLen; omega
    case q2 => omega
    intro R6 c6 w6 ho6 hm6 _
    have Ho6 := Lib.hid ho6
    have F6 : Hid (Fr (fun _ => False) w w6) := (HFr.out.trans (Fr.none_alloc _ _) (fun _ h => h.elim)).trans hm6.fr (fun i hi => .inr (Hrow.out.lt i hi).1)
    clear ho6 hm6 d0 d1 d2 d3 d4 d5 d6 a1 heb heb2
    go_wp2
    go_roundw
    case rel =>
     refine ⟨q + 1, k + 1, R6, c6, by omega, by go_num, rfl, by rw [hHsq.out, List.length_append, Hlk.out]; rfl, ?_, F6.out⟩
     have h := Ho6.out
     rw [hHsq.out]
     unfold rcells at h ⊢
     rw [List.flatMap_append]
     exact h
    case measure => simp [intOf]; omega
   | false =>
    have hHsq : Hid (kp (l.take (q + 1)) = kp (l.take q)) := by show _ = _; rw [Hsq.out, if_neg (by simp)]
    clear Hsq
    go_wp2_with fail
    go_roundw
    case rel => exact ⟨q + 1, k, R, cs, by omega, by go_num, rfl, by rw [hHsq.out]; exact Hlk.out, by rw [hHsq.out]; exact Hrow.out, HFr.out⟩
    case measure => simp [intOf]; omega
  ·obtain rfl : q = n := by omega
   have e1 : decide ((q : Int) < (q : Int)) = false := decide_eq_false (by omega)
   rw [HkN.out] at Hlk Hrow
   go_wp2_with fail
   go_ret
   exact ⟨⟨R, cs, by (have e : NL = k := HNL.out.symm.trans Hlk.out); subst e; rfl, by have e : NL = k := HNL.out.symm.trans Hlk.out; rw [e]; exact Hrow.out⟩, HFr.out⟩
def firstB (M : Int) (l : List RecV) (q j : Nat) (sv : Int) : Bool := ((l.take q).take j).all fun r => decide (shardV r.name M ≠ sv)
theorem firstB_zero {M : Int} {l : List RecV} {q : Nat} {sv : Int} : firstB M l q 0 sv = true := by unfold firstB; simp
theorem firstB_snoc {M : Int} {l : List RecV} {q j : Nat} {sv : Int} {r : RecV} (hj : j < q) (hr : l[j]? = some r) : firstB M l q (j + 1) sv = (firstB M l q j sv && decide (shardV r.name M ≠ sv)) := by
 unfold firstB
 have h : (l.take q)[j]? = some r := by rw [List.getElem?_take, if_pos hj]; exact hr
 rw [take_snoc h, List.all_append]
 simp
theorem firstB_step {M : Int} {l : List RecV} {q j : Nat} {sv : Int} {r : RecV} (hr : l[j]? = some r) (h : firstB M l q j sv = true) (hj : j < q := by omega) : firstB M l q (j + 1) sv = decide (shardV r.name M ≠ sv) := by
 rw [firstB_snoc hj hr, h, Bool.true_and]
theorem firstB_mono {M : Int} {l : List RecV} {q j : Nat} {sv : Int} (h : firstB M l q j sv = false) (hjq : j ≤ q) : firstB M l q q sv = false := by
 unfold firstB at h ⊢
 rw [List.all_eq_false] at h ⊢
 obtain ⟨x, hx, h⟩ := h
 refine ⟨x, ?_, h⟩
 rw [List.take_take, Nat.min_self]
 rw [List.take_take] at hx
 exact List.mem_of_mem_take (by rw [List.take_take, Nat.min_eq_left (by omega : min j q ≤ q)]; exact hx)
theorem firstB_end {M : Int} {l : List RecV} {q j : Nat} {sv : Int} (hj : j ≤ q) (h : ¬ (j < q ∧ firstB M l q j sv = true)) : firstB M l q q sv = firstB M l q j sv := by
 by_cases hjq : j < q
 ·have hf : firstB M l q j sv = false := by cases hf : firstB M l q j sv with | true => exact absurd ⟨hjq, hf⟩ h | false => rfl
  rw [hf, firstB_mono hf hj]
 ·obtain rfl : j = q := by omega
  rfl
def seenN (M : Int) (l : List RecV) (q : Nat) : Nat := ((List.range M.toNat).map fun (k : Nat) => if (l.take q).any (fun r => decide (shardV r.name M = (k : Int))) = true then (cntS M l k + 2) / 3 else 0).sum
theorem sum_zero {L : List Nat} (h : ∀ x ∈ L, x = 0) : L.sum = 0 := by
 induction L with
 | nil => rfl
 | cons a t ih =>
  rw [List.sum_cons, h a (by simp), ih (fun x hx => h x (List.mem_cons_of_mem _ hx))]
theorem seenN_zero {M : Int} {l : List RecV} : seenN M l 0 = 0 := by
 unfold seenN
 refine sum_zero (fun x hx => ?_)
 obtain ⟨k, _, rfl⟩ := List.mem_map.1 hx
 simp
theorem seenN_all {M : Int} {l : List RecV} (hM : 1 ≤ M) : seenN M l l.length = needV M l := by
 unfold seenN needV
 congr 1
 refine List.map_congr_left (fun k _ => ?_)
 rw [List.take_length]
 split
 ·rfl
 ·rename_i h
  have h0 : cntS M l k = 0 := by
   unfold cntS
   rw [List.length_eq_zero_iff, List.filter_eq_nil_iff]
   intro r hr hd
   exact h (List.any_eq_true.2 ⟨r, hr, hd⟩)
  rw [h0]
theorem sum_map_le {L : List Nat} {f g : Nat → Nat} (h : ∀ x ∈ L, f x ≤ g x) : (L.map f).sum ≤ (L.map g).sum := by
 induction L with
 | nil => exact Nat.le_refl _
 | cons a t ih =>
  simp only [List.map_cons, List.sum_cons]
  have h1 := h a (by simp)
  have h2 := ih (fun x hx => h x (List.mem_cons_of_mem _ hx))
  omega
theorem seenN_le {M : Int} {l : List RecV} (hM : M ≤ 8) (q : Nat) : seenN M l q ≤ 8 * (l.length + 2) := by
 refine Nat.le_trans ?_ (needV_le M hM l)
 unfold seenN needV
 refine sum_map_le (fun x _ => ?_)
 split <;> omega
theorem sum_set_one {f g : Nat → Nat} {v : Nat} : ∀ {m j : Nat}, j < m → (∀ k, k ≠ j → f k = g k) → f j = g j + v → ((List.range m).map f).sum = ((List.range m).map g).sum + v
 | 0, _, h, _, _ => by omega
 | m + 1, j, h, he, hj => by
  rw [List.range_succ, List.map_append, List.map_append, List.sum_append, List.sum_append]
  simp only [List.map_cons, List.map_nil, List.sum_cons, List.sum_nil]
  by_cases e : j = m
  ·subst e
   have : (List.range j).map f = (List.range j).map g := List.map_congr_left (fun k hk => he k (by have := List.mem_range.1 hk; omega))
   rw [this, hj]
   omega
  ·rw [sum_set_one (by omega) he hj, he m (fun h => e h.symm)]
   omega
theorem cnt_shardL {M : Int} {l : List RecV} {j : Nat} : (shardL (j : Int) M true l).length = cntS M l j := by
 unfold shardL cntS
 congr 2
 funext r
 cases decide (shardV r.name M = (j : Int)) <;> rfl
theorem seenN_snoc {M : Int} {l : List RecV} {q : Nat} {r : RecV} (hM : 1 ≤ M) (hr : l[q]? = some r) : seenN M l (q + 1) = if firstB M l q q (shardV r.name M) = true then seenN M l q + ((shardL (shardV r.name M) M true l).length + 2) / 3 else seenN M l q := by
 obtain ⟨j, hj, hjM⟩ := shardV_in2 r.name M hM
 have hany : ∀ k : Nat, (l.take (q + 1)).any (fun x => decide (shardV x.name M = (k : Int))) = ((l.take q).any (fun x => decide (shardV x.name M = (k : Int))) || decide ((j : Int) = (k : Int))) := fun k => by
  rw [take_snoc hr, List.any_append]
  simp [hj]
 have hfirst : firstB M l q q (shardV r.name M) = !(l.take q).any (fun x => decide (shardV x.name M = (j : Int))) := by
  unfold firstB
  rw [List.take_take, Nat.min_self, hj, List.not_any_eq_all_not]
  congr 1
  funext x
  simp
 rw [hfirst]
 unfold seenN
 cases ha : (l.take q).any (fun x => decide (shardV x.name M = (j : Int))) with
 | true =>
  rw [if_neg (by simp)]
  congr 1
  refine List.map_congr_left (fun k _ => ?_)
  rw [hany k]
  by_cases e : (j : Int) = (k : Int)
  ·have e' : j = k := by omega
   subst e'
   rw [ha]
   simp
  ·rw [decide_eq_false e, Bool.or_false]
 | false =>
  rw [if_pos (by simp)]
  rw [hj, cnt_shardL]
  refine sum_set_one (j := j) (by omega) (fun k hk => ?_) ?_
  ·rw [hany k, decide_eq_false (by omega), Bool.or_false]
  ·rw [hany j, ha]
   simp
set_option maxRecDepth 100000 in
set_option maxHeartbeats 6000000 in
theorem rtneed_any (p lo : Nat) (F : Nat → Prop) (every : Int) (l : List RecV) (M : Int) (hM : 1 ≤ M ∧ M ≤ 8) (w : World) (h : RTabF w p lo F every l) (hl : l.length ≤ 1000000) :
  Calls Tryz.prog 154 #[.pointer (some ⟨p, 0, none⟩), .int .i64 M] w fun r w' => r = .returned (.int .i64 (needV M l : Nat)) ∧ Fr (fun _ => False) w w' := by
 have HTb := Lib.hid h
 obtain ⟨⟨A, c, hb, ho, _⟩, hwf, _, _⟩ := h
 obtain ⟨n, hn⟩ : ∃ n, l.length = n := ⟨_, rfl⟩
 have Hn := Lib.hid hn
 rw [hn] at hb ho
 obtain ⟨hnc, hc9, hrd, _⟩ := own_any ho
 have Hb := Lib.hid hb
 have Hrd := Lib.hid hrd
 have Hwf := Lib.hid hwf
 have hln : n ≤ 1000000 := by rw [← hn]; exact hl
 have HSh : Hid (∀ W x, x.size ≤ maxLen → Calls Tryz.prog 189 #[.string x, .int .i64 M] W fun r w' => r = .returned (.int .i64 (shardV x M)) ∧ W = w') := fun W x hx => rshard_any x hx M W
 have HSL : Hid (∀ W k0, Fr (fun _ => False) w W → Calls Tryz.prog 190 #[.pointer (some ⟨p, 0, none⟩), .int .i64 k0, .int .i64 M, .bool true] W fun r w' => (∃ R cs, r = .returned (.slice R (shardL k0 M true l).length cs) ∧ w'.ownsRow W.heap.size 100 7 (.slice R (shardL k0 M true l).length cs) (shardL k0 M true l).length (rcells (shardL k0 M true l))) ∧ Fr (fun _ => False) W w') := fun W k0 f => rtshard_any p lo F every l k0 M true W (HTb.out.fr f (fun h => h) (fun _ _ h => h)) hl
 have HKv : Hid (∀ (q : Nat) (r : RecV), l[q]? = some r → ∃ j : Nat, shardV r.name M = (j : Int) ∧ (j : Int) < M) := fun q r hr => shardV_in2 r.name M hM.1
 have HP0 : Hid (seenN M l 0 = 0) := seenN_zero
 have HPN : Hid (seenN M l n = needV M l) := by show _ = _; rw [← hn]; exact seenN_all hM.1
 have HPl : Hid (∀ q, seenN M l q ≤ 8 * (l.length + 2)) := fun q => seenN_le hM.2 q
 have HPs : Hid (∀ (q : Nat) (r : RecV), l[q]? = some r → seenN M l (q + 1) = if firstB M l q q (shardV r.name M) = true then seenN M l q + ((shardL (shardV r.name M) M true l).length + 2) / 3 else seenN M l q) := fun q r hr => seenN_snoc hM.1 hr
 clear hb ho hrd hwf
 go_enter Tryz.func154, Tryz.ntmps154
 go_wp2_with fail
 go_loopw [5, 6] (fun o i wr => ∃ q : Nat, q ≤ n ∧ i = .int .i64 q ∧ o = .int .i64 (seenN M l q : Nat) ∧ Fr (fun _ => False) w wr) (fun _ i _ => n - (intOf i).toNat)
 case atStart => exact ⟨0, Nat.zero_le _, rfl, by rw [HP0.out]; rfl, Fr.refl _ _⟩
 case round =>
  obtain ⟨q, hq, rfl, rfl, hfr⟩ := hrel
  have HFr := Lib.hid hfr
  have a1 := (Hb.out.fr hfr (fun h => h)).cell 1
  simp only [List.getElem?_toArray, List.getElem?_cons_succ, List.getElem?_cons_zero] at a1
  clear hfr
  by_cases hlt : q < n
  ·obtain ⟨ra, ⟨rn, rs, ⟨r1, r2, r3, r4, r5⟩⟩, rfl, hr, d0, _⟩ := (Hrd.out.fr0 HFr.out).rec_ hlt
   simp only at d0
   have hrs := (Hwf.out _ (mem_of_get hr)).2.2
   simp only at hrs
   have HSv := Lib.hid (HSh.out wr rn hrs)
   have Hps := Lib.hid (HPs.out q _ hr)
   have hpl := HPl.out q
   have hpl2 := HPl.out (q + 1)
   have hll : l.length ≤ 1000000 := hl
   simp only at Hps
   obtain ⟨sv, hsv⟩ : ∃ v, shardV rn M = v := ⟨_, rfl⟩
   rw [hsv] at HSv Hps
   have e1 : decide ((q : Int) < (n : Int)) = true := decide_eq_true (by omega)
   have e5 : 0 ≤ (q : Int) ∧ (q : Int) < (n : Int) := by omega
   have hqw : IntKind.i64.wrap ((q : Int) + 1) = (q : Int) + 1 := by simp [IntKind.wrap, IntKind.signed, IntKind.bits]; omega
   have HSLq := Lib.hid (HSL.out wr sv HFr.out)
   obtain ⟨LS, hLS⟩ : ∃ v, shardL sv M true l = v := ⟨_, rfl⟩
   rw [hLS] at HSLq Hps
   have hLl : LS.length ≤ 1000000 := by rw [← hLS]; exact Nat.le_trans (List.length_filter_le _ _) hl
   obtain ⟨lv, hlv⟩ : ∃ v, LS.length = v := ⟨_, rfl⟩
   rw [hlv] at HSLq Hps hLl
   obtain ⟨sn, hsn⟩ : ∃ v, seenN M l q = v := ⟨_, rfl⟩
   rw [hsn] at Hps hpl ⊢
   clear hr hsv hrs hLS hlv hsn
   go_wp2_with fail
   refine HSv.out.mono ?_
   rintro r w' ⟨rfl, rfl⟩
   clear d0 a1
   go_wp2_with fail
   go_loopw [8, 9] (fun b j wx => ∃ jj : Nat, jj ≤ q ∧ j = .int .i64 jj ∧ b = .bool (firstB M l q jj sv) ∧ wr = wx) (fun _ j _ => q - (intOf j).toNat)
   case atStart => exact ⟨0, Nat.zero_le _, rfl, by rw [firstB_zero], rfl⟩
   case round =>
    obtain ⟨j, hj, rfl, rfl, rfl⟩ := hrel
    obtain ⟨fb, hfb⟩ : ∃ v, firstB M l q j sv = v := ⟨_, rfl⟩
    have Hfb := Lib.hid hfb
    rw [hfb]
    clear hfb
    have a1 := (Hb.out.fr HFr.out (fun h => h)).cell 1
    simp only [List.getElem?_toArray, List.getElem?_cons_succ, List.getElem?_cons_zero] at a1
    by_cases hjq : j < q ∧ fb = true
    ·obtain ⟨hjq, rfl⟩ := hjq
     obtain ⟨ra', ⟨sn', rs', ag'⟩, ea, hr', d0, _⟩ := (Hrd.out.fr0 HFr.out).rec_ (k := j) (by omega)
     obtain rfl := Option.some.inj ea
     simp only at d0
     have hrs := (Hwf.out _ (mem_of_get hr')).2.2
     simp only at hrs
     have HSw := Lib.hid (HSh.out wr sn' hrs)
     have Hst : Hid (firstB M l q (j + 1) sv = decide (shardV sn' M ≠ sv)) := firstB_step hr' Hfb.out
     obtain ⟨sw, hsw⟩ : ∃ v, shardV sn' M = v := ⟨_, rfl⟩
     rw [hsw] at HSw Hst
     have g1 : decide ((j : Int) < (q : Int)) = true := decide_eq_true (by omega)
     have g5 : 0 ≤ (j : Int) ∧ (j : Int) < (n : Int) := by omega
     have hjw : IntKind.i64.wrap ((j : Int) + 1) = (j : Int) + 1 := by simp [IntKind.wrap, IntKind.signed, IntKind.bits]; omega
     have Hsb : Hid ((sw != sv) = decide (sw ≠ sv)) := by show _ = _; by_cases h : sw = sv <;> simp [h]
     clear hr' hsw hrs ea
     go_wp2_with fail
     refine HSw.out.mono ?_
     rintro r w' ⟨rfl, rfl⟩
     go_wp2_with fail
     go_roundw
     case rel => exact ⟨j + 1, by omega, by go_num, by rw [Hst.out, ← Hsb.out], by trivial⟩
     case measure => simp [intOf]; omega
    ·have Hend : Hid (firstB M l q q sv = fb) := by
      show _ = _
      rw [← Hfb.out]
      exact firstB_end hj (fun h => hjq ⟨h.1, by rw [← Hfb.out]; exact h.2⟩)
     by_cases hj2 : j < q
     ·have hfb : fb = false := by cases hf : fb with | true => exact absurd ⟨hj2, hf⟩ hjq | false => rfl
      subst hfb
      have g1 : decide ((j : Int) < (q : Int)) = true := decide_eq_true (by omega)
      rw [Hend.out, if_neg (by simp)] at Hps
      have Hps2 := Lib.hid Hps.out
      clear a1 Hps
      go_wp2_with fail
      go_roundw
      case rel => exact ⟨q + 1, by omega, by go_num, by rw [Hps2.out], HFr.out⟩
      case measure => simp [intOf]; omega
     ·obtain rfl : j = q := by omega
      have g1 : decide ((j : Int) < (j : Int)) = false := decide_eq_false (by omega)
      cases fb with
      | false =>
       rw [Hend.out, if_neg (by simp)] at Hps
       have Hps2 := Lib.hid Hps.out
       clear a1 Hps
       go_wp2_with fail
       go_roundw
       case rel => exact ⟨j + 1, by omega, by go_num, by rw [Hps2.out], HFr.out⟩
       case measure => simp [intOf]; omega
      | true =>
       rw [Hend.out, if_pos rfl] at Hps
       have Hps2 := Lib.hid Hps.out
       rw [Hps2.out] at hpl2
       have w1 : IntKind.i64.wrap ((lv : Int) + 2) = (lv : Int) + 2 := wrap_id (by omega)
       have w2 : ((lv : Int) + 2).tdiv 3 = (((lv + 2) / 3 : Nat) : Int) := by
        rw [Int.tdiv_eq_ediv_of_nonneg (by omega)]; omega
       have w3 : IntKind.i64.wrap (((lv + 2) / 3 : Nat) : Int) = (((lv + 2) / 3 : Nat) : Int) := wrap_id (by omega)
       have w4 : IntKind.i64.wrap ((sn : Int) + (((lv + 2) / 3 : Nat) : Int)) = (sn : Int) + (((lv + 2) / 3 : Nat) : Int) := wrap_id (by omega)
       clear a1 Hps
       go_wp2_with fail
       refine HSLq.out.mono ?_
       rintro r w5 ⟨⟨R, cs, rfl, _⟩, f5⟩
       have F5 : Hid (Fr (fun _ => False) w w5) := HFr.out.trans f5 (fun _ h => h.elim)
       clear f5 HSLq
       go_wp2_with fail
       go_roundw
       case rel => exact ⟨j + 1, by omega, by go_num, by rw [Hps2.out]; first | (push_cast; rfl) | (congr 1; omega) | (simp only [Value.int.injEq, true_and]; push_cast; omega), F5.out⟩
       case measure => simp [intOf]; omega
  ·obtain rfl : q = n := by omega
   have e1 : decide ((q : Int) < (q : Int)) = false := decide_eq_false (by omega)
   rw [HPN.out]
   go_wp2_with fail
   go_ret
   exact ⟨rfl, HFr.out⟩
end Go.Proofs.YtbblmmneeafhgaaGreat
namespace Go.Proofs.YtbblmmneeafhgaaGreat
set_option linter.all false
open Go.RowKit

set_option maxRecDepth 100000 in
set_option maxHeartbeats 6000000 in
theorem rtsum_any (g lo : Nat) (F : Nat → Prop) (X : TiersX) (A : Option Addr) (c : Nat) (B : Option Addr) (d : Nat) (T : Option Addr) (ct : Nat) (P : List Nat) (w : World) (h : RTiersOn w g lo F X A c B d T ct P) (hn : X.tiers.length ≤ 1000) (hl : ∀ y ∈ X.tabs, y.length ≤ 1000000) (hsh : ∀ x ∈ X.tiers, 1 ≤ x.shards ∧ x.shards ≤ 8) :
  Calls Tryz.prog 78 #[.pointer (some ⟨g, 0, none⟩)] w fun r w' => r = .returned (.int .i64 (needX X : Nat)) ∧ Fr (fun _ => False) w w' := by
 obtain ⟨n, hn0⟩ : ∃ n, X.tiers.length = n := ⟨_, rfl⟩
 have Hn := Lib.hid hn0
 rw [hn0] at hn
 have HT := Lib.hid h
 have HL := Lib.hid hl
 have Hsh := Lib.hid hsh
 have Hle := Lib.hid (fun k => sum_take_le (L := needsX X) (c := 9000000) (fun x hx => by
  unfold needsX at hx
  obtain ⟨i, hi1, rfl⟩ := List.mem_iff_getElem.1 hx
  have hi2 : i < X.tiers.length ∧ i < X.tabs.length := by rw [List.length_zipWith] at hi1; omega
  rw [List.getElem_zipWith]
  have h0' := hsh _ (List.getElem_mem hi2.1)
  have h1 := needV_le (max (X.tiers[i]'hi2.1).shards 1) (by omega) (X.tabs[i]'hi2.2)
  have h2 := hl _ (List.getElem_mem hi2.2)
  omega) k)
 have Htl := Lib.hid h.tlen
 clear h hl hsh hn0
 go_enter Tryz.func78, Tryz.ntmps78
 go_wp2_with fail
 go_loopw [3, 4] (fun s i wr => ∃ k : Nat, k ≤ n ∧ i = .int .i64 k ∧ s = .int .i64 (((needsX X).take k).sum : Nat) ∧ Fr (fun _ => False) w wr) (fun _ i _ => n - (intOf i).toNat)
 case atStart => exact ⟨0, Nat.zero_le _, rfl, rfl, Fr.refl _ _⟩
 case round =>
  obtain ⟨k, hk, rfl, rfl, hf⟩ := hrel
  have Hf := Lib.hid hf
  have HTr := Lib.hid (HT.out.fr0 hf)
  have c4 := HTr.out.blk.cell 4
  simp only [List.getElem?_toArray, List.getElem?_cons_succ, List.getElem?_cons_zero] at c4
  rw [Hn.out] at c4
  clear hf
  by_cases hlt : k < n
  ·obtain ⟨p, x, l, hp, hx, hl⟩ := HTr.out.at_ (k := k) (by rw [Hn.out]; exact hlt)
   have hrow := (own_any HTr.out.row).2.2.1
   rw [Hn.out] at hrow
   obtain ⟨ad, p', rfl, hp', cp⟩ := hrow.at_map hlt
   obtain rfl : p = p' := Option.some.inj (hp.symm.trans hp')
   have hrt := HTr.out.rd.1
   rw [Hn.out] at hrt
   obtain ⟨aA, y, rfl, hy, _, _, _, e3⟩ := hrt.tier hlt
   obtain rfl : x = y := Option.some.inj (hx.symm.trans hy)
   have HC : Hid (∀ W, Fr (fun _ => False) wr W → W.cell? ⟨g, 2, none⟩ = some (.slice (some aA) n c) ∧ W.cell? ⟨g, 4, none⟩ = some (.slice (some ad) n ct) ∧ W.cell? (ad.add k) = some (.pointer (some ⟨p, 0, none⟩)) ∧ W.cell? ⟨(aA.add (k * 4)).block, (aA.add (k * 4)).off + 3, none⟩ = some (.int .i64 x.shards)) := fun W f => by
    have b := HTr.out.blk.fr f (fun h => h)
    have b2 := b.cell 2
    have b4 := b.cell 4
    simp only [List.getElem?_toArray, List.getElem?_cons_succ, List.getElem?_cons_zero] at b2 b4
    rw [Hn.out] at b2 b4
    exact ⟨b2, b4, f.cell cp (fun h => h), f.cell e3 (fun h => h)⟩
   have hxs := Hsh.out x (mem_of_get hx)
   have hll := HL.out l (mem_of_get hl)
   have HNe : Hid (∀ W, Fr (fun _ => False) wr W → Calls Tryz.prog 154 #[.pointer (some ⟨p, 0, none⟩), .int .i64 x.shards] W fun r w' => r = .returned (.int .i64 (needV (max x.shards 1) l : Nat)) ∧ Fr (fun _ => False) W w') := fun W f => by
    have := rtneed_any p lo F x.every l x.shards hxs W ((HTr.out.fr0 f).tab k p x l hp hx hl) hll
    rwa [show max x.shards 1 = x.shards by omega]
   have hs := sum_take_snoc (L := needsX X) (k := k) (x := needV (max x.shards 1) l) (by unfold needsX; rw [List.getElem?_zipWith, hx, hl])
   have hs2 := Hle.out (k + 1)
   rw [hs] at hs2
   obtain ⟨sv, hsv⟩ : ∃ sv, ((needsX X).take k).sum = sv := ⟨_, rfl⟩
   obtain ⟨nv, hnv⟩ : ∃ nv, needV (max x.shards 1) l = nv := ⟨_, rfl⟩
   rw [hsv, hnv] at hs hs2
   rw [hnv] at HNe
   rw [hsv]
   have Hs := Lib.hid hs
   have hw := wrap_id (x := (sv : Int) + (nv : Int)) (by omega)
   have g0 : decide ((k : Int) < (n : Int)) = true := decide_eq_true (by omega)
   have kn : 0 ≤ (k : Int) ∧ (k : Int) < (n : Int) := by omega
   have hkw : IntKind.i64.wrap ((k : Int) + 1) = (k : Int) + 1 := by simp [IntKind.wrap, IntKind.signed, IntKind.bits]; omega
   clear hs hsv hnv hp hx hl hrow hp' hrt hy cp e3 hxs hll
   go_wp2_with fail
   refine wp_region_held_drew (S := fun W => Fr (fun _ => False) wr W) (by kernel_rfl) ((Fr.refl _ wr).drew) (fun hHeld => ?_)
   refine tl 0 ?v1 rfl ?q1 ?r1
   case q1 => intro W hSw; go_simp; try rfl
   refine tl 1 ?v2 rfl ?q2 ?r2
   case q2 => intro W hSw; go_simp; try rfl
   refine tl 2 ?v3 rfl ?q3 ?r3
   case q3 => intro W hSw; go_simp; try rfl
   refine tl 3 ?v4 rfl ?q4 ?r4
   case q4 => intro W hSw; go_simp; try rfl
   refine tl 4 ?v5 rfl ?q5 ?r5
   case q5 => intro W hSw; (try obtain ⟨q0, q1, q2, q3⟩ := HC.out W hSw); go_simp; try rfl
   refine tl 5 ?v6 rfl ?q6 ?r6
   case q6 => intro W hSw; go_simp; try rfl
   refine tl 6 ?v7 rfl ?q7 ?r7
   case q7 => intro W hSw; (try obtain ⟨q0, q1, q2, q3⟩ := HC.out W hSw); go_simp; try rfl
   refine tl 7 ?v8 rfl ?q8 ?r8
   case q8 => intro W hSw; (try obtain ⟨q0, q1, q2, q3⟩ := HC.out W hSw); go_simp; try rfl
   refine tl 8 ?v9 rfl ?q9 ?r9
   case q9 => intro W hSw; go_simp; try rfl
   refine tl 9 ?v10 rfl ?q10 ?r10
   case q10 => intro W hSw; go_simp; try rfl
   refine tl 10 ?v11 rfl ?q11 ?r11
   case q11 => intro W hSw; go_simp; try rfl
   refine tl 11 ?v12 rfl ?q12 ?r12
   case q12 => intro W hSw; go_simp; try rfl
   refine tl 12 ?v13 rfl ?q13 ?r13
   case q13 => intro W hSw; go_simp; try rfl
   refine tl 13 ?v14 rfl ?q14 ?r14
   case q14 => intro W hSw; (try obtain ⟨q0, q1, q2, q3⟩ := HC.out W hSw); go_simp; try rfl
   refine tl 14 ?v15 rfl ?q15 ?r15
   case q15 => intro W hSw; go_simp; try rfl
   refine tl 15 ?v16 rfl ?q16 ?r16
   case q16 => intro W hSw; (try obtain ⟨q0, q1, q2, q3⟩ := HC.out W hSw); go_simp; try rfl
   refine tl 16 ?v17 rfl ?q17 ?r17
   case q17 => intro W hSw; go_simp; try rfl
   refine tl 17 ?v18 rfl ?q18 ?r18
   case q18 => intro W hSw; (try obtain ⟨q0, q1, q2, q3⟩ := HC.out W hSw); go_simp; try rfl
   try simp only [Act.put, sA, sB, sC]
   refine rl 18 rfl (fun K hK => ?_)
   go_simp
   go_wp2_with (first | (go_at_call 154; refine (HNe.out _ hHeld).mono ?_; rintro r wa ⟨rfl, fa⟩))
   refine hK.out _ _ (hHeld.trans fa (fun _ h => h.elim)) (fun hHeld => ?_)
   clear hK K
   refine tl 19 ?v19 rfl ?q19 ?r19
   case q19 => intro W hSw; (try obtain ⟨q0, q1, q2, q3⟩ := HC.out W hSw); go_simp; try rfl
   refine tl 20 ?v20 rfl ?q20 ?r20
   case q20 => intro W hSw; (try obtain ⟨q0, q1, q2, q3⟩ := HC.out W hSw); go_simp; try rfl
   try simp only [Act.put, sA, sB, sC]
   refine wpAnyH_done (by kernel_rfl) ?_ _
   have F5 := Lib.hid (Hf.out.trans hHeld (fun _ h => h.elim))
   clear hHeld fa c4
   go_wp2_with fail
   go_roundw
   case rel => exact ⟨k + 1, by omega, by go_num, by rw [Hs.out]; push_cast; rfl, F5.out⟩
   case measure => simp [intOf]; omega
  ·obtain rfl : k = n := by omega
   have g0 : decide ((k : Int) < (k : Int)) = false := decide_eq_false (by omega)
   have hfin : ((needsX X).take k).sum = needX X := by
    unfold needX
    rw [List.take_of_length_le (by unfold needsX; rw [List.length_zipWith]; have := Hn.out; omega)]
   rw [hfin]
   clear hfin
   go_wp2_with fail
   go_ret
   exact ⟨rfl, Hf.out⟩
end Go.Proofs.YtbblmmneeafhgaaGreat
