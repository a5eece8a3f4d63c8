/- Walk of tiers: Put. -/
import Derived.Test.YtbblmmneeafhgaaGreatTiersCopy
import Derived.Test.YtbblmmneeafhgaaGreatTk
namespace Go.Proofs.YtbblmmneeafhgaaGreat
set_option linter.all false
open Go.RowKit

def firstE (X : TiersX) (l : List SampV) : Int :=
 match l.find? fun s => decide (takesV X.now X.tiers X.floors s ≠ 0) with
 | some s => takesV X.now X.tiers X.floors s
 | none => 0
def putE (X : TiersX) (l : List SampV) : Int := if l.length = 0 then 1 else if 8 < l.length then 2 else firstE X l
def stepL (X : TiersX) (s : SampV) (k : Nat) (l : List RecV) : List RecV :=
 match X.tiers[k]? with
 | some x => if (startV X.now X.tiers X.floors k s.time).2 then addV x.every l ⟨s.name, (startV X.now X.tiers X.floors k s.time).1, aggOne s.value⟩ else l
 | none => l
def addT (X : TiersX) (tabs : List (List RecV)) (s : SampV) : List (List RecV) := (List.range X.tiers.length).map fun k => stepL X s k (tabs.getD k [])
def putsT (X : TiersX) (tabs : List (List RecV)) (l : List SampV) : List (List RecV) := l.foldl (addT X) tabs
def putX (X : TiersX) (l : List SampV) : TiersX := if putE X l = 0 then { X with tabs := putsT X X.tabs l } else X
theorem putsT_snoc (X : TiersX) (tabs : List (List RecV)) (l : List SampV) (s : SampV) : putsT X tabs (l ++ [s]) = addT X (putsT X tabs l) s := by unfold putsT; rw [List.foldl_append]; rfl
theorem insR_len_le (mg : Option AggV → AggV → AggV) (l : List RecV) (r : RecV) : (insR mg l r).length ≤ l.length + 1 := by
 induction l with
 | nil => simp [insR]
 | cons x l ih =>
  unfold insR
  split
  ·simp; exact ih
  ·split <;> simp
theorem addV_len_le (every : Int) (l : List RecV) (r : RecV) : (addV every l r).length ≤ l.length + 1 := by
 unfold addV
 split
 ·exact insR_len_le _ _ _
 ·omega
theorem stepL_len (X : TiersX) (s : SampV) (k : Nat) (l : List RecV) : (stepL X s k l).length ≤ l.length + 1 := by
 unfold stepL
 split
 ·split
  ·exact addV_len_le _ _ _
  ·omega
 ·omega
theorem getD_len {L : List (List RecV)} {c : Nat} (h : ∀ m ∈ L, m.length ≤ c) (k : Nat) : (L.getD k []).length ≤ c := by
 rw [List.getD_eq_getElem?_getD]
 cases hk : L[k]? with
 | none => simp
 | some m => exact h m (List.mem_of_getElem? hk)
theorem addT_len {X : TiersX} {tabs : List (List RecV)} {c : Nat} (s : SampV) (h : ∀ m ∈ tabs, m.length ≤ c) : ∀ m ∈ addT X tabs s, m.length ≤ c + 1 := by
 intro m hm
 unfold addT at hm
 obtain ⟨k, _, rfl⟩ := List.mem_map.1 hm
 have h1 := stepL_len X s k (tabs.getD k [])
 have h2 := getD_len h k
 omega
theorem putsT_len {X : TiersX} : ∀ (l : List SampV) {tabs : List (List RecV)} {c : Nat}, (∀ m ∈ tabs, m.length ≤ c) → ∀ m ∈ putsT X tabs l, m.length ≤ c + l.length
 | [], _, _, h => by simpa [putsT] using h
 | s :: l, tabs, c, h => fun m hm => by
  have := putsT_len (X := X) l (addT_len (X := X) s h) m hm
  rw [List.length_cons]; omega
theorem set_same {α : Type} {L : List α} {k : Nat} {y : α} (h : L[k]? = some y) : L.set k y = L := by
 apply List.ext_getElem?
 intro i
 by_cases e : k = i
 ·subst e
  rw [h, List.getElem?_set_self (List.getElem?_eq_some_iff.1 h).1]
 ·rw [List.getElem?_set_ne e]
theorem firstE_zero {X : TiersX} {l : List SampV} (h : ∀ s ∈ l, takesV X.now X.tiers X.floors s = 0) : firstE X l = 0 := by
 unfold firstE
 rw [List.find?_eq_none.2 (fun s hs => by simp [h s hs])]
theorem firstE_at {X : TiersX} {l : List SampV} {k : Nat} {s : SampV} (hk : l[k]? = some s) (hz : takesV X.now X.tiers X.floors s ≠ 0) (hb : ∀ j, j < k → ∀ y, l[j]? = some y → takesV X.now X.tiers X.floors y = 0) : firstE X l = takesV X.now X.tiers X.floors s := by
 have : l.find? (fun s => decide (takesV X.now X.tiers X.floors s ≠ 0)) = some s := by
  have hkl := (List.getElem?_eq_some_iff.1 hk)
  rw [List.find?_eq_some_iff_getElem]
  refine ⟨by simpa using hz, k, hkl.1, hkl.2, fun j hj => ?_⟩
  have := hb j hj _ (List.getElem?_eq_getElem (Nat.lt_trans hj hkl.1))
  simp [this]
 unfold firstE
 rw [this]
theorem aggOne_wf {v : Int} (hv : in64 v) : (aggOne v).wf := by
 unfold in64 at hv
 unfold aggOne AggV.wf in64
 refine ⟨by simp, ?_, ?_, hv, hv⟩
 ·simp only; omega
 ·simp only; omega

set_option maxRecDepth 100000 in
set_option maxHeartbeats 8000000 in
theorem tput_any (t base : Nat) (X : TiersX) (F : Nat → Prop) (l : List SampV) (A1 : Option Addr) (n1 c1 : Nat) (w : World) (h : TiersOn w t base X F) (h0 : 0 < X.tiers.length) (hn : X.tiers.length ≤ 1000) (hl : ∀ m ∈ X.tabs, m.length ≤ 1000000) (hnow : 0 ≤ X.now ∧ X.now ≤ 1099511627776) (hwf : ∀ x ∈ X.tiers, x.wf) (hr : Rd w 3 A1 n1 (scells l)) (hsw : ∀ s ∈ l, s.wf) :
  Calls Tryz.prog 16 #[.pointer (some ⟨t, 0, none⟩), .slice A1 n1 c1] w fun r w' => r = .returned (.int .i64 (putE X l)) ∧ TiersOn w' t base (putX X l) F ∧ Fr (fun j => F j ∧ ∃ es ck, w.heap[j]? = some (.map es ck)) w w' := by
 have HN := Lib.hid (tnone_any t base X w h.at_ h0)
 have HT := Lib.hid h
 obtain ⟨A, c, B, d, T, ct, tb, hi, rfl⟩ := h
 have c4 := hi.blk.cell 4
 simp only [List.getElem?_toArray, List.getElem?_cons_succ, List.getElem?_cons_zero] at c4
 have Hi := Lib.hid hi
 have Hr := Lib.hid hr
 have Hln := Lib.hid hr.samps_len
 have Hsw := Lib.hid hsw
 have Hwf := Lib.hid hwf
 have Hl := Lib.hid hl
 have HM : Hid (∀ j, tM tb j → ∃ es ck, w.heap[j]? = some (.map es ck)) := fun j hj => (hi.map_ hj).2.2
 have hn64 : i64 X.now := by unfold i64; omega
 have hRV : reachV X.now X.name A X.tiers.length c B X.floors.length d = .agg #[.int .i64 X.now, .string X.name, .slice A X.tiers.length c, .slice B X.floors.length d] := rfl
 have HTk0 : Hid (∀ (s : SampV), s ∈ l → ∀ W, Fr (fun _ => False) w W → Calls Tryz.prog 56 #[.agg #[.int .i64 X.now, .string X.name, .slice A X.tiers.length c, .slice B X.floors.length d], .agg #[.string s.name, .int .i64 s.time, .int .i64 s.value]] W fun r w' => r = .returned (.int .i64 (takesV X.now X.tiers X.floors s)) ∧ Below W.heap.size W w') := fun s hs W hf => by
  have hi' := Hi.out.fr0 hf
  exact takes_any X.now hn64 X.name X.tiers A X.tiers.length c X.floors B X.floors.length d s (Hsw.out s hs).2.2 W (own_any hi'.tiers).2.2.1 (own_any hi'.floors).2.2.1 Hwf.out (by omega)
 have HSt0 : Hid (∀ (s : SampV), s ∈ l → ∀ (k : Nat) (W : World) (tabs : List (List RecV)), TiersIn W t base { X with tabs := tabs } A c B d T ct tb → Calls Tryz.prog 57 #[.agg #[.int .i64 X.now, .string X.name, .slice A X.tiers.length c, .slice B X.floors.length d], .int .i64 k, .int .i64 s.time] W fun r w' => r = .returned (.tuple #[.int .i64 (startV X.now X.tiers X.floors k s.time).1, .bool (startV X.now X.tiers X.floors k s.time).2]) ∧ Below W.heap.size W w') := fun s hs k W tabs hi' => by
  exact start_any X.now hn64 X.name X.tiers A X.tiers.length c X.floors B X.floors.length d k s.time (Hsw.out s hs).1 W (own_any hi'.tiers).2.2.1 (own_any hi'.floors).2.2.1 Hwf.out (by omega)
 clear hi hr hsw hwf hl hRV
 obtain ⟨E, hE⟩ : ∃ E, putE X l = E := ⟨_, rfl⟩
 obtain ⟨Z, hZ⟩ : ∃ Z, putX X l = Z := ⟨_, rfl⟩
 have HE := Lib.hid hE
 have HZ : Hid (Z = if E = 0 then { X with tabs := putsT X X.tabs l } else X) := by show _ = _; rw [← hZ, ← hE]; rfl
 rw [hE, hZ]
 clear hE hZ
 by_cases hz0 : n1 = 0
 ·subst hz0
  have hE1 : E = 1 := by rw [← HE.out]; unfold putE; rw [Hln.out, if_pos rfl]
  subst hE1
  have HZ2 : Hid (Z = X) := HZ.out
  go_enter Tryz.func16, Tryz.ntmps16
  go_wp2_with fail
  refine HN.out.mono ?_
  rintro r w' ⟨rfl, rfl⟩
  go_wp2_with fail
  go_ret
  exact ⟨rfl, by rw [HZ2.out]; exact HT.out, Fr.refl _ _⟩
 have hz1 : ((n1 : Int) == 0) = false := by simp; omega
 have hz2 : (n1 == 0) = false := by simp; omega
 by_cases hb8 : 8 < n1
 ·have hd1 : decide ((8 : Int) < (n1 : Int)) = true := decide_eq_true (by omega)
  have hd2 : decide (8 < n1) = true := decide_eq_true hb8
  have hE1 : E = 2 := by rw [← HE.out]; unfold putE; rw [Hln.out, if_neg hz0, if_pos hb8]
  subst hE1
  have HZ2 : Hid (Z = X) := HZ.out
  go_enter Tryz.func16, Tryz.ntmps16
  go_wp2_with fail
  refine HN.out.mono ?_
  rintro r w' ⟨rfl, rfl⟩
  go_wp2_with fail
  go_ret
  exact ⟨rfl, by rw [HZ2.out]; exact HT.out, Fr.refl _ _⟩
 have hd1 : decide ((8 : Int) < (n1 : Int)) = false := decide_eq_false (by omega)
 have hd2 : decide (8 < n1) = false := decide_eq_false hb8
 have HE2 : Hid (firstE X l = E) := by show _ = _; rw [← HE.out]; unfold putE; rw [Hln.out, if_neg hz0, if_neg hb8]
 go_enter Tryz.func16, Tryz.ntmps16
 go_wp2_with fail
 refine HN.out.mono ?_
 rintro r w' ⟨rfl, rfl⟩
 go_wp2_with fail
 clear c4
 go_loopw [28] (fun i wr => ∃ k : Nat, k ≤ n1 ∧ i = .int .i64 k ∧ Fr (fun _ => False) w wr ∧ ∀ j, j < k → ∀ y, l[j]? = some y → takesV X.now X.tiers X.floors y = 0) (fun i _ => n1 - (intOf i).toNat)
 case atStart => exact ⟨0, Nat.zero_le _, rfl, Fr.refl _ _, fun j hj => absurd hj (by omega)⟩
 case round =>
  obtain ⟨k, hk, rfl, hf, hall⟩ := hrel
  have Hf := Lib.hid hf
  have Hall := Lib.hid hall
  clear hf hall
  by_cases hlt : k < n1
  ·obtain ⟨ad, s, rfl, hs, d0, d1, d2⟩ := (Hr.out.fr0 Hf.out).samp_ hlt
   have Hs := Lib.hid hs
   have kn : 0 ≤ (k : Int) ∧ (k : Int) < (n1 : Int) := by omega
   clear hs
   go_wp2_with fail
   obtain ⟨W1, hW1⟩ : ∃ W1, W1 = wr.alloc (.cells #[.string s.name, .int .i64 s.time, .int .i64 s.value] 95) := ⟨_, rfl⟩
   rw [← hW1]
   have hbx : Blk W1 wr.heap.size 95 #[.string s.name, .int .i64 s.time, .int .i64 s.value] := hW1 ▸ Blk.new _ _ _
   have F1 : Hid (Fr (fun _ => False) w W1) := by show Fr _ _ _; rw [hW1]; exact Hf.out.trans (Fr.none_alloc _ _) (fun _ h => h.elim)
   have hbt := (Hi.out.fr0 F1.out).blk
   have HC : Hid (∀ W, Fr (fun _ => False) W1 W → W.cell? ⟨t, 0, none⟩ = some (.int .i64 X.now) ∧ W.cell? ⟨t, 1, none⟩ = some (.string X.name) ∧ W.cell? ⟨t, 2, none⟩ = some (.slice A X.tiers.length c) ∧ W.cell? ⟨t, 3, none⟩ = some (.slice B X.floors.length d) ∧ W.cell? ⟨wr.heap.size, 0, none⟩ = some (.string s.name) ∧ W.cell? ⟨wr.heap.size, 1, none⟩ = some (.int .i64 s.time) ∧ W.cell? ⟨wr.heap.size, 2, none⟩ = some (.int .i64 s.value)) := fun W f => ⟨(hbt.fr f (fun h => h)).cell 0, (hbt.fr f (fun h => h)).cell 1, (hbt.fr f (fun h => h)).cell 2, (hbt.fr f (fun h => h)).cell 3, (hbx.fr f (fun h => h)).cell 0, (hbx.fr f (fun h => h)).cell 1, (hbx.fr f (fun h => h)).cell 2⟩
   have HTk : Hid (∀ W, Fr (fun _ => False) W1 W → Calls Tryz.prog 56 #[.agg #[.int .i64 X.now, .string X.name, .slice A X.tiers.length c, .slice B X.floors.length d], .agg #[.string s.name, .int .i64 s.time, .int .i64 s.value]] W fun r w' => r = .returned (.int .i64 (takesV X.now X.tiers X.floors s)) ∧ Below W.heap.size W w') := fun W f => HTk0.out s (mem_of_get Hs.out) W (F1.out.trans f (fun _ h => h.elim))
   obtain ⟨tv, htv⟩ : ∃ tv, takesV X.now X.tiers X.floors s = tv := ⟨_, rfl⟩
   have Htv := Lib.hid htv
   rw [htv] at HTk
   clear hbx hbt hW1 htv d0 d1 d2
   refine wp_region_held_drew (S := fun W => Fr (fun _ => False) W1 W) (by kernel_rfl) ((Fr.refl _ W1).drew) (fun hHeld => ?_)
   refine tl 0 ?v1 rfl ?q1 ?r1
   case q1 => intro W hSw; go_simp; try rfl
   refine tl 1 ?v2 rfl ?q2 ?r2
   case q2 => intro W hSw; go_simp; try rfl
   refine tl 2 ?v3 rfl ?q3 ?r3
   case q3 => intro W hSw; go_simp; try rfl
   refine tl 3 ?v4 rfl ?q4 ?r4
   case q4 => intro W hSw; (try obtain ⟨a0, a1, a2, a3, s0, s1, s2⟩ := HC.out W hSw); go_simp; try rfl
   refine tl 4 ?v5 rfl ?q5 ?r5
   case q5 => intro W hSw; (try obtain ⟨a0, a1, a2, a3, s0, s1, s2⟩ := HC.out W hSw); go_simp; try rfl
   try simp only [Act.put, sA, sB, sC]
   refine rl 5 rfl (fun K hK => ?_)
   go_simp
   go_wp2_with (first | (go_at_call 56; refine (HTk.out _ hHeld).mono ?_; rintro r w5 ⟨rfl, b5⟩))
   refine hK.out _ _ (hHeld.trans (Fr.b0 b5) (fun _ h => h.elim)) (fun hHeld => ?_)
   clear hK K
   refine tl 6 ?v6 rfl ?q6 ?r6
   case q6 => intro W hSw; (try obtain ⟨a0, a1, a2, a3, s0, s1, s2⟩ := HC.out W hSw); go_simp; try rfl
   try simp only [Act.put, sA, sB, sC]
   refine wpAnyH_done (by kernel_rfl) ?_ _
   have F5 := Lib.hid (F1.out.trans hHeld (fun _ h => h.elim))
   clear hHeld b5
   by_cases hz : tv = 0
   ·subst hz
    go_wp2_with fail
    go_roundw
    case rel =>
     refine ⟨k + 1, by omega, by go_num, F5.out, fun j hj y hy => ?_⟩
     by_cases e : j = k
     ·subst e
      rw [Hs.out] at hy
      cases hy
      exact Htv.out
     ·exact Hall.out j (by omega) y hy
    case measure => simp [intOf]; omega
   ·have hzb : (tv == 0) = false := by simp [hz]
    have HEt : Hid (E = tv) := by show _ = _; rw [← HE2.out, ← Htv.out]; exact firstE_at Hs.out (by rw [Htv.out]; exact hz) Hall.out
    have HZ2 : Hid (Z = X) := by show _ = _; rw [HZ.out, if_neg (by rw [HEt.out]; exact hz)]
    go_wp2_with fail
    go_ret
    exact ⟨by rw [HEt.out]; rfl, by rw [HZ2.out]; exact HT.out.fr0 F5.out, F5.out.mono (fun _ h => h.elim)⟩
  ·have hE0 : E = 0 := by
    rw [← HE2.out]
    refine firstE_zero (fun s hs => ?_)
    obtain ⟨j, hj⟩ := List.getElem?_of_mem hs
    exact Hall.out j (by have := (List.getElem?_eq_some_iff.1 hj).1; rw [Hln.out] at this; omega) s hj
   have HE0 := Lib.hid hE0
   have HZ2 : Hid (Z = { X with tabs := putsT X X.tabs l }) := by show _ = _; rw [HZ.out, if_pos HE0.out]
   have Hi1 := Lib.hid (Hi.out.fr0 Hf.out)
   have Hf1 : Hid (Fr (tM tb) w wr) := Hf.out.mono (fun _ h => h.elim)
   clear hE0 HTk0 Hall
   go_wp2_with fail
   go_loopw [44] (fun i wr => ∃ k : Nat, k ≤ n1 ∧ i = .int .i64 k ∧ TiersIn wr t base { X with tabs := putsT X X.tabs (l.take k) } A c B d T ct tb ∧ Fr (tM tb) w wr) (fun i _ => n1 - (intOf i).toNat)
   case atStart => exact ⟨0, Nat.zero_le _, rfl, Hi1.out, Hf1.out⟩
   case round =>
    clear Hi1 Hf1 Hf
    obtain ⟨q, hq, rfl, hiq, hfq⟩ := hrel
    have Hiq := Lib.hid hiq
    have Hfq := Lib.hid hfq
    clear hiq hfq
    by_cases hlq : q < n1
    ·obtain ⟨ad, s, rfl, hs, d0, d1, d2⟩ := (Hr.out.fr Hfq.out (fun j hj hm => by obtain ⟨es, ck, hb⟩ := HM.out j hm; exact rd_ne_map Hr.out (by decide) hb hj rfl)).samp_ hlq
     have Hs := Lib.hid hs
     have kn : 0 ≤ (q : Int) ∧ (q : Int) < (n1 : Int) := by omega
     have HL : Hid (∀ m ∈ putsT X X.tabs (l.take q), m.length ≤ 1000008) := fun m hm => by
      have := putsT_len (X := X) (l.take q) Hl.out m hm
      rw [List.length_take] at this
      omega
     obtain ⟨tabs, htabs⟩ : ∃ tabs, putsT X X.tabs (l.take q) = tabs := ⟨_, rfl⟩
     have HN1 : Hid (putsT X X.tabs (l.take (q + 1)) = addT X tabs s) := by show _ = _; rw [take_snoc Hs.out, putsT_snoc, htabs]
     rw [htabs] at HL Hiq
     have Hlt := Lib.hid Hiq.out.tlen
     obtain ⟨DL, hDL⟩ : ∃ DL, addT X tabs s = DL := ⟨_, rfl⟩
     have HDg : Hid (∀ j, j < X.tiers.length → DL[j]? = some (stepL X s j (tabs.getD j []))) := fun j hj => by
      rw [← hDL]; unfold addT
      rw [List.getElem?_map, List.getElem?_range hj]; rfl
     have HDl : Hid (DL.length = X.tiers.length) := by show _ = _; rw [← hDL]; unfold addT; simp
     rw [hDL] at HN1
     have hsw := Hsw.out s (mem_of_get Hs.out)
     have HSt1 := Lib.hid (HSt0.out s (mem_of_get Hs.out))
     have c4 := (Hiq.out.blk.alloc (.cells #[.string s.name, .int .i64 s.time, .int .i64 s.value] 95)).cell 4
     simp only [List.getElem?_toArray, List.getElem?_cons_succ, List.getElem?_cons_zero] at c4
     obtain ⟨sb, hsb⟩ : ∃ sb, wr.heap.size = sb := ⟨_, rfl⟩
     clear hs htabs hDL
     go_wp2_with fail
     obtain ⟨W1, hW1⟩ : ∃ W1, W1 = wr.alloc (.cells #[.string s.name, .int .i64 s.time, .int .i64 s.value] 95) := ⟨_, rfl⟩
     rw [← hW1]
     try rw [hsb]
     have hbx : Hid (Blk W1 sb 95 #[.string s.name, .int .i64 s.time, .int .i64 s.value]) := by show Blk _ _ _ _; rw [hW1]; exact Blk.new' hsb.symm _ _
     have F1 : Hid (Fr (tM tb) w W1) := by show Fr _ _ _; rw [hW1]; exact Hfq.out.trans (Fr.none_alloc _ _) (fun _ h => h.elim)
     have Hi1 : Hid (TiersIn W1 t base { X with tabs := DL.take 0 ++ tabs.drop 0 } A c B d T ct tb) := by
      show TiersIn _ _ _ _ _ _ _ _ _ _ _
      rw [hW1]
      exact Hiq.out.fr0 (Fr.none_alloc _ _)
     have hsbM : Hid (∀ j, tM tb j → sb ≠ j) := fun j hj e => by
      obtain ⟨_, _, es, ck, hb⟩ := Hi1.out.map_ hj
      have hb0 : W1.heap[sb]? = some (Obj.cells _ _ (0, 0)) := hbx.out
      rw [e, hb] at hb0
      cases hb0
     clear hW1 d0 d1 d2 c4 Hiq Hfq
     go_loopw [53] (fun i wr => ∃ j : Nat, j ≤ X.tiers.length ∧ i = .int .i64 j ∧ TiersIn wr t base { X with tabs := DL.take j ++ tabs.drop j } A c B d T ct tb ∧ Fr (tM tb) W1 wr) (fun i _ => X.tiers.length - (intOf i).toNat)
     case atStart => exact ⟨0, Nat.zero_le _, rfl, Hi1.out, Fr.refl _ _⟩
     case round =>
      obtain ⟨j, hj, rfl, hij, hfj⟩ := hrel
      have Hij := Lib.hid hij
      have Hfj := Lib.hid hfj
      have Hbx := Lib.hid (hbx.out.fr hfj (fun hm => hsbM.out sb hm rfl))
      clear hij hfj
      by_cases hlj : j < X.tiers.length
      ·obtain ⟨g, b, x, m, h1, h2, h3, hTb⟩ := Hij.out.tabAt (k := j) hlj
       obtain ⟨ad, e, hc⟩ := (own_any Hij.out.row).2.2.1.2 (show 0 < X.tiers.length by omega)
       subst e
       have p0 := hc j _ (ptrs_get h1)
       have kj : 0 ≤ (j : Int) ∧ (j : Int) < (X.tiers.length : Int) := by omega
       have h2' : X.tiers[j]? = some x := h2
       have h3' : tabs[j]? = some m := by
        have h3'' : (DL.take j ++ tabs.drop j)[j]? = some m := h3
        rw [List.getElem?_append_right (by rw [List.length_take]; omega), List.length_take, Nat.min_eq_left (by rw [HDl.out]; omega), Nat.sub_self, List.getElem?_drop] at h3''
        simpa using h3''
       have hml := HL.out m (mem_of_get h3')
       have hget := HDg.out j hlj
       rw [show tabs.getD j [] = m by rw [List.getD_eq_getElem?_getD, h3']; rfl] at hget
       have hbt := Hij.out.blk
       have HC : Hid (∀ W, Fr (fun _ => False) wr W → W.cell? ⟨t, 0, none⟩ = some (.int .i64 X.now) ∧ W.cell? ⟨t, 1, none⟩ = some (.string X.name) ∧ W.cell? ⟨t, 2, none⟩ = some (.slice A X.tiers.length c) ∧ W.cell? ⟨t, 3, none⟩ = some (.slice B X.floors.length d) ∧ W.cell? ⟨sb, 0, none⟩ = some (.string s.name) ∧ W.cell? ⟨sb, 1, none⟩ = some (.int .i64 s.time) ∧ W.cell? ⟨sb, 2, none⟩ = some (.int .i64 s.value)) := fun W f => ⟨(hbt.fr f (fun h => h)).cell 0, (hbt.fr f (fun h => h)).cell 1, (hbt.fr f (fun h => h)).cell 2, (hbt.fr f (fun h => h)).cell 3, (Hbx.out.fr f (fun h => h)).cell 0, (Hbx.out.fr f (fun h => h)).cell 1, (Hbx.out.fr f (fun h => h)).cell 2⟩
       have HSt : Hid (∀ W, Fr (fun _ => False) wr W → Calls Tryz.prog 57 #[.agg #[.int .i64 X.now, .string X.name, .slice A X.tiers.length c, .slice B X.floors.length d], .int .i64 j, .int .i64 s.time] W fun r w' => r = .returned (.tuple #[.int .i64 (startV X.now X.tiers X.floors j s.time).1, .bool (startV X.now X.tiers X.floors j s.time).2]) ∧ Below W.heap.size W w') := fun W f => HSt1.out j W _ (Hij.out.fr0 f)
       have hsti : in64 (startV X.now X.tiers X.floors j s.time).1 := by
        unfold startV
        split
        ·split
         ·exact floor_in hsw.1.1 hsw.1.2
         ·simp [in64]
        ·simp [in64]
       have hgs : stepL X s j m = if (startV X.now X.tiers X.floors j s.time).2 then addV x.every m ⟨s.name, (startV X.now X.tiers X.floors j s.time).1, aggOne s.value⟩ else m := by unfold stepL; rw [h2']
       rw [hgs] at hget
       obtain ⟨sv, hsv⟩ : ∃ sv, (startV X.now X.tiers X.floors j s.time).1 = sv := ⟨_, rfl⟩
       obtain ⟨bv, hbv⟩ : ∃ bv, (startV X.now X.tiers X.floors j s.time).2 = bv := ⟨_, rfl⟩
       rw [hsv, hbv] at HSt hget
       rw [hsv] at hsti
       have Hget := Lib.hid hget
       have H1 := Lib.hid h1
       have H2 := Lib.hid h2'
       have H3 := Lib.hid h3
       have HT1 := Lib.hid hTb
       clear hc h1 h2 h3 h2' h3' hTb hbt hget hgs hsv hbv
       go_wp2_with fail
       refine wp_region_held_drew (S := fun W => Fr (fun _ => False) wr W) (by kernel_rfl) ((Fr.refl _ wr).drew) (fun hHeld => ?_)
       refine tl 0 ?v7 rfl ?q7 ?r7
       case q7 => intro W hSw; go_simp; try rfl
       refine tl 1 ?v8 rfl ?q8 ?r8
       case q8 => intro W hSw; go_simp; try rfl
       refine tl 2 ?v9 rfl ?q9 ?r9
       case q9 => intro W hSw; go_simp; try rfl
       refine tl 3 ?v10 rfl ?q10 ?r10
       case q10 => intro W hSw; (try obtain ⟨a0, a1, a2, a3, s0, s1, s2⟩ := HC.out W hSw); go_simp; try rfl
       refine tl 4 ?v11 rfl ?q11 ?r11
       case q11 => intro W hSw; go_simp; try rfl
       refine tl 5 ?v12 rfl ?q12 ?r12
       case q12 => intro W hSw; go_simp; try rfl
       refine tl 6 ?v13 rfl ?q13 ?r13
       case q13 => intro W hSw; (try obtain ⟨a0, a1, a2, a3, s0, s1, s2⟩ := HC.out W hSw); go_simp; try rfl
       try simp only [Act.put, sA, sB, sC]
       refine rl 7 rfl (fun K hK => ?_)
       go_simp
       go_wp2_with (first | (go_at_call 57; refine (HSt.out _ hHeld).mono ?_; rintro r w5 ⟨rfl, b5⟩))
       refine hK.out _ _ (hHeld.trans (Fr.b0 b5) (fun _ h => h.elim)) (fun hHeld => ?_)
       clear hK K
       refine tl 8 ?v14 rfl ?q14 ?r14
       case q14 => intro W hSw; go_simp; try rfl
       refine tl 9 ?v15 rfl ?q15 ?r15
       case q15 => intro W hSw; (try obtain ⟨a0, a1, a2, a3, s0, s1, s2⟩ := HC.out W hSw); go_simp; try rfl
       refine tl 10 ?v16 rfl ?q16 ?r16
       case q16 => intro W hSw; (try obtain ⟨a0, a1, a2, a3, s0, s1, s2⟩ := HC.out W hSw); go_simp; try rfl
       refine tl 11 ?v17 rfl ?q17 ?r17
       case q17 => intro W hSw; (try obtain ⟨a0, a1, a2, a3, s0, s1, s2⟩ := HC.out W hSw); go_simp; try rfl
       refine tl 12 ?v18 rfl ?q18 ?r18
       case q18 => intro W hSw; (try obtain ⟨a0, a1, a2, a3, s0, s1, s2⟩ := HC.out W hSw); go_simp; try rfl
       try simp only [Act.put, sA, sB, sC]
       refine wpAnyH_done (by kernel_rfl) ?_ _
       have F5 := Lib.hid hHeld
       clear hHeld b5 p0
       cases hbv : bv
       ·rw [hbv] at Hget
        go_wp2_with fail
        go_roundw
        case rel =>
         refine ⟨j + 1, by omega, by go_num, ?_, Hfj.out.trans F5.out (fun _ h => h.elim)⟩
         have e := mix_step (D := DL) (L := tabs) (k := j) (by rw [Hlt.out]; exact hlj) Hget.out (by rw [HDl.out]; omega)
         rw [if_neg (by simp), set_same H3.out] at e
         rw [← e]
         exact Hij.out.fr0 F5.out
        case measure => simp [intOf]; omega
       ·rw [hbv, if_pos rfl] at Hget
        have HTb := Lib.hid (HT1.out.fr0 F5.out)
        have Hbx5 := Lib.hid (Hbx.out.fr F5.out (fun h => h))
        have hsb5 := hsbM.out b ⟨_, List.mem_of_getElem? H1.out, rfl⟩
        have HC5 : Hid (∀ W, Fr (fun i => i = b) w5 W → W.cell? ⟨sb, 0, none⟩ = some (.string s.name) ∧ W.cell? ⟨sb, 1, none⟩ = some (.int .i64 s.time) ∧ W.cell? ⟨sb, 2, none⟩ = some (.int .i64 s.value)) := fun W f => ⟨(Hbx5.out.fr f hsb5).cell 0, (Hbx5.out.fr f hsb5).cell 1, (Hbx5.out.fr f hsb5).cell 2⟩
        have hagw := aggOne_wf hsw.2.1
        have HOf : Hid (∀ W A c, Rd W 1 A 1 [.int .i64 s.value] → Calls Tryz.prog 40 #[.slice A 1 c] W fun r w' => r = .returned (aggOne s.value).val ∧ Below W.heap.size W w') := fun W A c hrd => ofone_any s.value hsw.2.1 A c W hrd
        obtain ⟨ag, hag⟩ : ∃ ag, aggOne s.value = ag := ⟨_, rfl⟩
        rw [hag] at hagw HOf Hget
        have HAd : Hid (∀ W A c, TabAt W g x.every b m → Rd W 7 A 1 [.string s.name, .int .i64 sv, .int .i64 ag.count, .int .i64 ag.hi, .int .u64 ag.lo, .int .i64 ag.min, .int .i64 ag.max] → Calls Tryz.prog 58 #[.pointer (some ⟨g, 0, none⟩), .slice A 1 c] W fun r' w' => r' = .returned (.int .i64 (([⟨s.name, sv, ag⟩].filter (rightR x.every)).length : Nat)) ∧ TabAt w' g x.every b (addV x.every m ⟨s.name, sv, ag⟩) ∧ Fr (fun j => j = b) W w') := fun W A c ht hrd =>
         add_any g x.every b m [⟨s.name, sv, ag⟩] A 1 c W ht hrd (fun a ha => by rw [List.mem_singleton] at ha; rw [ha]; exact ⟨hsti, hagw, hsw.2.2⟩) (by omega)
        unfold AggV.val at HOf
        clear hagw hag hsti hbv
        go_wp2_with fail
        refine wp_region_held_drew (S := fun W => Fr (fun i => i = b) w5 W) (by kernel_rfl) ((Fr.refl _ w5).drew) (fun hHeld => ?_)
        refine tl 0 ?v19 rfl ?q19 ?r19
        case q19 => intro W hSw; go_simp; try rfl
        refine tl 1 ?v20 rfl ?q20 ?r20
        case q20 => intro W hSw; go_simp; try rfl
        refine tl 2 ?v21 rfl ?q21 ?r21
        case q21 => intro W hSw; (try obtain ⟨s0, s1, s2⟩ := HC5.out W hSw); go_simp; try rfl
        refine tl 3 ?v22 rfl ?q22 ?r22
        case q22 => intro W hSw; go_simp; try rfl
        refine tl 4 ?v23 rfl ?q23 ?r23
        case q23 => intro W hSw; go_simp; try rfl
        refine tl 5 ?v24 rfl ?q24 ?r24
        case q24 => intro W hSw; (try obtain ⟨s0, s1, s2⟩ := HC5.out W hSw); go_simp; try rfl
        try simp only [Act.put, sA, sB, sC]
        refine rl 6 rfl (fun K hK => ?_)
        go_simp
        refine hK.out _ _ (((Fr.none_alloc w5 _).mono (fun _ h => h.elim)).drew) (fun hHeld => ?_)
        clear hK K
        try simp only [Act.put, sA, sB, sC]
        refine rl 7 rfl (fun K hK => ?_)
        go_simp
        go_wp2_with (first | (go_at_call 40; refine (HOf.out _ _ _ (Rd.newS (w := w5) (k := w5.heap.size) rfl _ _ 1 1 rfl).drew).mono ?_; rintro r w6 ⟨rfl, b6⟩))
        refine hK.out _ _ (hHeld.trans (Fr.b0 b6) (fun _ h => h.elim)) (fun hHeld => ?_)
        clear hK K
        refine tl 8 ?v25 rfl ?q25 ?r25
        case q25 => intro W hSw; (try obtain ⟨s0, s1, s2⟩ := HC5.out W hSw); go_simp; try rfl
        try simp only [Act.put, sA, sB, sC]
        refine rl 9 rfl (fun K hK => ?_)
        go_simp
        refine hK.out _ _ (hHeld.trans (Fr.none_alloc _ _) (fun _ h => h.elim)) (fun hHeld => ?_)
        clear hK K
        try simp only [Act.put, sA, sB, sC]
        refine rl 10 rfl (fun K hK => ?_)
        go_simp
        go_wp2_with (first | (go_at_call 58; refine (HAd.out _ _ _ ((((HTb.out.fr0 (Fr.refl _ w5).drew).fr0 (Fr.none_alloc _ _)).fr0 (Fr.b0 b6)).fr0 (Fr.none_alloc _ _)) (Rd.newS (w := w6) (k := w6.heap.size) rfl _ _ 1 7 rfl)).mono ?_; rintro r w7 ⟨rfl, t7, f7⟩))
        refine hK.out _ _ (hHeld.trans f7 (fun i hi => .inl hi)) (fun hHeld => ?_)
        clear hK K
        try simp only [Act.put, sA, sB, sC]
        refine wpAnyH_done (by kernel_rfl) ?_ _
        have F7 := Lib.hid (hHeld)
        have T7 := Lib.hid t7
        clear hHeld t7 f7 b6
        go_wp2_with fail
        go_roundw
        case rel =>
         have h := (Hij.out.fr0 F5.out).set (k := j) H1.out H2.out T7.out F7.out
         refine ⟨j + 1, by omega, by go_num, ?_, (Hfj.out.trans F5.out (fun _ h => h.elim)).trans F7.out (fun i hi => .inl ⟨_, List.mem_of_getElem? H1.out, hi⟩)⟩
         have e := mix_step (D := DL) (L := tabs) (k := j) (by rw [Hlt.out]; exact hlj) Hget.out (by rw [HDl.out]; omega)
         rw [← e]
         exact h
        case measure => simp [intOf]; omega
      ·have hjl : j = X.tiers.length := by omega
       have h := Hij.out
       rw [hjl, List.take_of_length_le (by rw [HDl.out]; exact Nat.le_refl _), List.drop_eq_nil_of_le (by rw [Hlt.out]; exact Nat.le_refl _), List.append_nil] at h
       have Hfin := Lib.hid h
       clear h
       go_wp2_with fail
       go_roundw
       case rel => exact ⟨q + 1, by omega, by go_num, by rw [HN1.out]; exact Hfin.out, F1.out.trans Hfj.out (fun _ h => .inl h)⟩
       case measure => simp [intOf]; omega
    ·have hql : l.take q = l := take_all (by rw [Hln.out]; omega)
     rw [hql] at Hiq
     go_wp2_with fail
     go_ret
     refine ⟨by rw [HE0.out]; rfl, by rw [HZ2.out]; exact ⟨A, c, B, d, T, ct, tb, Hiq.out, rfl⟩, Hfq.out.mono (fun j hj => .inl ⟨.inr hj, HM.out j hj⟩)⟩
end Go.Proofs.YtbblmmneeafhgaaGreat
namespace Go.Proofs.YtbblmmneeafhgaaGreat
set_option linter.all false
open Go.RowKit

def askB (s : ByteArray) (fr tt : Int) : Bool := validB s && decide (0 ≤ fr) && decide (fr ≤ tt)
def askT (X : TiersX) (fr : Int) : Int := coverV X.now X.tiers X.floors fr
def askL (X : TiersX) (s : ByteArray) (fr tt : Int) : List RecV := keepT (outR s fr tt) (X.tabs.getD (askT X fr).toNat [])
theorem cover_in {now : Int} {l : List TierV} {fl : List Int} {t : Int} (h : 0 < l.length) : ∃ k : Nat, k < l.length ∧ coverV now l fl t = k := by
 unfold coverV
 split
 ·rename_i k hk
  have := List.mem_range.1 (List.mem_of_find?_eq_some hk)
  exact ⟨k, this, rfl⟩
 ·exact ⟨l.length - 1, by omega, by omega⟩

set_option maxRecDepth 100000 in
set_option maxHeartbeats 8000000 in
theorem task_any (t base : Nat) (X : TiersX) (s : ByteArray) (hs : s.size ≤ maxLen) (fr tt : Int) (w : World) (h : TiersAt w t base X) (h0 : 0 < X.tiers.length) (hn : X.tiers.length ≤ 1000) (hl : ∀ m ∈ X.tabs, m.length ≤ 100000000) (hnow : 0 ≤ X.now ∧ X.now ≤ 1099511627776) (hwf : ∀ x ∈ X.tiers, x.wf) :
  Calls Tryz.prog 25 #[.pointer (some ⟨t, 0, none⟩), .string s, .int .i64 fr, .int .i64 tt] w fun r w' => ((askB s fr tt = true → ∃ A c, r = .returned (.tuple #[ansV (askT X fr) A (askL X s fr tt).length c, .int .i64 0]) ∧ w'.ownsRow w.heap.size 100 7 (.slice A (askL X s fr tt).length c) (askL X s fr tt).length (rcells (askL X s fr tt))) ∧ (askB s fr tt = false → r = .returned (.tuple #[ansV 0 none 0 0, .int .i64 1]))) ∧ Below w.heap.size w w' := by
 obtain ⟨W0, hW0⟩ : ∃ W0, W0 = w.alloc (.cells #[.int .i64 0, .slice none 0 0] 67) := ⟨_, rfl⟩
 have HW0 := Lib.hid hW0
 have F0 : Hid (Fr (fun _ => False) w W0) := by show Fr _ _ _; rw [hW0]; exact Fr.none_alloc _ _
 have BA : Hid (Blk W0 w.heap.size 67 #[.int .i64 0, .slice none 0 0]) := by show Blk _ _ _ _; rw [hW0]; exact Blk.new _ _ _
 have HS0 : Hid (w.heap.size + 1 = W0.heap.size) := by show _ = _; rw [hW0]; simp
 have HT0 := h.fr0 F0.out
 have HN := Lib.hid (tnone_any t base X W0 HT0 h0)
 have HVd := Lib.hid (fun b c w hc => valid_one s hs b c w hc)
 unfold askB ansV
 clear hW0
 cases hv : validB s
 ·rw [hv] at HVd
  clear hv
  go_enter Tryz.func25, Tryz.ntmps25
  go_wp2_with fail
  rw [← HW0.out]
  refine HN.out.mono ?_
  rintro r w' ⟨rfl, rfl⟩
  go_wp2_with fail
  refine (HVd.out _ _ _ ((Blk.new _ _ _).cell 0)).mono ?_
  rintro r w' ⟨rfl, rfl⟩
  have FV : Hid (Fr (fun _ => False) W0 (W0.alloc (.cells #[.string s] 9))) := Fr.none_alloc _ _
  obtain ⟨W1, hW1⟩ : ∃ W1, W1 = W0.alloc (.cells #[.string s] 9) := ⟨_, rfl⟩
  rw [← hW1] at FV ⊢
  clear hW1
  have b1 := BA.out.fr FV.out (fun h => h)
  have a0 := b1.cell 0
  have a1 := b1.cell 1
  have z0 := b1.frozen 0
  have z1 := b1.frozen 1
  simp only [List.getElem?_toArray, List.getElem?_cons_succ, List.getElem?_cons_zero] at a0 a1
  go_wp2_with fail
  rw [setCell_same a0, setCell_same a1]
  refine bodyPost_ret (v := .tuple #[.agg #[.int .i64 0, .slice none 0 0], .int .i64 1]) ?_ rfl ⟨⟨fun h => by simp at h, fun _ => rfl⟩, (F0.out.trans FV.out (fun _ h => h.elim)).below (fun _ h => h.elim)⟩
  simp [results, Tryz.results25, go_sem, *]
 rw [hv] at HVd
 clear hv
 by_cases h1 : 0 ≤ fr
 ·have hd1 : decide (fr < 0) = false := decide_eq_false (by omega)
  by_cases h2 : fr ≤ tt
  ·have hd2 : decide (tt < fr) = false := decide_eq_false (by omega)
   have hB : (true && decide (0 ≤ fr) && decide (fr ≤ tt)) = true := by simp [h1, h2]
   rw [hB]
   clear hB
   obtain ⟨A, c, B, d, T, ct, tb, hi⟩ := HT0
   have Hi := Lib.hid hi
   obtain ⟨k, hk, hcv⟩ := cover_in (now := X.now) (fl := X.floors) (t := fr) h0
   obtain ⟨g, b, x, l, q1, q2, q3, hTb⟩ := hi.tabAt hk
   have hA1 : askT X fr = (k : Int) := hcv
   have hA2 : askL X s fr tt = keepT (outR s fr tt) l := by
    unfold askL
    rw [hA1, Int.toNat_natCast, List.getD_eq_getElem?_getD, q3]; rfl
   rw [hA1, hA2]
   have hll := hl l (mem_of_get q3)
   have HCv : Hid (∀ W, Fr (fun _ => False) W0 W → Calls Tryz.prog 69 #[.agg #[.int .i64 X.now, .string X.name, .slice A X.tiers.length c, .slice B X.floors.length d], .int .i64 fr] W fun r w' => r = .returned (.int .i64 k) ∧ Below W.heap.size W w') := fun W f => by
    have hi' := hi.fr0 f
    rw [← hcv]
    exact cover_any X.now (by unfold i64; omega) X.name X.tiers A X.tiers.length c X.floors B X.floors.length d fr W (own_any hi'.tiers).2.2.1 (own_any hi'.floors).2.2.1 hwf (by omega)
   have HRg : Hid (∀ W, Fr (fun _ => False) W0 W → Calls Tryz.prog 70 #[.pointer (some ⟨g, 0, none⟩), .string s, .int .i64 fr, .int .i64 tt] W fun r w' => (∃ A c, r = .returned (.slice A (keepT (outR s fr tt) l).length c) ∧ w'.ownsRow W.heap.size 100 7 (.slice A (keepT (outR s fr tt) l).length c) (keepT (outR s fr tt) l).length (rcells (keepT (outR s fr tt) l))) ∧ Below W.heap.size W w') := fun W f => tabrange_any g x.every b l s fr tt W (hTb.fr0 f) (by omega)
   obtain ⟨out, hout⟩ : ∃ out, keepT (outR s fr tt) l = out := ⟨_, rfl⟩
   rw [hout] at HRg ⊢
   have HP : Hid (∀ W, Fr (fun _ => False) W0 W → ∃ ad, T = some ad ∧ W.cell? (ad.add k) = some (.pointer (some ⟨g, 0, none⟩))) := fun W f => by
    obtain ⟨ad, e, hc⟩ := (own_any (hi.fr0 f).row).2.2.1.2 (by omega)
    exact ⟨ad, e, hc k _ (ptrs_get q1)⟩
   have kn : 0 ≤ (k : Int) ∧ (k : Int) < (X.tiers.length : Int) := by omega
   clear hout hTb q1 q2 q3 hi hcv hA1 hA2 hl hwf h
   go_enter Tryz.func25, Tryz.ntmps25
   go_wp2_with fail
   rw [← HW0.out]
   refine HN.out.mono ?_
   rintro r w' ⟨rfl, rfl⟩
   go_wp2_with fail
   refine (HVd.out _ _ _ ((Blk.new _ _ _).cell 0)).mono ?_
   rintro r w' ⟨rfl, rfl⟩
   have FV : Hid (Fr (fun _ => False) W0 (W0.alloc (.cells #[.string s] 9))) := Fr.none_alloc _ _
   obtain ⟨W1, hW1⟩ : ∃ W1, W1 = W0.alloc (.cells #[.string s] 9) := ⟨_, rfl⟩
   rw [← hW1] at FV ⊢
   clear hW1
   have a0 := (Hi.out.fr0 FV.out).blk.cell 0
   have a1 := (Hi.out.fr0 FV.out).blk.cell 1
   have a2 := (Hi.out.fr0 FV.out).blk.cell 2
   have a3 := (Hi.out.fr0 FV.out).blk.cell 3
   simp only [List.getElem?_toArray, List.getElem?_cons_succ, List.getElem?_cons_zero] at a0 a1 a2 a3
   go_wp2_with fail
   refine (HCv.out _ FV.out).mono ?_
   rintro r w5 ⟨rfl, b5⟩
   have F5 := Lib.hid (FV.out.trans (Fr.b0 b5) (fun _ h => h.elim))
   obtain ⟨ad, rfl, p0⟩ := HP.out w5 F5.out
   clear a0 a1 a2 a3 b5 FV
   have a4 := (Hi.out.fr0 F5.out).blk.cell 4
   simp only [List.getElem?_toArray, List.getElem?_cons_succ, List.getElem?_cons_zero] at a4
   go_wp2_with fail
   refine (HRg.out _ F5.out).mono ?_
   rintro r w6 ⟨⟨A6, c6, rfl, ho6⟩, b6⟩
   have F6 := Lib.hid (F5.out.trans (Fr.b0 b6) (fun _ h => h.elim))
   have Ho6 := Lib.hid ho6
   have H56 : Hid (w.heap.size ≤ w5.heap.size) := (F0.out.trans F5.out (fun _ h => h.elim)).size
   have hB6 := BA.out.fr F6.out (fun h => h)
   have HB6 := Lib.hid hB6
   clear a4 p0 b6 ho6
   have a0 := hB6.cell 0
   have a1 := hB6.cell 1
   have z0 := hB6.frozen 0
   have z1 := hB6.frozen 1
   simp only [List.getElem?_toArray, List.getElem?_cons_succ, List.getElem?_cons_zero] at a0 a1
   clear hB6
   go_wp2_with fail
   obtain ⟨W7, hW7⟩ : ∃ W7, W7 = (w6.setCell ⟨w.heap.size, 0, none⟩ (.int .i64 k)).setCell ⟨w.heap.size, 1, none⟩ (.slice A6 out.length c6) := ⟨_, rfl⟩
   rw [← hW7]
   have F7 : Fr (fun j => j = w.heap.size) w6 W7 := by rw [hW7]; exact ((Fr.refl (fun j => j = w.heap.size) w6).setCell (p := ⟨w.heap.size, 0, none⟩) (.inl rfl) _).setCell (p := ⟨w.heap.size, 1, none⟩) (.inl rfl) _
   have B7 : Blk W7 w.heap.size 67 #[.int .i64 k, .slice A6 out.length c6] := by rw [hW7]; exact (HB6.out.set_ 0 _).set_ 1 _
   have c0 := B7.cell 0
   have c1 := B7.cell 1
   simp only [List.getElem?_toArray, List.getElem?_cons_succ, List.getElem?_cons_zero] at c0 c1
   have hfin : Below w.heap.size w W7 := ((F0.out.trans F6.out (fun _ h => h.elim)).below (fun _ h => h.elim)).trans (F7.below_of (F0.out.trans F6.out (fun _ h => h.elim)).size (fun _ h => by omega))
   have hown : W7.ownsRow w.heap.size 100 7 (.slice A6 out.length c6) out.length (rcells out) := own_le (own_fr Ho6.out F7 (fun j hj e => own_blk_ne Ho6.out HB6.out (by decide) (by rw [← e]; exact hj))) H56.out
   clear a0 a1 z0 z1 hW7 B7 F7
   refine bodyPost_ret (v := .tuple #[.agg #[.int .i64 k, .slice A6 out.length c6], .int .i64 0]) ?_ rfl ⟨⟨fun _ => ⟨A6, c6, rfl, hown⟩, fun h => by simp at h⟩, hfin⟩
   simp [results, Tryz.results25, go_sem, c0, c1]
  ·have hd2 : decide (tt < fr) = true := decide_eq_true (by omega)
   have hB : (true && decide (0 ≤ fr) && decide (fr ≤ tt)) = false := by simp [h1]; omega
   rw [hB]
   clear hB
   go_enter Tryz.func25, Tryz.ntmps25
   go_wp2_with fail
   rw [← HW0.out]
   refine HN.out.mono ?_
   rintro r w' ⟨rfl, rfl⟩
   go_wp2_with fail
   refine (HVd.out _ _ _ ((Blk.new _ _ _).cell 0)).mono ?_
   rintro r w' ⟨rfl, rfl⟩
   have FV : Hid (Fr (fun _ => False) W0 (W0.alloc (.cells #[.string s] 9))) := Fr.none_alloc _ _
   obtain ⟨W1, hW1⟩ : ∃ W1, W1 = W0.alloc (.cells #[.string s] 9) := ⟨_, rfl⟩
   rw [← hW1] at FV ⊢
   clear hW1
   have b1 := BA.out.fr FV.out (fun h => h)
   have a0 := b1.cell 0
   have a1 := b1.cell 1
   have z0 := b1.frozen 0
   have z1 := b1.frozen 1
   simp only [List.getElem?_toArray, List.getElem?_cons_succ, List.getElem?_cons_zero] at a0 a1
   go_wp2_with fail
   rw [setCell_same a0, setCell_same a1]
   refine bodyPost_ret (v := .tuple #[.agg #[.int .i64 0, .slice none 0 0], .int .i64 1]) ?_ rfl ⟨⟨fun h => by simp at h, fun _ => rfl⟩, (F0.out.trans FV.out (fun _ h => h.elim)).below (fun _ h => h.elim)⟩
   simp [results, Tryz.results25, go_sem, *]
 ·have hd1 : decide (fr < 0) = true := decide_eq_true (by omega)
  have hB : (true && decide (0 ≤ fr) && decide (fr ≤ tt)) = false := by simp [h1]
  rw [hB]
  clear hB
  go_enter Tryz.func25, Tryz.ntmps25
  go_wp2_with fail
  rw [← HW0.out]
  refine HN.out.mono ?_
  rintro r w' ⟨rfl, rfl⟩
  go_wp2_with fail
  refine (HVd.out _ _ _ ((Blk.new _ _ _).cell 0)).mono ?_
  rintro r w' ⟨rfl, rfl⟩
  have FV : Hid (Fr (fun _ => False) W0 (W0.alloc (.cells #[.string s] 9))) := Fr.none_alloc _ _
  obtain ⟨W1, hW1⟩ : ∃ W1, W1 = W0.alloc (.cells #[.string s] 9) := ⟨_, rfl⟩
  rw [← hW1] at FV ⊢
  clear hW1
  have b1 := BA.out.fr FV.out (fun h => h)
  have a0 := b1.cell 0
  have a1 := b1.cell 1
  have z0 := b1.frozen 0
  have z1 := b1.frozen 1
  simp only [List.getElem?_toArray, List.getElem?_cons_succ, List.getElem?_cons_zero] at a0 a1
  go_wp2_with fail
  rw [setCell_same a0, setCell_same a1]
  refine bodyPost_ret (v := .tuple #[.agg #[.int .i64 0, .slice none 0 0], .int .i64 1]) ?_ rfl ⟨⟨fun h => by simp at h, fun _ => rfl⟩, (F0.out.trans FV.out (fun _ h => h.elim)).below (fun _ h => h.elim)⟩
  simp [results, Tryz.results25, go_sem, *]
end Go.Proofs.YtbblmmneeafhgaaGreat
