/- TiersPlays' walk: every policy, time and floors, and every call, in every order; what is handed in stays. -/
import Derived.Deep.CutBlock
import Derived.Test.YtbblmmneeafhgaaGreatAlive11
import Derived.Test.YtbblmmneeafhgaaGreatAlive
import Derived.Test.YtbblmmneeafhgaaGreatOpC
import Derived.Test.YtbblmmneeafhgaaGreatLentI
import Derived.Test.YtbblmmneeafhgaaGreatTrio
import Derived.Test.YtbblmmneeafhgaaGreatAlike
import Derived.Test.YtbblmmneeafhgaaGreatRTAsk
import Derived.Test.YtbblmmneeafhgaaGreatTiers13
import Derived.Test.YtbblmmneeafhgaaGreatTk
namespace Go.Proofs.YtbblmmneeafhgaaGreat
set_option linter.all false
open Go.RowKit

def ansT (X : TiersX) (s : ByteArray) (fr tt : Int) : Int := if askB s fr tt then askT X fr else 0
def ansL (X : TiersX) (s : ByteArray) (fr tt : Int) : List RecV := if askB s fr tt then askL X s fr tt else []
def ansE (s : ByteArray) (fr tt : Int) : Int := if askB s fr tt then 0 else 1
def AnsR (X : TiersX) (s : ByteArray) (fr tt : Int) (W : World) (r : Ending) (w' : World) : Prop :=
 ∃ A c, r = .returned (.tuple #[.agg #[.int .i64 (ansT X s fr tt), .slice A (ansL X s fr tt).length c], .int .i64 (ansE s fr tt)]) ∧ w'.ownsRow W.heap.size 100 7 (.slice A (ansL X s fr tt).length c) (ansL X s fr tt).length (rcells (ansL X s fr tt))
theorem ans_of {X : TiersX} {s : ByteArray} {fr tt : Int} {r : Ending} {W w' : World} (h : (askB s fr tt = true → ∃ A c, r = .returned (.tuple #[.agg #[.int .i64 (askT X fr), .slice A (askL X s fr tt).length c], .int .i64 0]) ∧ w'.ownsRow W.heap.size 100 7 (.slice A (askL X s fr tt).length c) (askL X s fr tt).length (rcells (askL X s fr tt))) ∧ (askB s fr tt = false → r = .returned (.tuple #[.agg #[.int .i64 0, .slice none 0 0], .int .i64 1]))) : AnsR X s fr tt W r w' := by
 unfold AnsR ansT ansL ansE
 cases hb : askB s fr tt with
 | true =>
  obtain ⟨A, c, h1, h2⟩ := h.1 hb
  exact ⟨A, c, h1, h2⟩
 | false => exact ⟨none, 0, h.2 hb, World.ownsRow_nil _ _ _ _⟩
theorem ansL_len {X : TiersX} {s : ByteArray} {fr tt : Int} {c : Nat} (h : ∀ m ∈ X.tabs, m.length ≤ c) : (ansL X s fr tt).length ≤ c := by
 unfold ansL
 split
 ·exact Nat.le_trans (List.length_filter_le _ _) (getD_len h _)
 ·exact Nat.zero_le _

set_option maxRecDepth 100000 in
set_option maxHeartbeats 16000000 in
theorem tplays_walk (nm : ByteArray) (l : List TierV) (A : Option Addr) (n c : Nat) (now : Int) (fl : List Int) (Bf : Option Addr) (mf df : Nat) (ops : List OpC) (B : Option Addr) (m d : Nat) (s : ByteArray) (fr tt : Int) (w : World) (hnm : nm.size ≤ maxLen) (hr : Rd w 4 A n (tcells l)) (hnc : n ≤ c) (hn9 : n ≤ 9223372036854775807) (hwf : ∀ t ∈ l, t.wf) (hnow : -9223372036854775808 ≤ now ∧ now ≤ 9223372036854775807) (hf : Rd w 1 Bf mf (ints fl)) (hmf9 : mf ≤ 9223372036854775807) (hs : Rd w 4 B m (opcells ops)) (hm9 : m ≤ 9223372036854775807) (hok : ∀ o ∈ ops, o.ok w) (hsz : s.size ≤ maxLen) :
  Calls Tryz.prog 3 #[.agg #[.string nm, .slice A n c], .int .i64 now, .slice Bf mf df, .slice B m d, .string s, .int .i64 fr, .int .i64 tt] w fun e w' => e = .returned (.bool true) ∧ Below w.heap.size w w' := by
 have HAl := Lib.hid alive11_any
 have HSm : Hid (∀ W, Fr (fun _ => False) w W → Calls Tryz.prog 5 #[.agg #[.string nm, .slice A n c]] W fun r w' => SmallR nm n r ∧ Below W.heap.size W w') := fun W f => bsmall_any nm l A n c W (hr.fr0 f) hn9 hnm (fun t h => (hwf t h).2.2.2)
 have HLi : Hid (∀ W, Fr (fun _ => False) w W → Calls Tryz.prog 6 #[.slice B m d] W fun r w' => LightR2 ops m r ∧ W = w') := fun W f => light2_any ops B m d W (hs.fr0 f) (fun o h => (hok o h).below (f.below (fun _ h => h.elim))) hm9
 have HLt : Hid (∀ W, mf ≤ 12 → Fr (fun _ => False) w W → Calls Tryz.prog 8 #[.slice Bf mf df] W fun r w' => ∃ B d, r = .returned (.slice B mf d) ∧ mf + 1 ≤ d ∧ d ≤ maxLen ∧ Rd w' 1 B (mf + 1) (lentI fl) ∧ (∀ k, adF B (mf + 1) k → W.heap.size ≤ k) ∧ Below W.heap.size W w') := fun W h f => lentI_any fl Bf mf df W (hf.fr0 f) (by omega)
 have HPre : Hid (∀ W B, Rd W 1 B (mf + 1) (lentI fl) → Rd W 1 B mf (ints fl)) := fun W B h => by
  have hl : (ints fl).length = mf * 1 := hf.1
  have := h.take (k := mf) (by omega)
  unfold lentI at this
  rwa [List.take_left' hl] at this
 have HT : Hid (∀ W B d, n ≤ 10 → mf ≤ 12 → Rd W 1 B mf (ints fl) → Fr (fun _ => False) w W → Calls Tryz.prog 9 #[.agg #[.string nm, .slice A n c], .int .i64 now, .slice B mf d] W fun r w' => ((newE nm l now fl = 0 → ∃ t, r = .returned (.tuple #[.pointer (some ⟨t, 0, none⟩), .int .i64 0]) ∧ TiersAt w' t W.heap.size (newX nm l now fl)) ∧ (newE nm l now fl ≠ 0 → r = .returned (.tuple #[.pointer none, .int .i64 (newE nm l now fl)]))) ∧ Below W.heap.size W w') := fun W B d hn hm hb f => tnew_any nm hnm l A n c now hnow fl B mf d W (hr.fr0 f) hnc hwf (by omega) hb (by omega)
 have HR : Hid (∀ W lo, n ≤ 10 → mf ≤ 12 → w.heap.size ≤ lo → lo ≤ W.heap.size → Fr (fun _ => False) w W → Calls Tryz.prog 10 #[.agg #[.string nm, .slice A n c], .int .i64 now, .slice Bf mf df] W fun r w' => RtNew nm l now fl A c Bf df lo W (newE nm l now fl) r w' ∧ Below W.heap.size W w') := fun W lo hn hm hl1 hl2 f => rtnew_any nm hnm l A n c now fl Bf mf df lo W hl2 (hr.fr0 f) hwf (by omega) (hf.fr0 f) (by omega) (fun j hj => Nat.lt_of_lt_of_le (hr.adlt (by decide) j hj) hl1) (fun j hj => Nat.lt_of_lt_of_le (hf.adlt (by decide) j hj) hl1)
 have HSt : Hid (∀ W B d, mf ≤ 12 → mf + 1 ≤ d → d ≤ maxLen → Rd W 1 B (mf + 1) (lentI fl) → Fr (fun _ => False) w W → Calls Tryz.prog 11 #[.slice B mf d, .slice Bf mf df] W fun r w' => r = .returned (.bool true) ∧ Below W.heap.size W w') := fun W B d hm h1 h2 hb f => staysI_any fl B mf d Bf df W hb (hf.fr0 f) h1 h2 (by omega)
 have Hs := Lib.hid hs
 have Hln := Lib.hid hs.ops_len
 have Hok := Lib.hid hok
 have Hll : Hid (l.length = n) := hr.tiers_len
 have Hlf : Hid (fl.length = mf) := Rd.len_map hf
 have HNok : Hid (newE nm l now fl = 0 → PolOk nm l) := fun h => ⟨newE_check h, hwf⟩
 have HGn : Hid (newE nm l now fl = 0 → GoodX nm l fl (newX nm l now fl) 0) := fun h => GoodX.new h
 obtain ⟨E, hE⟩ : ∃ E, newE nm l now fl = E := ⟨_, rfl⟩
 rw [hE] at HT HR HNok HGn
 obtain ⟨X0, hX0⟩ : ∃ v, newX nm l now fl = v := ⟨_, rfl⟩
 have HX0 := Lib.hid hX0
 have HLow0 : Hid (LowX X0) := by show LowX X0; rw [← hX0]; exact LowX.new
 rw [hX0] at HT HGn
 obtain ⟨W0, hW0⟩ : ∃ W0, W0 = w.alloc (.cells #[.string nm, .slice A n c] 24) := ⟨_, rfl⟩
 have HW0 := Lib.hid hW0
 have F0 : Hid (Fr (fun _ => False) w W0) := by show Fr _ _ _; rw [hW0]; exact Fr.none_alloc _ _
 have B0 : Hid (Blk W0 w.heap.size 24 #[.string nm, .slice A n c]) := by show Blk _ _ _ _; rw [hW0]; exact Blk.new _ _ _
 have hs9 : s.size ≤ 9223372036854775807 := hsz
 have Hsz := Lib.hid hsz
 clear hX0 hE hr hwf hs hok hf hW0 hsz
 go_enter Tryz.func3, Tryz.ntmps3
 go_wp2_with fail
 rw [← HW0.out]
 refine (HSm.out _ F0.out).mono ?_
 rintro r w1 ⟨⟨b, rfl, hb⟩, b1⟩
 have F1 := Lib.hid (F0.out.trans (Fr.b0 b1) (fun _ h => h.elim))
 have B1 := Lib.hid (B0.out.below b1)
 clear b1 HSm
 cases b with
 | false =>
  clear hb
  go_wp2_with fail
  refine (HAl.out _).mono ?_
  rintro r wq ⟨rfl, bq⟩
  go_wp2_with fail
  go_ret
  exact ⟨rfl, (F1.out.trans (Fr.b0 bq) (fun _ h => h.elim)).below (fun _ h => h.elim)⟩
 | true =>
 have h10 : n ≤ 10 := (hb rfl).1
 clear hb
 by_cases hf12 : 12 < mf
 ·have hd : decide ((12 : Int) < (mf : Int)) = true := decide_eq_true (by omega)
  go_wp2_with fail
  refine (HAl.out _).mono ?_
  rintro r wq ⟨rfl, bq⟩
  go_wp2_with fail
  go_ret
  exact ⟨rfl, (F1.out.trans (Fr.b0 bq) (fun _ h => h.elim)).below (fun _ h => h.elim)⟩
 have hd : decide ((12 : Int) < (mf : Int)) = false := decide_eq_false (by omega)
 go_wp2_with fail
 refine (HLi.out _ F1.out).mono ?_
 rintro r w' ⟨⟨b, rfl, hb⟩, rfl⟩
 cases b with
 | false =>
  clear hb
  go_wp2_with fail
  refine (HAl.out _).mono ?_
  rintro r wq ⟨rfl, bq⟩
  go_wp2_with fail
  go_ret
  exact ⟨rfl, (F1.out.trans (Fr.b0 bq) (fun _ h => h.elim)).below (fun _ h => h.elim)⟩
 | true =>
 have h50 : m ≤ 50 := (hb rfl).1
 have Hl20 := Lib.hid (hb rfl).2
 clear hb HLi hd
 by_cases hs60 : 60 < s.size
 ·have hd : decide ((60 : Int) < (s.size : Int)) = true := decide_eq_true (by omega)
  go_wp2_with fail
  refine (HAl.out _).mono ?_
  rintro r wq ⟨rfl, bq⟩
  go_wp2_with fail
  go_ret
  exact ⟨rfl, (F1.out.trans (Fr.b0 bq) (fun _ h => h.elim)).below (fun _ h => h.elim)⟩
 have hd : decide ((60 : Int) < (s.size : Int)) = false := decide_eq_false (by omega)
 have hf12' : mf ≤ 12 := by omega
 go_wp2_with fail
 refine (HLt.out _ hf12' F1.out).mono ?_
 rintro r w3 ⟨mB, md, rfl, m1, m2, m3, m4, b3⟩
 have F3 := Lib.hid (F1.out.trans (Fr.b0 b3) (fun _ h => h.elim))
 have B3 := Lib.hid (B1.out.below b3)
 have Hm3 := Lib.hid m3
 have Hm2 := Lib.hid m2
 have HT3 := Lib.hid (HT.out w3 mB md h10 hf12' (HPre.out _ _ m3) F3.out)
 have p0 := B3.out.cell 0
 have p1 := B3.out.cell 1
 simp only [List.getElem?_toArray, List.getElem?_cons_succ, List.getElem?_cons_zero] at p0 p1
 clear b3 m2 m3 m4 HLt HT HPre hd
 go_wp2_with fail
 refine HT3.out.mono ?_
 rintro r w4 ⟨⟨h1, h2⟩, b4⟩
 have F34 : Hid (Fr (fun _ => False) w3 w4) := Fr.b0 b4
 have F4 := Lib.hid (F3.out.trans F34.out (fun _ h => h.elim))
 have HR4 := Lib.hid (HR.out w4 w3.heap.size h10 hf12' F3.out.size F34.out.size F4.out)
 clear b4 HT3 HR p0 p1
 have p0 := (B3.out.fr F34.out (fun h => h)).cell 0
 have p1 := (B3.out.fr F34.out (fun h => h)).cell 1
 simp only [List.getElem?_toArray, List.getElem?_cons_succ, List.getElem?_cons_zero] at p0 p1
 by_cases hz : E = 0
 case neg =>
  obtain rfl := h2 hz
  have hz2 : (E == 0) = false := by simpa using hz
  have hz3 : (E != E) = false := by simp
  clear h1 h2 HNok HGn
  go_wp2_with fail
  refine HR4.out.mono ?_
  rintro r w5 ⟨hq, b5⟩
  obtain rfl := hq.2 hz
  have F35 := Lib.hid (F34.out.trans (Fr.b0 b5) (fun _ h => h.elim))
  have F5 := Lib.hid (F3.out.trans F35.out (fun _ h => h.elim))
  have HS5 := Lib.hid (HSt.out w5 mB md hf12' m1 Hm2.out (Hm3.out.fr0 F35.out) F5.out)
  clear hq b5 p0 p1
  go_wp2_with fail
  refine HS5.out.mono ?_
  rintro r w6 ⟨rfl, b6⟩
  have F6 := Lib.hid (F5.out.trans (Fr.b0 b6) (fun _ h => h.elim))
  clear b6
  go_wp2_with fail
  refine (HAl.out _).mono ?_
  rintro r wq ⟨rfl, bq⟩
  go_wp2_with fail
  go_ret
  exact ⟨rfl, (F6.out.trans (Fr.b0 bq) (fun _ h => h.elim)).below (fun _ h => h.elim)⟩
 case pos =>
 subst hz
 obtain ⟨t0, rfl, ha⟩ := h1 rfl
 have HA := Lib.hid ha
 have P := Lib.hid (HNok.out rfl)
 have G0 := Lib.hid (HGn.out rfl)
 clear h1 h2 ha HNok HGn
 go_wp2_with fail
 refine HR4.out.mono ?_
 rintro r w5 ⟨hq, b5⟩
 obtain ⟨g, F1r, T1, ct1, P1, rfl, q1, _⟩ := hq.1 rfl
 rw [HX0.out] at q1
 have F45 : Hid (Fr (fun _ => False) w4 w5) := Fr.b0 b5
 have F35 := Lib.hid (F34.out.trans F45.out (fun _ h => h.elim))
 have F5 := Lib.hid (F3.out.trans F35.out (fun _ h => h.elim))
 have HS5 := Lib.hid (HSt.out w5 mB md hf12' m1 Hm2.out (Hm3.out.fr0 F35.out) F5.out)
 have HQ1 := Lib.hid q1
 clear hq b5 q1 p0 p1 HR4
 go_wp2_with fail
 refine HS5.out.mono ?_
 rintro r w6 ⟨rfl, b6⟩
 have F56 : Hid (Fr (fun _ => False) w5 w6) := Fr.b0 b6
 have F36 := Lib.hid (F35.out.trans F56.out (fun _ h => h.elim))
 obtain ⟨kb, hkb⟩ : ∃ v, w6.heap.size = v := ⟨_, rfl⟩
 obtain ⟨W7, hW7⟩ : ∃ v, v = w6.alloc (.cells #[.slice none 0 0, .slice none 0 0, .slice none 0 0, .slice none 0 0, .slice none 0 0, .slice none 0 0, .slice none 0 0, .slice none 0 0, .slice none 0 0, .slice none 0 0, .slice none 0 0, .slice none 0 0, .slice none 0 0, .slice none 0 0, .slice none 0 0, .slice none 0 0] 49) := ⟨_, rfl⟩
 have HW7 := Lib.hid hW7
 have F67 : Hid (Fr (fun _ => False) w6 W7) := by show Fr _ _ _; rw [hW7]; exact Fr.none_alloc _ _
 have F37 := Lib.hid (F36.out.trans F67.out (fun _ h => h.elim))
 have HD7 : Hid (∃ K, Tri nm l fl w3.heap.size W7 t0 g kb X0 X0 K 0) := by
  show ∃ K, _
  obtain ⟨F, ho⟩ := HA.out.on
  obtain ⟨F2', q3, _, q4⟩ := HQ1.out.exact
  have f57 : Fr (fun _ => False) w5 W7 := F56.out.trans F67.out (fun _ h => h.elim)
  have hB := BookG.new w6
  rw [← hW7, hkb] at hB
  refine ⟨fun _ => True, ⟨⟨F, F2', fun j => j = kb, fun _ => False, _, _, _, _, _, _, _, 0, ⟨⟨_, Nat.le_refl _, ho.fr0 (F45.out.trans f57 (fun _ h => h.elim))⟩, G0.out⟩, q3.fr0 f57, q4.fr f57 (fun _ _ h => h), hB, fun j hj => ?_, fun j hj => hj.elim, fun _ _ => trivial⟩, G0.out⟩⟩
  have := F36.out.size
  omega
 clear b6 HS5 HA HQ1 hW7
 go_wp2_with fail
 rw [← HW7.out]
 try rw [hkb]
 go_loopw [16, 21] (fun tp i wr => ∃ (k t : Nat) (X : TiersX) (K : Nat → Prop), k ≤ m ∧ tp = .pointer (some ⟨t, 0, none⟩) ∧ i = .int .i64 k ∧ Tri nm l fl w3.heap.size wr t g kb X X K (k * 40) ∧ LowX X ∧ Fr (fun _ => False) w3 wr) (fun _ i _ => m - (intOf i).toNat)
 case atStart =>
  obtain ⟨K, hK⟩ := HD7.out
  exact ⟨0, t0, X0, K, Nat.zero_le _, rfl, rfl, hK, HLow0.out, F37.out⟩
 case round =>
  obtain ⟨k, t, X, K0, hk, rfl, rfl, hT, hlow, hf⟩ := hrel
  have Hf := Lib.hid hf
  have HT0 := Lib.hid hT
  have Hlow := Lib.hid hlow
  clear hT hlow hf
  by_cases hlt : k < m
  ·have hkw : IntKind.i64.wrap ((k : Int) + 1) = (k : Int) + 1 := by simp [IntKind.wrap, IntKind.signed, IntKind.bits]; omega
   obtain ⟨K, hT1, hK⟩ := HT0.out.tight
   have HT := Lib.hid hT1
   have HK := Lib.hid hK
   have Fw := Lib.hid (F3.out.trans Hf.out (fun _ h => h.elim))
   clear hT1 hK HT0
   have g0 : decide ((k : Int) < (m : Int)) = true := decide_eq_true (by omega)
   have kn : 0 ≤ (k : Int) ∧ (k : Int) < (m : Int) := by omega
   obtain ⟨ad, oo, rfl, hy, a0, a1, a2, a3⟩ := (Hs.out.fr0 Fw.out).op_ hlt
   have HO := Lib.hid ((Hok.out oo (mem_of_get hy)).below (Fw.out.below (fun _ h => h.elim)))
   have h20 := Hl20.out oo (mem_of_get hy)
   have Hsa : Hid (∀ j, adF oo.sa oo.sn j → j < w.heap.size) := (Hok.out oo (mem_of_get hy)).s.adlt (by decide)
   have Hla : Hid (∀ j, adF oo.la oo.ln j → j < w.heap.size) := (Hok.out oo (mem_of_get hy)).l.adlt (by decide)
   have HRs : Hid (∀ W, Fr (fun _ => False) w W → Rd W 3 oo.sa oo.sn (scells oo.sl)) := fun W f => (Hok.out oo (mem_of_get hy)).s.fr0 f
   have HRl : Hid (∀ W, Fr (fun _ => False) w W → Rd W 7 oo.la oo.ln (rcells oo.ll)) := fun W f => (Hok.out oo (mem_of_get hy)).l.fr0 f
   have Hsw := Lib.hid HO.out.swf
   have Hlw := Lib.hid HO.out.lwf
   have hnn := HO.out.n
   have hsl := HO.out.slen
   have hll := HO.out.llen
   clear hy HO
   obtain ⟨kd, nn, sa, sn, sc, sl, la, ln, lc, ll⟩ := oo
   simp only at a0 a1 a2 a3 h20 Hsa Hla HRs HRl Hsw Hlw hnn hsl hll
   obtain ⟨ob, hob⟩ : ∃ v, wr.heap.size = v := ⟨_, rfl⟩
   obtain ⟨wx, hwx⟩ : ∃ v, v = wr.alloc (.cells #[.int .i64 kd, .int .i64 nn, .slice sa sn sc, .slice la ln lc] 53) := ⟨_, rfl⟩
   have HWx := Lib.hid hwx
   have Bx : Hid (Blk wx ob 53 #[.int .i64 kd, .int .i64 nn, .slice sa sn sc, .slice la ln lc]) := by show Blk _ _ _ _; rw [hwx]; exact Blk.new' hob.symm _ _
   have Fx : Hid (Fr (fun _ => False) wr wx) := by show Fr _ _ _; rw [hwx]; exact Fr.none_alloc _ _
   have Sx : Hid (wx.heap.size = ob + 1) := by show _ = _; rw [hwx, ← hob]; simp
   have F3x := Lib.hid (Hf.out.trans Fx.out (fun _ h => h.elim))
   have FWx := Lib.hid (F3.out.trans F3x.out (fun _ h => h.elim))
   have HCx : Hid (∀ W, Fr (fun _ => False) wx W → W.cell? ⟨ob, 0, none⟩ = some (.int .i64 kd) ∧ W.cell? ⟨ob, 1, none⟩ = some (.int .i64 nn) ∧ W.cell? ⟨ob, 2, none⟩ = some (.slice sa sn sc) ∧ W.cell? ⟨ob, 3, none⟩ = some (.slice la ln lc)) := fun W f => by
    have b := Bx.out.fr f (fun h => h)
    exact ⟨b.cell 0, b.cell 1, b.cell 2, b.cell 3⟩
   have HLS : Hid (∀ W, Fr (fun _ => False) wx W → Calls Tryz.prog 12 #[.slice sa sn sc] W fun r w' => ∃ B d, r = .returned (.slice B sn d) ∧ sn + 1 ≤ d ∧ d ≤ maxLen ∧ Rd w' 3 B (sn + 1) (lentS sl) ∧ (∀ k, adF B (sn + 1) k → W.heap.size ≤ k) ∧ Below W.heap.size W w') := fun W f => lentS_any sl sa sn sc W (HRs.out W (FWx.out.trans f (fun _ h => h.elim))) (by omega)
   have HLR : Hid (∀ W, Fr (fun _ => False) wx W → Calls Tryz.prog 13 #[.slice la ln lc] W fun r w' => ∃ B d, r = .returned (.slice B ln d) ∧ ln + 1 ≤ d ∧ d ≤ maxLen ∧ Rd w' 7 B (ln + 1) (lentR ll) ∧ (∀ k, adF B (ln + 1) k → W.heap.size ≤ k) ∧ Below W.heap.size W w') := fun W f => lentR_any ll la ln lc W (HRl.out W (FWx.out.trans f (fun _ h => h.elim))) (by omega)
   clear hwx
   go_upto_region 15 with fail
   rw [← HWx.out]
   refine wp_region_held_drew (S := fun W_ => Fr (fun _ => False) wx W_) (by kernel_rfl) ((Fr.refl _ wx).drew) (fun hHeld => ?_)
   refine tl 0 ?v1 rfl ?q1 ?r1
   case q1 => intro W hSw; go_simp; try rfl
   refine tl 1 ?v2 rfl ?q2 ?r2
   case q2 => intro W hSw; (try obtain ⟨q0, q1, q2, q3⟩ := HCx.out W hSw); go_simp; try rfl
   refine tl 3 ?v3 rfl ?q3 ?r3
   case q3 => intro W hSw; go_simp; try rfl
   refine tl 4 ?v4 rfl ?q4 ?r4
   case q4 => intro W hSw; (try obtain ⟨q0, q1, q2, q3⟩ := HCx.out W hSw); go_simp; try rfl
   try simp only [Act.put, sA, sB, sC]
   refine rl 2 rfl (fun K hK => ?_)
   go_simp
   have hz1 := Lib.hid hHeld.size
   go_wp2_with (first | (go_at_call 12; refine (HLS.out _ hHeld).mono ?_; rintro r wa ⟨SB, sd, rfl, u1, u2, u3, u4, ba⟩))
   have U2 := Lib.hid u2
   have U3 := Lib.hid u3
   have U4 := Lib.hid u4
   clear u2 u3 u4
   refine hK.out _ _ (hHeld.trans (Fr.b0 ba) (fun _ h => h.elim)) (fun hHeld => ?_)
   clear hK K
   try simp only [Act.put, sA, sB, sC]
   refine rl 5 rfl (fun K hK => ?_)
   go_simp
   have hz2 := Lib.hid hHeld.size
   go_wp2_with (first | (go_at_call 13; refine (HLR.out _ hHeld).mono ?_; rintro r wb ⟨RB, rd, rfl, v1, v2, v3, v4, bb⟩))
   have V2 := Lib.hid v2
   have V3 := Lib.hid v3
   have V4 := Lib.hid v4
   have U5 := Lib.hid (U3.out.fr0 (Fr.b0 bb))
   clear v2 v3 v4
   refine hK.out _ _ (hHeld.trans (Fr.b0 bb) (fun _ h => h.elim)) (fun hHeld => ?_)
   clear hK K
   refine tl 6 ?v5 rfl ?q5 ?r5
   case q5 => intro W hSw; (try obtain ⟨q0, q1, q2, q3⟩ := HCx.out W hSw); go_simp; try rfl
   refine tl 7 ?v6 rfl ?q6 ?r6
   case q6 => intro W hSw; (try obtain ⟨q0, q1, q2, q3⟩ := HCx.out W hSw); go_simp; try rfl
   try simp only [Act.put, sA, sB, sC]
   refine wpAnyH_done (by kernel_rfl) ?_ _
   have Fxb := Lib.hid hHeld
   clear hHeld ba bb
   obtain ⟨Z, hZ⟩ : ∃ v, v = (fun j => w3.heap.size ≤ j ∧ (j < ob ∨ wb.heap.size ≤ j)) := ⟨_, rfl⟩
   have HZi : Hid (∀ j, Z j ↔ w3.heap.size ≤ j ∧ (j < ob ∨ wb.heap.size ≤ j)) := fun j => by rw [hZ]
   have F3b := Lib.hid (F3x.out.trans Fxb.out (fun _ h => h.elim))
   have HZ : Hid (∀ W, Fr Z wb W → Blk W ob 53 #[.int .i64 kd, .int .i64 nn, .slice sa sn sc, .slice la ln lc] ∧ Rd W 3 SB (sn + 1) (lentS sl) ∧ Rd W 7 RB (ln + 1) (lentR ll) ∧ Fr (fun _ => False) w3 W) := fun W f => by
    have s1 := Fxb.out.size
    have s2 := Sx.out
    have s3 := hz1.out
    have s4 := hz2.out
    refine ⟨(Bx.out.fr Fxb.out (fun h => h)).fr f (fun h => by have := (HZi.out _).1 h; omega), U5.out.fr f (fun j hj h => ?_), V3.out.fr f (fun j hj h => ?_), F3b.out.trans f (fun j h => .inr ((HZi.out _).1 h).1)⟩
    ·have h1 := U4.out j hj
     have h2 := U5.out.adlt (by decide) j hj
     have := (HZi.out _).1 h
     omega
    ·have h1 := V4.out j hj
     have h2 := V3.out.adlt (by decide) j hj
     have := (HZi.out _).1 h
     omega
   have HPS : Hid (∀ W, Rd W 3 SB (sn + 1) (lentS sl) → Rd W 3 SB sn (scells sl)) := fun W h => by
    have hl : (scells sl).length = sn * 3 := (HRs.out w (Fr.refl _ _)).1
    have := h.take (k := sn) (by omega)
    unfold lentS at this
    rwa [List.take_left' hl] at this
   have HPR : Hid (∀ W, Rd W 7 RB (ln + 1) (lentR ll) → Rd W 7 RB ln (rcells ll)) := fun W h => by
    have hl : (rcells ll).length = ln * 7 := (HRl.out w (Fr.refl _ _)).1
    have := h.take (k := ln) (by omega)
    unfold lentR at this
    rwa [List.take_left' hl] at this
   have HTb := Lib.hid (HT.out.fr0 (Fx.out.trans Fxb.out (fun _ h => h.elim)))
   have HK1 : Hid (∀ j, (K j ∨ wb.heap.size ≤ j) → Z j) := fun j hj => (HZi.out j).2 (by
    have s3 := F3b.out.size
    rcases hj with h | h
    ·have := HK.out j h
     omega
    ·omega)
   have HGd : Hid (GoodX nm l fl X (k * 40)) := by
    obtain ⟨F, T⟩ := HTb.out.one
    exact T.good
   have HCp := Lib.hid (tri_copy P.out HTb.out (by rw [Hlf.out]; omega))
   have FZb : Hid (Fr Z wb wb) := Fr.refl _ _
   clear hZ HT Hs Hl20 HLS HLR HCx
   go_wp2_with fail
   refine HCp.out.mono ?_
   rintro r w5c ⟨⟨u, rfl, hQ⟩, fc⟩
   have HQ5 := Lib.hid hQ
   have FZ5 : Hid (Fr Z wb w5c) := fc.mono (fun _ h => h.elim)
   have HSa : Hid (∀ W, Fr (fun _ => False) w5c W → Calls Tryz.prog 15 #[.pointer (some ⟨u, 0, none⟩), .pointer (some ⟨t, 0, none⟩)] W fun r w' => r = .returned (.bool true) ∧ Below W.heap.size W w') := fun W f => by
    obtain ⟨Fa, Ta⟩ := HQ5.out.one
    obtain ⟨Fb, Tb⟩ := HQ5.out.two
    have := tio_same P.out P.out (Tb.fr0 f) (Ta.fr0 f) (by omega) (by omega)
    rwa [sameX_self] at this
   have HSb : Hid (∀ W, Fr (fun _ => False) w5c W → Calls Tryz.prog 15 #[.pointer (some ⟨t, 0, none⟩), .pointer (some ⟨u, 0, none⟩)] W fun r w' => r = .returned (.bool true) ∧ Below W.heap.size W w') := fun W f => by
    obtain ⟨Fa, Ta⟩ := HQ5.out.one
    obtain ⟨Fb, Tb⟩ := HQ5.out.two
    have := tio_same P.out P.out (Ta.fr0 f) (Tb.fr0 f) (by omega) (by omega)
    rwa [sameX_self] at this
   clear hQ fc HCp
   go_wp2_with fail
   refine (HSa.out _ (Fr.refl _ _)).mono ?_
   rintro r w5d ⟨rfl, bd⟩
   have F5d : Hid (Fr (fun _ => False) w5c w5d) := Fr.b0 bd
   clear bd
   go_wp2_with fail
   refine (HSb.out _ F5d.out).mono ?_
   rintro r we ⟨rfl, be⟩
   have F5e := Lib.hid (F5d.out.trans (Fr.b0 be) (fun _ h => h.elim))
   have HQ := Lib.hid (HQ5.out.fr0 F5e.out)
   have FZ6 : Hid (Fr Z wb we) := FZ5.out.trans F5e.out (fun _ h => h.elim)
   clear be F5d F5e FZ5 HSa HSb HQ5
   have c0 := (HZ.out we FZ6.out).1.cell 0
   have c1 := (HZ.out we FZ6.out).1.cell 1
   simp only [List.getElem?_toArray, List.getElem?_cons_succ, List.getElem?_cons_zero] at c0 c1
   go_upto_block 2 with fail
   go_cut [16, 25, 26] from 90 to 265 (fun s16 s25 s26 wx => ∃ (W6 : World) (t' u' : Nat) (X' X2' : TiersX) (K' : Nat → Prop) (cb : Bool), W6 = wx ∧ s16 = .pointer (some ⟨t', 0, none⟩) ∧ s25 = .pointer (some ⟨u', 0, none⟩) ∧ s26 = .bool cb ∧ Quad nm l fl w3.heap.size wx t' u' g kb X' X2' X' K' ((k + 1) * 40) ∧ LowX X' ∧ (cb = false → X2' = X') ∧ (∀ j, K' j → Z j) ∧ Fr Z wb wx)
   case first =>
    by_cases hk1 : kd = 1
    ·subst hk1
     as_aux_lemma =>
      have HP1 := Lib.hid (quad_putT P.out HQ.out (by omega) sl SB sn sd (HPS.out _ (HZ.out we FZ6.out).2.1) Hsw.out)
      obtain ⟨pe, hpe⟩ : ∃ v, putE X sl = v := ⟨_, rfl⟩
      have Hpe := Lib.hid hpe
      rw [hpe] at HP1
      have hpn : (pe != pe) = false := by simp
      clear hpe
      go_wp2_with fail
      refine HP1.out.mono ?_
      rintro r w7 ⟨rfl, q7, f7⟩
      have FZ7 : Hid (Fr Z wb w7) := FZ6.out.trans f7 (fun i hi => .inl (HK1.out i hi))
      have F3w7 := Lib.hid (HZ.out w7 FZ7.out).2.2.2
      have FWw7 := Lib.hid (F3.out.trans F3w7.out (fun _ h => h.elim))
      have HP2 := Lib.hid (quad_putR P.out q7 (by omega) sl sa sn sc (HRs.out w7 FWw7.out) Hsw.out (by omega) (fun j hj => Nat.lt_of_lt_of_le (Hsa.out j hj) F3.out.size))
      have h3w7 := F3w7.out.size
      rw [Hpe.out] at HP2
      have c2 := (HZ.out w7 FZ7.out).1.cell 2
      simp only [List.getElem?_toArray, List.getElem?_cons_succ, List.getElem?_cons_zero] at c2
      clear f7 c0 c1 HP1 q7
      go_wp2_with fail
      refine HP2.out.mono ?_
      rintro r w8 ⟨rfl, q8, f8⟩
      have FZ8 : Hid (Fr Z wb w8) := FZ7.out.trans f8 (fun i hi => .inl (HK1.out i hi))
      have HQ8 := Lib.hid q8
      have HK8 : Hid (∀ j, ((K j ∨ wb.heap.size ≤ j) ∨ w7.heap.size ≤ j) → Z j) := fun j hj => by
       rcases hj with h | h
       ·exact HK1.out j h
       ·exact (HZi.out j).2 (by have := FZ7.out.size; omega)
      clear q8 f8 HP2 h3w7
      go_wp2_with fail
      try go_meet
      exact ⟨_, t, u, putX X sl, X, _, (pe == 0), rfl, rfl, rfl, rfl, HQ8.out.more (by omega), Hlow.out.put HGd.out sl, fun h => (put_same (by rw [Hpe.out]; simpa using h)).symm, HK8.out, FZ8.out⟩
    ·have hk2 : (kd == 1) = false := by simpa using hk1
     have hk3 : decide (kd = 1) = false := decide_eq_false hk1
     by_cases hk4 : kd = 2
     ·subst hk4
      obtain ⟨pe, hpe⟩ : ∃ v, tickE X nn = v := ⟨_, rfl⟩
      have Hpe := Lib.hid hpe
      have hpn : (pe != pe) = false := by simp
      by_cases hp0 : pe = 0
      case neg =>
       have hpb : (pe == 0) = false := by simpa using hp0
       as_aux_lemma =>
        have HP1 := Lib.hid (quad_tickT P.out HQ.out (by omega) nn hnn)
        rw [hpe] at HP1
        go_wp2_with fail
        refine HP1.out.mono ?_
        rintro r w7 ⟨rfl, q7, f7⟩
        have FZ7 : Hid (Fr Z wb w7) := FZ6.out.trans f7 (fun i hi => .inl (HK1.out i hi))
        have F3w7 := Lib.hid (HZ.out w7 FZ7.out).2.2.2
        have FWw7 := Lib.hid (F3.out.trans F3w7.out (fun _ h => h.elim))
        have HP2 := Lib.hid (quad_tickR P.out q7 (by omega) nn)
        have h3w7 := F3w7.out.size
        rw [hpe] at HP2
        have c1 := (HZ.out w7 FZ7.out).1.cell 1
        simp only [List.getElem?_toArray, List.getElem?_cons_succ, List.getElem?_cons_zero] at c1
        clear f7 HP1 q7
        go_wp2_with fail
        refine HP2.out.mono ?_
        rintro r w8 ⟨rfl, q8, f8⟩
        have FZ8 : Hid (Fr Z wb w8) := FZ7.out.trans f8 (fun i hi => .inl (HK1.out i hi))
        have HQ8 := Lib.hid q8
        have HK8 : Hid (∀ j, ((K j ∨ wb.heap.size ≤ j) ∨ w7.heap.size ≤ j) → Z j) := fun j hj => by
         rcases hj with h | h
         ·exact HK1.out j h
         ·exact (HZi.out j).2 (by have := FZ7.out.size; omega)
        clear q8 f8 HP2 h3w7
        go_wp2_with fail
        try go_meet
        exact ⟨_, t, u, tickX X nn, X, _, false, rfl, rfl, rfl, rfl, HQ8.out.more (by omega), Hlow.out.tick nn, fun _ => (tick_same2 (by rw [Hpe.out]; exact hp0)).symm, HK8.out, FZ8.out⟩
      case pos =>
      subst hp0
      by_cases hn0 : 0 < nn
      ·have hnd : decide ((0 : Int) < nn) = true := decide_eq_true hn0
       as_aux_lemma =>
        have HP1 := Lib.hid (quad_tickT P.out HQ.out (by omega) nn hnn)
        rw [hpe] at HP1
        go_wp2_with fail
        refine HP1.out.mono ?_
        rintro r w7 ⟨rfl, q7, f7⟩
        have FZ7 : Hid (Fr Z wb w7) := FZ6.out.trans f7 (fun i hi => .inl (HK1.out i hi))
        have F3w7 := Lib.hid (HZ.out w7 FZ7.out).2.2.2
        have FWw7 := Lib.hid (F3.out.trans F3w7.out (fun _ h => h.elim))
        have HP2 := Lib.hid (quad_tickR P.out q7 (by omega) nn)
        have h3w7 := F3w7.out.size
        rw [hpe] at HP2
        have c1 := (HZ.out w7 FZ7.out).1.cell 1
        simp only [List.getElem?_toArray, List.getElem?_cons_succ, List.getElem?_cons_zero] at c1
        clear f7 HP1 q7
        go_wp2_with fail
        refine HP2.out.mono ?_
        rintro r w8 ⟨rfl, q8, f8⟩
        have FZ8 : Hid (Fr Z wb w8) := FZ7.out.trans f8 (fun i hi => .inl (HK1.out i hi))
        have HQ8 := Lib.hid q8
        have HK8 : Hid (∀ j, ((K j ∨ wb.heap.size ≤ j) ∨ w7.heap.size ≤ j) → Z j) := fun j hj => by
         rcases hj with h | h
         ·exact HK1.out j h
         ·exact (HZi.out j).2 (by have := FZ7.out.size; omega)
        clear q8 f8 HP2 h3w7
        go_wp2_with fail
        try go_meet
        exact ⟨_, t, u, tickX X nn, X, _, true, rfl, rfl, rfl, rfl, HQ8.out.more (by omega), Hlow.out.tick nn, fun h => (by cases h), HK8.out, FZ8.out⟩
      ·have hnd : decide ((0 : Int) < nn) = false := decide_eq_false hn0
       as_aux_lemma =>
        have HP1 := Lib.hid (quad_tickT P.out HQ.out (by omega) nn hnn)
        rw [hpe] at HP1
        go_wp2_with fail
        refine HP1.out.mono ?_
        rintro r w7 ⟨rfl, q7, f7⟩
        have FZ7 : Hid (Fr Z wb w7) := FZ6.out.trans f7 (fun i hi => .inl (HK1.out i hi))
        have F3w7 := Lib.hid (HZ.out w7 FZ7.out).2.2.2
        have FWw7 := Lib.hid (F3.out.trans F3w7.out (fun _ h => h.elim))
        have HP2 := Lib.hid (quad_tickR P.out q7 (by omega) nn)
        have h3w7 := F3w7.out.size
        rw [hpe] at HP2
        have c1 := (HZ.out w7 FZ7.out).1.cell 1
        simp only [List.getElem?_toArray, List.getElem?_cons_succ, List.getElem?_cons_zero] at c1
        clear f7 HP1 q7
        go_wp2_with fail
        refine HP2.out.mono ?_
        rintro r w8 ⟨rfl, q8, f8⟩
        have FZ8 : Hid (Fr Z wb w8) := FZ7.out.trans f8 (fun i hi => .inl (HK1.out i hi))
        have HQ8 := Lib.hid q8
        have HK8 : Hid (∀ j, ((K j ∨ wb.heap.size ≤ j) ∨ w7.heap.size ≤ j) → Z j) := fun j hj => by
         rcases hj with h | h
         ·exact HK1.out j h
         ·exact (HZi.out j).2 (by have := FZ7.out.size; omega)
        clear q8 f8 HP2 h3w7
        go_wp2_with fail
        try go_meet
        exact ⟨_, t, u, tickX X nn, X, _, false, rfl, rfl, rfl, rfl, HQ8.out.more (by omega), Hlow.out.tick nn, fun _ => by
         have h1 := Hpe.out
         unfold tickE at h1
         have : nn = 0 := by
          by_cases e : nn < 0
          ·rw [if_pos e] at h1; cases h1
          ·omega
         rw [this]
         exact (tick_same Hlow.out HGd.out).symm, HK8.out, FZ8.out⟩
     ·have hk5 : (kd == 2) = false := by simpa using hk4
      have hk6 : decide (kd = 2) = false := decide_eq_false hk4
      by_cases hk7 : kd = 3
      ·subst hk7
       as_aux_lemma =>
        have HP1 := Lib.hid (quad_loadT P.out HQ.out (by omega) nn ll RB ln rd (HPR.out _ (HZ.out we FZ6.out).2.2.1) Hlw.out (by omega))
        obtain ⟨M, hM⟩ : ∃ v, loadM X nn ll = v := ⟨_, rfl⟩
        have HM := Lib.hid hM
        rw [hM] at HP1
        have hpn : ((M : Int) != (M : Int)) = false := by simp
        clear hM
        go_wp2_with fail
        refine HP1.out.mono ?_
        rintro r w7 ⟨rfl, q7, f7⟩
        have FZ7 : Hid (Fr Z wb w7) := FZ6.out.trans f7 (fun i hi => .inl (HK1.out i hi))
        have F3w7 := Lib.hid (HZ.out w7 FZ7.out).2.2.2
        have FWw7 := Lib.hid (F3.out.trans F3w7.out (fun _ h => h.elim))
        have HP2 := Lib.hid (quad_loadR P.out q7 (by omega) nn ll la ln lc (HRl.out w7 FWw7.out) Hlw.out (by omega) (fun j hj => Nat.lt_of_lt_of_le (Hla.out j hj) F3.out.size))
        have h3w7 := F3w7.out.size
        rw [HM.out] at HP2
        have c1 := (HZ.out w7 FZ7.out).1.cell 1
        have c3 := (HZ.out w7 FZ7.out).1.cell 3
        simp only [List.getElem?_toArray, List.getElem?_cons_succ, List.getElem?_cons_zero] at c1 c3
        clear f7 HP1 q7
        go_wp2_with fail
        refine HP2.out.mono ?_
        rintro r w8 ⟨rfl, q8, f8⟩
        have FZ8 : Hid (Fr Z wb w8) := FZ7.out.trans f8 (fun i hi => .inl (HK1.out i hi))
        have HQ8 := Lib.hid q8
        have HK8 : Hid (∀ j, ((K j ∨ wb.heap.size ≤ j) ∨ w7.heap.size ≤ j) → Z j) := fun j hj => by
         rcases hj with h | h
         ·exact HK1.out j h
         ·exact (HZi.out j).2 (by have := FZ7.out.size; omega)
        clear q8 f8 HP2 h3w7
        go_wp2_with fail
        try go_meet
        exact ⟨_, t, u, loadI X nn ll, X, _, decide (0 < M), rfl, rfl, rfl, rfl, HQ8.out.more (by omega), Hlow.out.load HGd.out nn ll, fun h => (load_same (by rw [HM.out]; have := of_decide_eq_false h; omega)).symm, HK8.out, FZ8.out⟩
      ·have hk8 : (kd == 3) = false := by simpa using hk7
       have hk9 : decide (kd = 3) = false := decide_eq_false hk7
       go_wp2_with fail
       ·try go_meet
        exact ⟨_, u, t, X, X, _, false, rfl, rfl, rfl, rfl, HQ.out.swap.more (by omega), Hlow.out, fun _ => rfl, HK1.out, FZ6.out⟩
       ·refine (quad_tickT P.out HQ.out.swap (by omega) 5 (by unfold i64; omega)).mono ?_
        rintro r w7 ⟨rfl, q7, f7⟩
        have FZ7 : Hid (Fr Z wb w7) := FZ6.out.trans f7 (fun i hi => .inl (HK1.out i hi))
        have HP2 := Lib.hid (quad_copy P.out q7.swap (by rw [Hlf.out]; omega))
        clear f7 q7 c0 c1
        go_wp2_with fail
        refine HP2.out.mono ?_
        rintro r w8 ⟨⟨u8, rfl, q8⟩, f8⟩
        have FZ8 : Hid (Fr Z wb w8) := FZ7.out.trans f8 (fun i hi => hi.elim)
        have HQ8 := Lib.hid q8
        have HK8 : Hid (∀ j, ((K j ∨ wb.heap.size ≤ j) ∨ w7.heap.size ≤ j) → Z j) := fun j hj => by
         rcases hj with h | h
         ·exact HK1.out j h
         ·exact (HZi.out j).2 (by have := FZ7.out.size; have := F3b.out.size; omega)
        clear q8 f8 HP2
        go_wp2_with fail
        try go_meet
        exact ⟨_, t, u8, X, X, _, false, rfl, rfl, rfl, rfl, HQ8.out.more (by omega), Hlow.out, fun _ => rfl, HK8.out, FZ8.out⟩
   case rest =>
   obtain ⟨w9, t9, u9, X9, X2, K9, cb, rfl, rfl, rfl, rfl, q9, hlow9, hcb, hK9, fz9⟩ := hcut
   have HQ9 := Lib.hid q9
   have HLow9 := Lib.hid hlow9
   have FZ9 := Lib.hid fz9
   have HCb := Lib.hid hcb
   have Z9 := Lib.hid (HZ.out w9 fz9)
   have F39 := Lib.hid Z9.out.2.2.2
   have FW9 := Lib.hid (F3.out.trans F39.out (fun _ h => h.elim))
   have HG9 : Hid (GoodX nm l fl X9 ((k + 1) * 40)) := by
    obtain ⟨F, T⟩ := q9.one
    exact T.good
   clear q9 hlow9 hcb hK9 fz9 HQ HGd Hlow HK1 HTb c0 c1 FZ6 FZb HK
   have HC9 : Hid (∀ W, Fr (fun _ => False) w9 W → W.cell? ⟨w.heap.size, 1, none⟩ = some (.slice A n c) ∧ W.cell? ⟨ob, 2, none⟩ = some (.slice sa sn sc) ∧ W.cell? ⟨ob, 3, none⟩ = some (.slice la ln lc)) := fun W f => by
    have b := Z9.out.1.fr f (fun h => h)
    have b2 := B3.out.fr (F39.out.trans f (fun _ h => h.elim)) (fun h => h)
    exact ⟨b2.cell 1, b.cell 2, b.cell 3⟩
   have HSx : Hid (∀ W, Fr (fun _ => False) w9 W → Calls Tryz.prog 15 #[.pointer (some ⟨t9, 0, none⟩), .pointer (some ⟨u9, 0, none⟩)] W fun r w' => r = .returned (.bool (sameX X9 X2)) ∧ Below W.heap.size W w') := fun W f => by
    obtain ⟨Fa, Ta⟩ := HQ9.out.one
    obtain ⟨Fb, Tb⟩ := HQ9.out.two
    exact tio_same P.out P.out (Ta.fr0 f) (Tb.fr0 f) (by omega) (by omega)
   have HAk : Hid (∀ W, Fr (fun _ => False) w9 W → Calls Tryz.prog 22 #[.pointer (some ⟨t9, 0, none⟩), .pointer (some ⟨u9, 0, none⟩), .int .i64 (n : Nat)] W fun r w' => r = .returned (.bool (sameX X9 X2)) ∧ Below W.heap.size W w') := fun W f => by
    obtain ⟨Fa, Ta⟩ := HQ9.out.one
    obtain ⟨Fb, Tb⟩ := HQ9.out.two
    have := alike_any P.out (Ta.fr0 f) (Tb.fr0 f) (by omega)
    rwa [Hll.out] at this
   have HSs : Hid (∀ W, Fr (fun _ => False) w9 W → Calls Tryz.prog 23 #[.slice SB sn sd, .slice sa sn sc] W fun r w' => r = .returned (.bool true) ∧ Below W.heap.size W w') := fun W f => staysS_any sl SB sn sd sa sc W (Z9.out.2.1.fr0 f) (HRs.out W (FW9.out.trans f (fun _ h => h.elim))) u1 U2.out (by omega)
   have HSr : Hid (∀ W, Fr (fun _ => False) w9 W → Calls Tryz.prog 24 #[.slice RB ln rd, .slice la ln lc] W fun r w' => r = .returned (.bool true) ∧ Below W.heap.size W w') := fun W f => staysR_any ll RB ln rd la lc W (Z9.out.2.2.1.fr0 f) (HRl.out W (FW9.out.trans f (fun _ h => h.elim))) v1 V2.out (by omega)
   have HCs : Hid (cb = false → sameX X9 X2 = true) := fun h => by rw [HCb.out h]; exact sameX_self _
   obtain ⟨sm, hsm⟩ : ∃ v, sameX X9 X2 = v := ⟨_, rfl⟩
   rw [hsm] at HSx HAk HCs
   have hsn : (sm != sm) = false := by cases sm <;> rfl
   clear hsm HCb
   go_upto_region 40 with fail
   go_cut [220] from 183 to 265 (fun s220 wx => ∃ W6 : World, W6 = wx ∧ s220 = .bool false ∧ Fr (fun _ => False) w9 wx)
   case first =>
    cases cb with
    | true =>
     as_aux_lemma =>
      refine wp_region_held_drew (S := fun W_ => Fr (fun _ => False) w9 W_) (by kernel_rfl) ((Fr.refl _ w9).drew) (fun hHeld => ?_)
      refine tl 0 ?v7 rfl ?q7 ?r7
      case q7 => intro W hSw; go_simp; try rfl
      refine tl 1 ?v8 rfl ?q8 ?r8
      case q8 => intro W hSw; (try obtain ⟨q0, q1, q2⟩ := HC9.out W hSw); go_simp; try rfl
      refine tl 2 ?v9 rfl ?q9 ?r9
      case q9 => intro W hSw; go_simp; try rfl
      try simp only [Act.put, sA, sB, sC]
      refine tl 3 ?v10 rfl ?q10 ?r10
      case q10 => intro W hSw; go_simp; try rfl
      try simp only [Act.put, sA, sB, sC]
      refine tl 4 ?v11 rfl ?q11 ?r11
      case q11 => intro W hSw; go_simp; try rfl
      try simp only [Act.put, sA, sB, sC]
      refine tl 5 ?v12 rfl ?q12 ?r12
      case q12 => intro W hSw; go_simp; try rfl
      try simp only [Act.put, sA, sB, sC]
      refine tu 6 rfl ?_
      try simp only [Act.put, sA, sB, sC]
      refine tu 7 rfl ?_
      try simp only [Act.put, sA, sB, sC]
      refine tu 8 rfl ?_
      try simp only [Act.put, sA, sB, sC]
      refine tu 9 rfl ?_
      try simp only [Act.put, sA, sB, sC]
      refine tl 10 ?v13 rfl ?q13 ?r13
      case q13 => intro W hSw; go_simp; try rfl
      refine tl 11 ?v14 rfl ?q14 ?r14
      case q14 => intro W hSw; go_simp; try rfl
      refine tl 12 ?v15 rfl ?q15 ?r15
      case q15 => intro W hSw; go_simp; try rfl
      try simp only [Act.put, sA, sB, sC]
      refine tl 13 ?v16 rfl ?q16 ?r16
      case q16 => intro W hSw; go_simp; try rfl
      try simp only [Act.put, sA, sB, sC]
      refine tl 14 ?v17 rfl ?q17 ?r17
      case q17 => intro W hSw; go_simp; try rfl
      try simp only [Act.put, sA, sB, sC]
      refine tl 16 ?v18 rfl ?q18 ?r18
      case q18 => intro W hSw; go_simp; try rfl
      try simp only [Act.put, sA, sB, sC]
      refine tl 17 ?v19 rfl ?q19 ?r19
      case q19 => intro W hSw; go_simp; try rfl
      try simp only [Act.put, sA, sB, sC]
      refine tl 18 ?v20 rfl ?q20 ?r20
      case q20 => intro W hSw; go_simp; try rfl
      try simp only [Act.put, sA, sB, sC]
      refine tl 19 ?v21 rfl ?q21 ?r21
      case q21 => intro W hSw; (try obtain ⟨q0, q1, q2⟩ := HC9.out W hSw); go_simp; try rfl
      try simp only [Act.put, sA, sB, sC]
      refine tl 20 ?v22 rfl ?q22 ?r22
      case q22 => intro W hSw; (try obtain ⟨q0, q1, q2⟩ := HC9.out W hSw); go_simp; try rfl
      try simp only [Act.put, sA, sB, sC]
      refine rl 15 rfl (fun K hK => ?_)
      go_simp
      go_wp2_with (first | (go_at_call 15; refine (HSx.out _ hHeld).mono ?_; rintro r wf2 ⟨rfl, bf2⟩))
      refine hK.out _ _ (hHeld.trans (Fr.b0 bf2) (fun _ h => h.elim)) (fun hHeld => ?_)
      clear hK K
      try simp only [Act.put, sA, sB, sC]
      refine rl 21 rfl (fun K hK => ?_)
      go_simp
      go_wp2_with (first | (go_at_call 22; refine (HAk.out _ hHeld).mono ?_; rintro r wf3 ⟨rfl, bf3⟩))
      refine hK.out _ _ (hHeld.trans (Fr.b0 bf3) (fun _ h => h.elim)) (fun hHeld => ?_)
      clear hK K
      try simp only [Act.put, sA, sB, sC]
      refine tl 22 ?v23 rfl ?q23 ?r23
      case q23 => intro W hSw; (try obtain ⟨q0, q1, q2⟩ := HC9.out W hSw); go_simp; try rfl
      refine tl 23 ?v24 rfl ?q24 ?r24
      case q24 => intro W hSw; go_simp; try rfl
      refine tl 24 ?v25 rfl ?q25 ?r25
      case q25 => intro W hSw; go_simp; try rfl
      try simp only [Act.put, sA, sB, sC]
      refine tl 25 ?v26 rfl ?q26 ?r26
      case q26 => intro W hSw; go_simp; try rfl
      try simp only [Act.put, sA, sB, sC]
      refine tl 26 ?v27 rfl ?q27 ?r27
      case q27 => intro W hSw; go_simp; try rfl
      try simp only [Act.put, sA, sB, sC]
      refine tl 27 ?v28 rfl ?q28 ?r28
      case q28 => intro W hSw; (try obtain ⟨q0, q1, q2⟩ := HC9.out W hSw); go_simp; try rfl
      try simp only [Act.put, sA, sB, sC]
      refine rl 28 rfl (fun K hK => ?_)
      go_simp
      go_wp2_with (first | (go_at_call 23; refine (HSs.out _ hHeld).mono ?_; rintro r wf4 ⟨rfl, bf4⟩))
      refine hK.out _ _ (hHeld.trans (Fr.b0 bf4) (fun _ h => h.elim)) (fun hHeld => ?_)
      clear hK K
      try simp only [Act.put, sA, sB, sC]
      refine tl 29 ?v29 rfl ?q29 ?r29
      case q29 => intro W hSw; go_simp; try rfl
      refine tl 30 ?v30 rfl ?q30 ?r30
      case q30 => intro W hSw; go_simp; try rfl
      refine tl 31 ?v31 rfl ?q31 ?r31
      case q31 => intro W hSw; go_simp; try rfl
      try simp only [Act.put, sA, sB, sC]
      refine tl 32 ?v32 rfl ?q32 ?r32
      case q32 => intro W hSw; go_simp; try rfl
      try simp only [Act.put, sA, sB, sC]
      refine tl 33 ?v33 rfl ?q33 ?r33
      case q33 => intro W hSw; go_simp; try rfl
      try simp only [Act.put, sA, sB, sC]
      refine tl 34 ?v34 rfl ?q34 ?r34
      case q34 => intro W hSw; (try obtain ⟨q0, q1, q2⟩ := HC9.out W hSw); go_simp; try rfl
      try simp only [Act.put, sA, sB, sC]
      refine rl 35 rfl (fun K hK => ?_)
      go_simp
      go_wp2_with (first | (go_at_call 24; refine (HSr.out _ hHeld).mono ?_; rintro r wf5 ⟨rfl, bf5⟩))
      refine hK.out _ _ (hHeld.trans (Fr.b0 bf5) (fun _ h => h.elim)) (fun hHeld => ?_)
      clear hK K
      try simp only [Act.put, sA, sB, sC]
      refine tl 36 ?v35 rfl ?q35 ?r35
      case q35 => intro W hSw; go_simp; try rfl
      refine tl 37 ?v36 rfl ?q36 ?r36
      case q36 => intro W hSw; go_simp; try rfl
      try simp only [Act.put, sA, sB, sC]
      refine wpAnyH_done (by kernel_rfl) ?_ _
      have F40 := Lib.hid hHeld
      clear hHeld
      go_wp2_with fail
      try go_meet
      exact ⟨_, rfl, rfl, F40.out⟩
    | false =>
     obtain rfl := HCs.out rfl
     as_aux_lemma =>
      refine wp_region_held_drew (S := fun W_ => Fr (fun _ => False) w9 W_) (by kernel_rfl) ((Fr.refl _ w9).drew) (fun hHeld => ?_)
      refine tl 0 ?v37 rfl ?q37 ?r37
      case q37 => intro W hSw; go_simp; try rfl
      refine tl 1 ?v38 rfl ?q38 ?r38
      case q38 => intro W hSw; (try obtain ⟨q0, q1, q2⟩ := HC9.out W hSw); go_simp; try rfl
      refine tl 2 ?v39 rfl ?q39 ?r39
      case q39 => intro W hSw; go_simp; try rfl
      try simp only [Act.put, sA, sB, sC]
      refine tl 3 ?v40 rfl ?q40 ?r40
      case q40 => intro W hSw; go_simp; try rfl
      try simp only [Act.put, sA, sB, sC]
      refine tl 4 ?v41 rfl ?q41 ?r41
      case q41 => intro W hSw; go_simp; try rfl
      try simp only [Act.put, sA, sB, sC]
      refine tl 5 ?v42 rfl ?q42 ?r42
      case q42 => intro W hSw; go_simp; try rfl
      try simp only [Act.put, sA, sB, sC]
      refine tl 6 ?v43 rfl ?q43 ?r43
      case q43 => intro W hSw; go_simp; try rfl
      try simp only [Act.put, sA, sB, sC]
      refine tl 7 ?v44 rfl ?q44 ?r44
      case q44 => intro W hSw; go_simp; try rfl
      try simp only [Act.put, sA, sB, sC]
      refine rl 8 rfl (fun K hK => ?_)
      go_simp
      go_wp2_with (first | (go_at_call 15; refine (HSx.out _ hHeld).mono ?_; rintro r wf1 ⟨rfl, bf1⟩))
      refine hK.out _ _ (hHeld.trans (Fr.b0 bf1) (fun _ h => h.elim)) (fun hHeld => ?_)
      clear hK K
      try simp only [Act.put, sA, sB, sC]
      refine tl 9 ?v45 rfl ?q45 ?r45
      case q45 => intro W hSw; go_simp; try rfl
      try simp only [Act.put, sA, sB, sC]
      refine tl 10 ?v46 rfl ?q46 ?r46
      case q46 => intro W hSw; go_simp; try rfl
      refine tl 11 ?v47 rfl ?q47 ?r47
      case q47 => intro W hSw; go_simp; try rfl
      refine tl 12 ?v48 rfl ?q48 ?r48
      case q48 => intro W hSw; go_simp; try rfl
      try simp only [Act.put, sA, sB, sC]
      refine tl 13 ?v49 rfl ?q49 ?r49
      case q49 => intro W hSw; go_simp; try rfl
      try simp only [Act.put, sA, sB, sC]
      refine tl 14 ?v50 rfl ?q50 ?r50
      case q50 => intro W hSw; go_simp; try rfl
      try simp only [Act.put, sA, sB, sC]
      refine tl 16 ?v51 rfl ?q51 ?r51
      case q51 => intro W hSw; go_simp; try rfl
      try simp only [Act.put, sA, sB, sC]
      refine tl 17 ?v52 rfl ?q52 ?r52
      case q52 => intro W hSw; go_simp; try rfl
      try simp only [Act.put, sA, sB, sC]
      refine tl 18 ?v53 rfl ?q53 ?r53
      case q53 => intro W hSw; go_simp; try rfl
      try simp only [Act.put, sA, sB, sC]
      refine tl 19 ?v54 rfl ?q54 ?r54
      case q54 => intro W hSw; (try obtain ⟨q0, q1, q2⟩ := HC9.out W hSw); go_simp; try rfl
      try simp only [Act.put, sA, sB, sC]
      refine tl 20 ?v55 rfl ?q55 ?r55
      case q55 => intro W hSw; (try obtain ⟨q0, q1, q2⟩ := HC9.out W hSw); go_simp; try rfl
      try simp only [Act.put, sA, sB, sC]
      refine rl 15 rfl (fun K hK => ?_)
      go_simp
      go_wp2_with (first | (go_at_call 15; refine (HSx.out _ hHeld).mono ?_; rintro r wf2 ⟨rfl, bf2⟩))
      refine hK.out _ _ (hHeld.trans (Fr.b0 bf2) (fun _ h => h.elim)) (fun hHeld => ?_)
      clear hK K
      try simp only [Act.put, sA, sB, sC]
      refine rl 21 rfl (fun K hK => ?_)
      go_simp
      go_wp2_with (first | (go_at_call 22; refine (HAk.out _ hHeld).mono ?_; rintro r wf3 ⟨rfl, bf3⟩))
      refine hK.out _ _ (hHeld.trans (Fr.b0 bf3) (fun _ h => h.elim)) (fun hHeld => ?_)
      clear hK K
      try simp only [Act.put, sA, sB, sC]
      refine tl 22 ?v56 rfl ?q56 ?r56
      case q56 => intro W hSw; (try obtain ⟨q0, q1, q2⟩ := HC9.out W hSw); go_simp; try rfl
      refine tl 23 ?v57 rfl ?q57 ?r57
      case q57 => intro W hSw; go_simp; try rfl
      refine tl 24 ?v58 rfl ?q58 ?r58
      case q58 => intro W hSw; go_simp; try rfl
      try simp only [Act.put, sA, sB, sC]
      refine tl 25 ?v59 rfl ?q59 ?r59
      case q59 => intro W hSw; go_simp; try rfl
      try simp only [Act.put, sA, sB, sC]
      refine tl 26 ?v60 rfl ?q60 ?r60
      case q60 => intro W hSw; go_simp; try rfl
      try simp only [Act.put, sA, sB, sC]
      refine tl 27 ?v61 rfl ?q61 ?r61
      case q61 => intro W hSw; (try obtain ⟨q0, q1, q2⟩ := HC9.out W hSw); go_simp; try rfl
      try simp only [Act.put, sA, sB, sC]
      refine rl 28 rfl (fun K hK => ?_)
      go_simp
      go_wp2_with (first | (go_at_call 23; refine (HSs.out _ hHeld).mono ?_; rintro r wf4 ⟨rfl, bf4⟩))
      refine hK.out _ _ (hHeld.trans (Fr.b0 bf4) (fun _ h => h.elim)) (fun hHeld => ?_)
      clear hK K
      try simp only [Act.put, sA, sB, sC]
      refine tl 29 ?v62 rfl ?q62 ?r62
      case q62 => intro W hSw; go_simp; try rfl
      refine tl 30 ?v63 rfl ?q63 ?r63
      case q63 => intro W hSw; go_simp; try rfl
      refine tl 31 ?v64 rfl ?q64 ?r64
      case q64 => intro W hSw; go_simp; try rfl
      try simp only [Act.put, sA, sB, sC]
      refine tl 32 ?v65 rfl ?q65 ?r65
      case q65 => intro W hSw; go_simp; try rfl
      try simp only [Act.put, sA, sB, sC]
      refine tl 33 ?v66 rfl ?q66 ?r66
      case q66 => intro W hSw; go_simp; try rfl
      try simp only [Act.put, sA, sB, sC]
      refine tl 34 ?v67 rfl ?q67 ?r67
      case q67 => intro W hSw; (try obtain ⟨q0, q1, q2⟩ := HC9.out W hSw); go_simp; try rfl
      try simp only [Act.put, sA, sB, sC]
      refine rl 35 rfl (fun K hK => ?_)
      go_simp
      go_wp2_with (first | (go_at_call 24; refine (HSr.out _ hHeld).mono ?_; rintro r wf5 ⟨rfl, bf5⟩))
      refine hK.out _ _ (hHeld.trans (Fr.b0 bf5) (fun _ h => h.elim)) (fun hHeld => ?_)
      clear hK K
      try simp only [Act.put, sA, sB, sC]
      refine tl 36 ?v68 rfl ?q68 ?r68
      case q68 => intro W hSw; go_simp; try rfl
      refine tl 37 ?v69 rfl ?q69 ?r69
      case q69 => intro W hSw; go_simp; try rfl
      try simp only [Act.put, sA, sB, sC]
      refine wpAnyH_done (by kernel_rfl) ?_ _
      have F40 := Lib.hid hHeld
      clear hHeld
      go_wp2_with fail
      try go_meet
      exact ⟨_, rfl, rfl, F40.out⟩
   case rest =>
   as_aux_lemma =>
   obtain ⟨wf, rfl, rfl, f40⟩ := hcut
   have HQf := Lib.hid (HQ9.out.fr0 f40)
   have F9f := Lib.hid f40
   obtain ⟨K2, hq2, hK2⟩ := HQf.out.tight
   have HQ2 := Lib.hid hq2
   have HK2 := Lib.hid hK2
   have HLn : Hid ((ansL X9 s fr tt).length ≤ 100000) := by
    show _ ≤ _
    have h1 := ansL_len (X := X9) (s := s) (fr := fr) (tt := tt) HG9.out.len
    omega
   have HA1 : Hid (Calls Tryz.prog 25 #[.pointer (some ⟨t9, 0, none⟩), .string s, .int .i64 fr, .int .i64 tt] wf fun r w' => AnsR X9 s fr tt wf r w' ∧ Below wf.heap.size wf w') := by
    obtain ⟨Fa, Ta⟩ := HQf.out.one
    refine (tio_ask P.out Ta (by omega) s Hsz.out fr tt).mono ?_
    rintro r w' ⟨h1, h2⟩
    exact ⟨ans_of h1, h2⟩
   have HA2 : Hid (∀ W, Fr (fun _ => False) wf W → Calls Tryz.prog 26 #[.pointer (some ⟨g, 0, none⟩), .string s, .int .i64 fr, .int .i64 tt] W fun r w' => AnsR X9 s fr tt W r w' ∧ Below W.heap.size W w') := fun W f => by
    obtain ⟨F0r, rA, rc, rB, rd, rT, rct, rP, hRR⟩ := HQf.out.ref
    have ht : X9.tiers = l := HG9.out.tiers
    refine (rask_any g _ F0r X9 rA rc rB rd rT rct rP s Hsz.out fr tt W (hRR.fr0 f) (by rw [ht]; exact P.out.pos) (by rw [ht]; have := P.out.five; omega) (fun y hy => by have := HG9.out.len y hy; omega) HG9.out.now (by rw [ht]; exact P.out.wf)).mono ?_
    rintro r w' ⟨h1, h2⟩
    exact ⟨ans_of h1, h2⟩
   obtain ⟨tv, htv⟩ : ∃ v, ansT X9 s fr tt = v := ⟨_, rfl⟩
   obtain ⟨ev, hev⟩ : ∃ v, ansE s fr tt = v := ⟨_, rfl⟩
   obtain ⟨LL, hLL⟩ : ∃ v, ansL X9 s fr tt = v := ⟨_, rfl⟩
   have HAn : Hid (∀ W r w', AnsR X9 s fr tt W r w' → ∃ A c, r = .returned (.tuple #[.agg #[.int .i64 tv, .slice A LL.length c], .int .i64 ev]) ∧ w'.ownsRow W.heap.size 100 7 (.slice A LL.length c) LL.length (rcells LL)) := fun W r w' h => by
    unfold AnsR at h
    rwa [htv, hev, hLL] at h
   rw [hLL] at HLn
   have htn : (tv != tv) = false := by simp
   have hen : (ev != ev) = false := by simp
   clear htv hev hLL f40 hq2 hK2 HC9 HSx HAk HSs HSr HCs hsn
   go_wp2_with fail
   refine HA1.out.mono ?_
   rintro r wg ⟨ha, bg⟩
   obtain ⟨A1, c1, rfl, o1⟩ := HAn.out _ _ _ ha
   have O1 := Lib.hid o1
   have Ffg : Hid (Fr (fun _ => False) wf wg) := Fr.b0 bg
   obtain ⟨b1, hb1⟩ : ∃ v, wg.heap.size = v := ⟨_, rfl⟩
   obtain ⟨wh, hwh⟩ : ∃ v, v = wg.alloc (.cells #[.int .i64 tv, .slice A1 LL.length c1] 67) := ⟨_, rfl⟩
   have HWh := Lib.hid hwh
   have Bh : Hid (Blk wh b1 67 #[.int .i64 tv, .slice A1 LL.length c1]) := by show Blk _ _ _ _; rw [hwh]; exact Blk.new' hb1.symm _ _
   have Fgh : Hid (Fr (fun _ => False) wg wh) := by show Fr _ _ _; rw [hwh]; exact Fr.none_alloc _ _
   have Ffh := Lib.hid (Ffg.out.trans Fgh.out (fun _ h => h.elim))
   have HB1 : Hid (wf.heap.size ≤ b1) := by show _ ≤ _; rw [← hb1]; exact Ffg.out.size
   clear hwh bg ha o1 HA1
   go_wp2_with fail
   rw [← HWh.out]
   refine (HA2.out _ Ffh.out).mono ?_
   rintro r wi ⟨ha, bi⟩
   obtain ⟨A2, c2, rfl, o2⟩ := HAn.out _ _ _ ha
   have O2 := Lib.hid o2
   have Fhi : Hid (Fr (fun _ => False) wh wi) := Fr.b0 bi
   obtain ⟨b2, hb2⟩ : ∃ v, wi.heap.size = v := ⟨_, rfl⟩
   obtain ⟨wj, hwj⟩ : ∃ v, v = wi.alloc (.cells #[.int .i64 tv, .slice A2 LL.length c2] 67) := ⟨_, rfl⟩
   have HWj := Lib.hid hwj
   have Bj : Hid (Blk wj b2 67 #[.int .i64 tv, .slice A2 LL.length c2]) := by show Blk _ _ _ _; rw [hwj]; exact Blk.new' hb2.symm _ _
   have Fij : Hid (Fr (fun _ => False) wi wj) := by show Fr _ _ _; rw [hwj]; exact Fr.none_alloc _ _
   have Fhj := Lib.hid (Fhi.out.trans Fij.out (fun _ h => h.elim))
   have Ffj := Lib.hid (Ffh.out.trans Fhj.out (fun _ h => h.elim))
   have HB2 : Hid (wf.heap.size ≤ b2) := by show _ ≤ _; rw [← hb2]; exact (Ffh.out.trans Fhi.out (fun _ h => h.elim)).size
   have O1j := Lib.hid (own_fr0 O1.out (Fgh.out.trans Fhj.out (fun _ h => h.elim)))
   have O2j := Lib.hid (own_le (own_fr0 O2.out Fij.out) Ffh.out.size)
   have HRc := Lib.hid (quad_rec HQ2.out Ffj.out LL A1 LL.length c1 O1j.out HLn.out)
   have Bhj := Lib.hid (Bh.out.fr Fhj.out (fun h => h))
   have d1 := Bhj.out.cell 1
   simp only [List.getElem?_toArray, List.getElem?_cons_succ, List.getElem?_cons_zero] at d1
   clear hwj bi ha o2 HA2 HAn
   go_upto_region 44 with fail
   rw [← HWj.out]
   go_wp2_with fail
   refine HRc.out.mono ?_
   rintro r wk ⟨rfl, qk, fk⟩
   have HQk := Lib.hid qk
   have Fk := Lib.hid fk
   have hoff : ∀ j, wf.heap.size ≤ j → ¬ K2 j := fun j hj hk => by have := (HK2.out j hk).2; omega
   have B1k := Bhj.out.fr fk (hoff b1 HB1.out)
   have B2k := Bj.out.fr fk (hoff b2 HB2.out)
   have x0 := B1k.cell 0
   have x1 := B1k.cell 1
   have y0 := B2k.cell 0
   have y1 := B2k.cell 1
   simp only [List.getElem?_toArray, List.getElem?_cons_succ, List.getElem?_cons_zero] at x0 x1 y0 y1
   have HSR := Lib.hid (samerecs_eq LL A1 LL.length c1 A2 c2 wk (own_any (own_fr O1j.out fk (fun j hj => hoff j (O1j.out.lt j hj).1))).2.2.1 (own_any (own_fr O2j.out fk (fun j hj => hoff j (O2j.out.lt j hj).1))).2.2.1 (by have := HLn.out; omega))
   have F3f := Lib.hid (F39.out.trans F9f.out (fun _ h => h.elim))
   have F3k : Hid (Fr (fun _ => False) w3 wk) := (F3f.out.trans Ffj.out (fun _ h => h.elim)).trans fk (fun i hi => .inr (HK2.out i hi).1)
   clear d1 qk fk HRc hoff B1k B2k
   go_wp2_with fail
   refine HSR.out.mono ?_
   rintro r wl ⟨rfl, bl⟩
   have Fkl : Hid (Fr (fun _ => False) wk wl) := Fr.b0 bl
   have HSw := Lib.hid (quad_shows P.out (HQk.out.fr0 Fkl.out) (by omega))
   clear bl x0 x1 y0 y1 HSR
   go_wp2_with fail
   refine HSw.out.mono ?_
   rintro r wm ⟨rfl, qm, fm⟩
   have HTm := Lib.hid qm.tri
   have F3m : Hid (Fr (fun _ => False) w3 wm) := (F3k.out.trans Fkl.out (fun _ h => h.elim)).trans fm (fun i hi => .inr (by
    rcases hi with h | h
    ·exact (HK2.out i h).1
    ·exact Nat.le_trans F3f.out.size h))
   clear qm fm HSw
   go_wp2_with fail
   go_roundw
   case rel => exact ⟨k + 1, t9, X9, _, by omega, rfl, by go_num, HTm.out, HLow9.out, F3m.out⟩
   case measure => simp [intOf]; omega
  ·obtain rfl : k = m := by omega
   have g0 : decide ((k : Int) < (k : Int)) = false := decide_eq_false (by omega)
   have Fw := Lib.hid (F3.out.trans Hf.out (fun _ h => h.elim))
   go_wp2_with fail
   refine (HAl.out _).mono ?_
   rintro r wq ⟨rfl, bq⟩
   have Fq : Hid (Fr (fun _ => False) wr wq) := Fr.b0 bq
   have HAp := Lib.hid (tri_apart (HT0.out.fr0 Fq.out))
   clear bq
   go_wp2_with fail
   refine HAp.out.mono ?_
   rintro r wz ⟨rfl, fz⟩
   go_wp2_with fail
   go_ret
   exact ⟨rfl, ((Fw.out.trans Fq.out (fun _ h => h.elim)).trans fz (fun i hi => .inr (Nat.le_trans F3.out.size hi))).below (fun _ h => h.elim)⟩
end Go.Proofs.YtbblmmneeafhgaaGreat
