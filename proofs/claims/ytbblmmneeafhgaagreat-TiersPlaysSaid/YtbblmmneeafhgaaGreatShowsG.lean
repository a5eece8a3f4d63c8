/- Walk of law 11: Shows. -/
import Derived.Test.YtbblmmneeafhgaaGreatRTSum
import Derived.Test.YtbblmmneeafhgaaGreatBookG
import Derived.Test.YtbblmmneeafhgaaGreatTiersP
import Derived.Test.YtbblmmneeafhgaaGreatTioR
import Derived.Test.YtbblmmneeafhgaaGreatTiers13
import Derived.Test.YtbblmmneeafhgaaGreatSame
import Derived.Test.YtbblmmneeafhgaaGreatRefView
import Derived.Test.YtbblmmneeafhgaaGreatTk
namespace Go.Proofs.YtbblmmneeafhgaaGreat
set_option linter.all false
open Go.RowKit

theorem Tio.reachK {nm : ByteArray} {l : List TierV} {fl : List Int} {lo : Nat} {W : World} {t : Nat} {X : TiersX} {F : Nat → Prop} {c : Nat} (h : Tio nm l fl lo W t X F c) : ∃ tA tc tB td, ∀ (W' : World) (G : Nat → Prop), Fr G W W' → (∀ j, G j → (∃ es ck, W.heap[j]? = some (.map es ck)) ∨ (∃ cs fz ty, W.heap[j]? = some (.cells cs ty fz) ∧ ty ≠ 90 ∧ ty ≠ 3 ∧ ty ≠ 107 ∧ ty ≠ 165)) → (∀ j, F j → ¬ G j) → ReachIn W' t X.now nm l fl tA tc tB td := by
 obtain ⟨base, hb, tA, tc, tB, td, T, ct, tb, hi, hF⟩ := h.on
 have hg := h.good
 have hrow : ∀ {e : TypeId} {size n base' : Nat} {v : Value} {xs : List Value} {G : Nat → Prop}, W.ownsRow base' e size v n xs → (e = 90 ∨ e = 3) → (∀ j, G j → (∃ es ck, W.heap[j]? = some (.map es ck)) ∨ (∃ cs fz ty, W.heap[j]? = some (.cells cs ty fz) ∧ ty ≠ 90 ∧ ty ≠ 3 ∧ ty ≠ 107 ∧ ty ≠ 165)) → ∀ j, rowF v j → ¬ G j := fun ho hne hG j hj hgj => by
  obtain ⟨cs', fz', hc⟩ := own_ty ho hj
  rcases hG j hgj with ⟨es, ck, hbm⟩ | ⟨cs, fz, ty, hb, h1, h2, h3, h4⟩
  ·rw [hbm] at hc; cases hc
  ·rw [hb] at hc
   injection hc with hc
   injection hc with _ hc _
   subst hc
   rcases hne with e | e
   ·exact h1 e
   ·exact h2 e
 refine ⟨tA, tc, tB, td, fun W' G f hG hd => ?_⟩
 have b := hi.blk.fr f (hd t (by rw [hF]; exact .inl rfl))
 have e1 := own_any (own_fr hi.tiers f (hrow hi.tiers (.inl rfl) hG))
 have e2 := own_any (own_fr hi.floors f (hrow hi.floors (.inr rfl) hG))
 rw [hg.tiers, hg.floors, hg.name] at b
 rw [hg.tiers] at e1
 rw [hg.floors] at e2
 exact ⟨b.cell 0, b.cell 1, b.cell 2, b.cell 3, e1.2.2.1, e2.2.2.1, e1.1⟩
set_option maxRecDepth 100000 in
set_option maxHeartbeats 8000000 in
theorem showsG_any {nm : ByteArray} {l : List TierV} {fl : List Int} {lo0 lo : Nat} {w : World} {t g kb k0 : Nat} {Y : TiersX} {Ft F' G LS : Nat → Prop} {cc : Nat} {A B T : Option Addr} {c d ct : Nat} {P : List Nat} (p : PolOk nm l) (hT : Tio nm l fl lo0 w t Y Ft cc) (hcc : cc ≤ 100000) (hR : RTiersOn w g lo F' Y A c B d T ct P) (hKr : RKind w F') (hB : BookG w kb k0 G LS) (hGlo : ∀ j, G j → lo ≤ j) :
  Calls Tryz.prog 29 #[.pointer (some ⟨t, 0, none⟩), .pointer (some ⟨g, 0, none⟩), .pointer (some ⟨kb, 0, none⟩)] w fun r w' => r = .returned (.bool true) ∧ (∃ k' G' L', BookG w' kb k' G' L' ∧ (∀ i, G' i → G i ∨ w.heap.size ≤ i) ∧ ∀ i, L' i → LS i ∨ w.heap.size ≤ i) ∧ Fr G w w' := by
 obtain ⟨n, hn0⟩ : ∃ v, l.length = v := ⟨_, rfl⟩
 obtain ⟨mf, hmf⟩ : ∃ v, fl.length = v := ⟨_, rfl⟩
 obtain ⟨now, hnw⟩ : ∃ v, Y.now = v := ⟨_, rfl⟩
 have hg := hT.good
 have hXt : Y.tiers = l := hg.tiers
 have hXf : Y.floors = fl := hg.floors
 have hXn : Y.name = nm := hg.name
 have htl : Y.tabs.length = n := by rw [hg.tlen, hn0]
 have hlen := hg.len
 have hnow := hg.now
 have h5 := p.five
 have hpos := p.pos
 have hn5 : n ≤ 5 := by omega
 have hnp : 0 < n := by omega
 have HT := Lib.hid hT
 have HR := Lib.hid hR
 have Hn := Lib.hid hn0
 have Hmf := Lib.hid hmf
 have Hll : Hid (∀ k, (Y.tabs.getD k []).length ≤ cc) := fun k => getD_len hlen k
 have HRd : Hid (∀ {W : World} {G : Nat → Prop}, Fr G w W → ¬ G g → Blk W g 113 #[.int .i64 now, .string nm, .slice A n c, .slice B mf d, .slice T n ct]) := fun f hg => by
  have := hR.blk.fr f hg
  rw [hnw, hXt, hXf, hXn, hn0, hmf] at this
  exact this
 have hgk : ∀ j, G j → (∃ es ck, w.heap[j]? = some (.map es ck)) ∨ (∃ cs fz ty, w.heap[j]? = some (.cells cs ty fz) ∧ ty ≠ 90 ∧ ty ≠ 3 ∧ ty ≠ 107 ∧ ty ≠ 165) := fun j hj => by
  obtain ⟨cs, fz, ty, e, h⟩ := hB.kind j hj
  refine .inr ⟨cs, fz, ty, e, ?_⟩
  rcases h with rfl | rfl <;> decide
 have hgf : ∀ j, Ft j → ¬ G j := fun j hj hg2 => by
  obtain ⟨cs, fz, ty, e, h⟩ := hB.kind j hg2
  obtain ⟨_, _, ho⟩ := hT.on
  rcases ho.kind j hj with ⟨es, ck, hm⟩ | ⟨cs', fz', hm⟩
  ·rw [hm] at e; cases e
  ·rw [hm] at e
   injection e with e
   injection e with _ e _
   subst e
   rcases h with h | h <;> exact absurd h (by decide)
 have hgr : ∀ j, F' j → ¬ G j := fun j hj hg2 => by
  obtain ⟨cs, fz, ty, e, h⟩ := hB.kind j hg2
  obtain ⟨cs', fz', ty', e', h'⟩ := hKr j hj
  rw [e'] at e
  injection e with e
  injection e with _ e _
  subst e
  unfold rTy at h'
  rcases h with h | h <;> rcases h' with h' | h' | h' | h' <;> rw [h] at h' <;> exact absurd h' (by decide)
 have hgrow : ∀ {e : TypeId} {size nn base' : Nat} {v : Value} {xs : List Value}, w.ownsRow base' e size v nn xs → e ≠ 49 → e ≠ 51 → ∀ j, rowF v j → ¬ G j := fun ho h1 h2 j hj hg2 => by
  obtain ⟨cs, fz, ty, e, h⟩ := hB.kind j hg2
  obtain ⟨cs', fz', e'⟩ := own_ty ho hj
  rw [e'] at e
  injection e with e
  injection e with _ e _
  subst e
  rcases h with h | h
  ·exact h1 h
  ·exact h2 h
 have Hgrow : Hid (∀ {e : TypeId} {size nn base' : Nat} {v : Value} {xs : List Value}, w.ownsRow base' e size v nn xs → e ≠ 49 → e ≠ 51 → ∀ j, rowF v j → ¬ G j) := @hgrow
 have Hgr := Lib.hid hgr
 obtain ⟨tA, tc, tB, td, hReK⟩ := hT.reachK
 have HReK : Hid (∀ W, Fr G w W → ReachIn W t now nm l fl tA tc tB td) := fun W f => by rw [← hnw]; exact hReK W G f hgk hgf
 obtain ⟨tb0, htb0, hto⟩ := hT.on
 have HTa : Hid (∀ W, Fr G w W → TiersAt W t tb0 Y) := fun W f => (hto.frK f hgk hgf).at_
 have HTk : Hid (∀ W, Fr G w W → Tio nm l fl lo0 W t Y Ft cc) := fun W f => ⟨⟨tb0, htb0, hto.frK f hgk hgf⟩, hT.good⟩
 have HRk : Hid (∀ W, Fr G w W → RTiersOn W g lo F' Y A c B d T ct P) := fun W f => hR.fr f (fun j hj => ⟨hGlo j hj, fun h => hgr j h hj⟩)
 have hgg : ¬ G g := hgr g hR.fg
 have hXl : Y.tiers.length = n := by rw [hXt, hn0]
 have HXl := Lib.hid hXl
 have HXt := Lib.hid hXt
 have HXf := Lib.hid hXf
 have HXn := Lib.hid hXn
 obtain ⟨aT, hT2, _⟩ := (own_any hR.row).2.2.1.2 (by rw [hXl]; exact hnp)
 subst hT2
 have hgT : ¬ G aT.block := hgrow hR.row (by decide) (by decide) _ rfl
 have HB := Lib.hid hB
 have Hlx : Hid (∀ y ∈ Y.tabs, y.length ≤ 1000000) := fun y hy => Nat.le_trans (hlen y hy) (by omega)
 have Hsum : Hid (∀ k, ((Y.tabs.map List.length).take k).sum ≤ k * 1000000) := fun k => sum_take_le (fun x hx => by
  obtain ⟨y, hy, rfl⟩ := List.mem_map.1 hx
  exact Nat.le_trans (hlen y hy) (by omega)) k
 clear hT hR hXt hXf hXn hn0 hmf hReK hto hXl hB hlen hg hgk hgf hgr
 go_enter Tryz.func29, Tryz.ntmps29
 go_wp2_with fail
 go_loopw [7, 8] (fun s i wr => ∃ (j kj : Nat) (Gj Lj : Nat → Prop), j ≤ n + 2 ∧ i = .int .i64 ((j : Int) - 1) ∧ s = .int .i64 (((Y.tabs.map List.length).take (j - 1)).sum : Nat) ∧ BookG wr kb kj Gj Lj ∧ (∀ i, Gj i → G i ∨ w.heap.size ≤ i) ∧ (∀ i, Lj i → LS i ∨ w.heap.size ≤ i) ∧ Fr G w wr) (fun _ i _ => (n + 2 - intOf i).toNat)
 case atStart => exact ⟨0, k0, G, LS, by omega, rfl, rfl, HB.out, fun _ h => .inl h, fun _ h => .inl h, Fr.refl _ _⟩
 case round =>
  obtain ⟨j, kj, Gj, Lj, hj, rfl, rfl, hBj, hGj, hLj, hFj⟩ := hrel
  have HGj := Lib.hid hGj
  have HLj := Lib.hid hLj
  have HBj := Lib.hid hBj
  have HFj := Lib.hid hFj
  have z4 := (HRd.out hFj hgg).cell 4
  simp only [List.getElem?_toArray, List.getElem?_cons_succ, List.getElem?_cons_zero] at z4
  clear hBj hFj hGj hLj
  obtain ⟨iv, hiv⟩ : ∃ v : Int, (j : Int) - 1 = v := ⟨_, rfl⟩
  rw [hiv]
  have Hiv := Lib.hid hiv
  have hjw : IntKind.i64.wrap (iv + 1) = iv + 1 := by simp [IntKind.wrap, IntKind.signed, IntKind.bits]; omega
  have Hnx : Hid (Value.int .i64 (iv + 1) = Value.int .i64 (((j + 1 : Nat) : Int) - 1)) := by show _ = _; congr 1; omega
  by_cases hjn : j ≤ n + 1
  case neg =>
   have g0 : decide (iv ≤ (n : Int)) = false := decide_eq_false (by omega)
   have hall : ((Y.tabs.map List.length).take (j - 1)).sum = lenX Y := by
    unfold lenX
    rw [List.take_of_length_le (by rw [List.length_map]; omega)]
   rw [hall]
   have HNe := Lib.hid (fun W (f : Fr (fun _ => False) wr W) => tio_need p ((HTk.out _ HFj.out).fr0 f) (by omega))
   have HRn : Hid (∀ W, Fr (fun _ => False) wr W → Calls Tryz.prog 78 #[.pointer (some ⟨g, 0, none⟩)] W fun r w' => r = .returned (.int .i64 (needX Y : Nat)) ∧ Fr (fun _ => False) W w') := fun W f =>
    rtsum_any g lo F' Y A c B d (some aT) ct P W ((HRk.out _ HFj.out).fr0 f) (by rw [HXl.out]; omega) Hlx.out (by rw [HXt.out]; exact fun x hx => (check_mem p.ck hx).2.2.2.2)
   have HLe : Hid (∀ W, Fr (fun _ => False) wr W → Calls Tryz.prog 41 #[.pointer (some ⟨t, 0, none⟩)] W fun r w' => r = .returned (.int .i64 (lenX Y : Nat)) ∧ W = w') := fun W f => tio_len p ((HTk.out _ HFj.out).fr0 f) (by omega)
   have HEm : Hid (∀ W, Fr (fun _ => False) wr W → Calls Tryz.prog 79 #[.pointer (some ⟨t, 0, none⟩)] W fun r w' => r = .returned (.bool (lenX Y == 0)) ∧ W = w') := fun W f => tempty_any t tb0 Y W (HTa.out W (HFj.out.trans f (fun _ h => h.elim))) (by rw [HXl.out]; omega) (fun m hm => by have := Hlx.out m hm; omega)
   have HC14 : Hid (∀ W, Fr (fun _ => False) wr W → W.cell? ⟨g, 0, none⟩ = some (.int .i64 now) ∧ W.cell? ⟨t, 0, none⟩ = some (.int .i64 now)) := fun W f => ⟨(HRd.out (HFj.out.trans f (fun _ h => h.elim)) hgg).cell 0, (HReK.out _ (HFj.out.trans f (fun _ h => h.elim))).c0⟩
   obtain ⟨nv, hnv⟩ : ∃ v, needX Y = v := ⟨_, rfl⟩
   obtain ⟨lv, hlv⟩ : ∃ v, lenX Y = v := ⟨_, rfl⟩
   rw [hnv] at HNe HRn
   rw [hlv] at HLe HEm ⊢
   have e1 : (((nv : Nat) : Int) == ((nv : Nat) : Int)) = true := by simp
   have e2 : (((lv : Nat) : Int) == ((lv : Nat) : Int)) = true := by simp
   have e3 : (((lv : Nat) : Int) == 0) = (lv == 0) := by rw [Bool.eq_iff_iff]; simp
   have e4 : (now == now) = true := by simp
   have e5 : (nv == nv) = true := by simp
   have e6 : (lv == lv) = true := by simp
   have e7 : ((lv == 0) == (lv == 0)) = true := by simp
   clear hnv hlv hall hiv hjn
   go_wp2_with fail
   refine wp_region_held_drew (S := fun W_ => Fr (fun _ => False) wr W_) (by kernel_rfl) ((Fr.refl _ wr).drew) (fun hHeld => ?_)
   refine tl 0 ?v1 rfl ?q1 ?r1
   case q1 => intro W hSw; go_simp; try rfl
   refine tl 2 ?v2 rfl ?q2 ?r2
   case q2 => intro W hSw; go_simp; try rfl
   try simp only [Act.put, sA, sB, sC]
   refine rl 1 rfl (fun K hK => ?_)
   go_simp
   go_wp2_with (first | (go_at_call 77; refine (HNe.out _ hHeld).mono ?_; rintro r wa ⟨rfl, ba⟩))
   refine hK.out _ _ (hHeld.trans (Fr.b0 ba) (fun _ h => h.elim)) (fun hHeld => ?_)
   clear hK K
   try simp only [Act.put, sA, sB, sC]
   refine rl 3 rfl (fun K hK => ?_)
   go_simp
   go_wp2_with (first | (go_at_call 78; refine (HRn.out _ hHeld).mono ?_; rintro r wb ⟨rfl, fb⟩))
   refine hK.out _ _ (hHeld.trans fb (fun _ h => h.elim)) (fun hHeld => ?_)
   clear hK K
   refine tl 4 ?v3 rfl ?q3 ?r3
   case q3 => intro W hSw; (try obtain ⟨q0, q1⟩ := HC14.out W hSw); go_simp; try rfl
   refine tl 5 ?v4 rfl ?q4 ?r4
   case q4 => intro W hSw; go_simp; try rfl
   try simp only [Act.put, sA, sB, sC]
   refine tl 6 ?v5 rfl ?q5 ?r5
   case q5 => intro W hSw; go_simp; try rfl
   try simp only [Act.put, sA, sB, sC]
   refine tl 8 ?v6 rfl ?q6 ?r6
   case q6 => intro W hSw; go_simp; try rfl
   try simp only [Act.put, sA, sB, sC]
   refine rl 7 rfl (fun K hK => ?_)
   go_simp
   go_wp2_with (first | (go_at_call 41; refine (HLe.out _ hHeld).mono ?_; rintro r w' ⟨rfl, rfl⟩))
   refine hK.out _ _ (hHeld) (fun hHeld => ?_)
   clear hK K
   try simp only [Act.put, sA, sB, sC]
   refine tl 9 ?v7 rfl ?q7 ?r7
   case q7 => intro W hSw; (try obtain ⟨q0, q1⟩ := HC14.out W hSw); go_simp; try rfl
   refine tl 10 ?v8 rfl ?q8 ?r8
   case q8 => intro W hSw; go_simp; try rfl
   refine tl 11 ?v9 rfl ?q9 ?r9
   case q9 => intro W hSw; go_simp; try rfl
   try simp only [Act.put, sA, sB, sC]
   refine tl 12 ?v10 rfl ?q10 ?r10
   case q10 => intro W hSw; go_simp; try rfl
   try simp only [Act.put, sA, sB, sC]
   refine tl 14 ?v11 rfl ?q11 ?r11
   case q11 => intro W hSw; go_simp; try rfl
   try simp only [Act.put, sA, sB, sC]
   refine tl 15 ?v12 rfl ?q12 ?r12
   case q12 => intro W hSw; (try obtain ⟨q0, q1⟩ := HC14.out W hSw); go_simp; try rfl
   try simp only [Act.put, sA, sB, sC]
   refine rl 13 rfl (fun K hK => ?_)
   go_simp
   go_wp2_with (first | (go_at_call 79; refine (HEm.out _ hHeld).mono ?_; rintro r w' ⟨rfl, rfl⟩))
   refine hK.out _ _ (hHeld) (fun hHeld => ?_)
   clear hK K
   try simp only [Act.put, sA, sB, sC]
   refine tl 16 ?v13 rfl ?q13 ?r13
   case q13 => intro W hSw; (try obtain ⟨q0, q1⟩ := HC14.out W hSw); go_simp; try rfl
   refine tl 17 ?v14 rfl ?q14 ?r14
   case q14 => intro W hSw; go_simp; try rfl
   refine tl 18 ?v15 rfl ?q15 ?r15
   case q15 => intro W hSw; go_simp; try rfl
   try simp only [Act.put, sA, sB, sC]
   refine tl 19 ?v16 rfl ?q16 ?r16
   case q16 => intro W hSw; go_simp; try rfl
   try simp only [Act.put, sA, sB, sC]
   refine tl 20 ?v17 rfl ?q17 ?r17
   case q17 => intro W hSw; go_simp; try rfl
   try simp only [Act.put, sA, sB, sC]
   refine tl 21 ?v18 rfl ?q18 ?r18
   case q18 => intro W hSw; go_simp; try rfl
   try simp only [Act.put, sA, sB, sC]
   refine tl 22 ?v19 rfl ?q19 ?r19
   case q19 => intro W hSw; go_simp; try rfl
   try simp only [Act.put, sA, sB, sC]
   refine tl 23 ?v20 rfl ?q20 ?r20
   case q20 => intro W hSw; (try obtain ⟨q0, q1⟩ := HC14.out W hSw); go_simp; try rfl
   try simp only [Act.put, sA, sB, sC]
   refine tl 24 ?v21 rfl ?q21 ?r21
   case q21 => intro W hSw; go_simp; try rfl
   try simp only [Act.put, sA, sB, sC]
   refine tl 25 ?v22 rfl ?q22 ?r22
   case q22 => intro W hSw; go_simp; try rfl
   try simp only [Act.put, sA, sB, sC]
   refine tl 26 ?v23 rfl ?q23 ?r23
   case q23 => intro W hSw; go_simp; try rfl
   try simp only [Act.put, sA, sB, sC]
   refine tl 27 ?v24 rfl ?q24 ?r24
   case q24 => intro W hSw; go_simp; try rfl
   try simp only [Act.put, sA, sB, sC]
   refine tl 28 ?v25 rfl ?q25 ?r25
   case q25 => intro W hSw; (try obtain ⟨q0, q1⟩ := HC14.out W hSw); go_simp; try rfl
   try simp only [Act.put, sA, sB, sC]
   refine tl 29 ?v26 rfl ?q26 ?r26
   case q26 => intro W hSw; (try obtain ⟨q0, q1⟩ := HC14.out W hSw); go_simp; try rfl
   refine tl 30 ?v27 rfl ?q27 ?r27
   case q27 => intro W hSw; go_simp; try rfl
   refine tl 31 ?v28 rfl ?q28 ?r28
   case q28 => intro W hSw; (try obtain ⟨q0, q1⟩ := HC14.out W hSw); go_simp; try rfl
   try simp only [Act.put, sA, sB, sC]
   refine wpAnyH_done (by kernel_rfl) ?_ _
   have FE : Hid (Fr G w wb) := HFj.out.trans hHeld (fun _ h => h.elim)
   have BE := Lib.hid (HBj.out.fr0 hHeld)
   clear hHeld
   go_wp2_with fail
   go_ret
   exact ⟨by first | rfl | simp [*], ⟨kj, Gj, Lj, BE.out, HGj.out, HLj.out⟩, FE.out⟩
  case pos =>
  have g0 : decide (iv ≤ (n : Int)) = true := decide_eq_true (by omega)
  by_cases hin : 1 ≤ j ∧ j ≤ n
  case neg =>
   have hnot : ¬ (0 ≤ iv ∧ iv < ((Y.tiers.length : Nat) : Int)) := by rw [HXl.out]; omega
   have HRc := Lib.hid (trecords_out t tb0 Y iv wr (HTa.out wr HFj.out) (by rw [HXl.out]; exact hnp) hnot)
   have HTb := Lib.hid (ttable_out t tb0 Y iv wr (HTa.out wr HFj.out) (by rw [HXl.out]; exact hnp) hnot)
   have HBk := Lib.hid (bookG_add wr kb kj Gj Lj HBj.out [] none 0 0 (World.ownsRow_nil _ _ _ _) (by omega) (fun _ _ h => by cases h))
   have hsm : ((Y.tabs.map List.length).take (j - 1)).sum = ((Y.tabs.map List.length).take (j + 1 - 1)).sum := by
    by_cases h0 : j = 0
    ·subst h0; rfl
    ·rw [List.take_of_length_le (by rw [List.length_map]; omega), List.take_of_length_le (by rw [List.length_map]; omega)]
   rw [hsm]
   have hAt : Hid (iv = -1 ∨ iv = (n : Int)) := by show _ ∨ _; omega
   clear hsm hnot hin hjn hiv hj
   go_wp2_with fail
   refine HRc.out.mono ?_
   rintro r w' ⟨rfl, rfl⟩
   go_wp2_with fail
   refine HTb.out.mono ?_
   rintro r w' ⟨rfl, rfl⟩
   clear z4
   go_wp2_with fail
   refine HBk.out.mono ?_
   rintro r w5 ⟨rfl, ⟨G5, L5, b5, g5, l5⟩, f5⟩
   have F5 : Hid (Fr G w w5) := HFj.out.trans f5 (fun i hi => HGj.out i hi)
   have B5 := Lib.hid b5
   have hws : w.heap.size ≤ wr.heap.size := HFj.out.size
   have HG5 : Hid (∀ i, G5 i → G i ∨ w.heap.size ≤ i) := fun i hi => by rcases g5 i hi with h | h; exact HGj.out i h; exact .inr (by omega)
   have HL5 : Hid (∀ i, L5 i → LS i ∨ w.heap.size ≤ i) := fun i hi => by rcases l5 i hi with h | h | h; exact HLj.out i h; cases h; exact .inr (by omega)
   have z4 := (HRd.out F5.out hgg).cell 4
   simp only [List.getElem?_toArray, List.getElem?_cons_succ, List.getElem?_cons_zero] at z4
   clear f5 b5 HBk HRc HTb g5 l5
   by_cases hj0 : iv < 0
   ·have d0 : decide (iv < 0) = true := decide_eq_true hj0
    go_wp2_with fail
    go_roundw
    case rel => exact ⟨j + 1, _, G5, L5, by have := Hiv.out; have := hAt.out; omega, Hnx.out, rfl, B5.out, HG5.out, HL5.out, F5.out⟩
    case measure => simp [intOf]; have := Hiv.out; have := hAt.out; omega
   ·have d0 : decide (iv < 0) = false := decide_eq_false hj0
    have d1 : (iv == (n : Int)) = true := by have := hAt.out; simp; omega
    have d2 : decide (iv = (n : Int)) = true := by have := hAt.out; exact decide_eq_true (by omega)
    go_wp2_with fail
    go_roundw
    case rel => exact ⟨j + 1, _, G5, L5, by have := Hiv.out; have := hAt.out; omega, Hnx.out, rfl, B5.out, HG5.out, HL5.out, F5.out⟩
    case measure => simp [intOf]; have := Hiv.out; have := hAt.out; omega
  case pos =>
  obtain ⟨k, rfl⟩ : ∃ k, j = k + 1 := ⟨j - 1, by omega⟩
  have hkn : k < n := by omega
  obtain rfl : iv = (k : Int) := by omega
  have hs2 := Hsum.out (k + 1)
  obtain ⟨p0, x, L, hp, hx, hL⟩ := (HRk.out _ HFj.out).at_ (k := k) (by rw [HXl.out]; exact hkn)
  have hLk : Y.tabs.getD k [] = L := by rw [List.getD_eq_getElem?_getD, hL]; rfl
  have hLl := Hll.out k
  rw [hLk] at hLl
  have hs := sum_take_snoc (L := Y.tabs.map List.length) (k := k) (x := L.length) (by rw [List.getElem?_map, hL]; rfl)
  rw [Nat.add_sub_cancel]
  rw [hs] at hs2
  have hs3 := Hsum.out k
  obtain ⟨sv, hsv⟩ : ∃ v, ((Y.tabs.map List.length).take k).sum = v := ⟨_, rfl⟩
  rw [hsv] at hs hs2 hs3 ⊢
  have Hs := Lib.hid hs
  have HRc := Lib.hid (tio_records (HTk.out _ HFj.out) (by omega) k (by rw [Hn.out]; exact hkn))
  rw [hLk] at HRc
  have HTb : Hid (∀ W, Fr G w W → Calls Tryz.prog 75 #[.pointer (some ⟨t, 0, none⟩), .int .i64 (k : Nat)] W fun r w' => (∃ g' b', r = .returned (.pointer (some ⟨g', 0, none⟩)) ∧ TabAt w' g' x.every b' L ∧ W.heap.size ≤ g' ∧ W.heap.size ≤ b') ∧ Below W.heap.size W w') := fun W f => ttable_in t tb0 Y k x L W (HTa.out W f) hx hL
  have htab := HR.out.tab k p0 x L hp hx hL
  have hgp : ¬ G p0 := Hgr.out p0 (HR.out.fp p0 (List.mem_of_getElem? hp))
  obtain ⟨⟨Ap, cp, bp, op, _⟩, _, _, _⟩ := htab
  have Hbp := Lib.hid bp
  have Hop : Hid (∀ W, Fr G w W → Rd W 7 Ap L.length (rcells L)) := fun W f => (own_any (own_fr op f (Hgrow.out op (by decide) (by decide)))).2.2.1
  have hrow := (own_any HR.out.row).2.2.1
  rw [HXl.out] at hrow
  obtain ⟨aT', p', eT, hp', hT0⟩ := hrow.at_map hkn
  obtain rfl := Option.some.inj eT
  obtain rfl : p0 = p' := Option.some.inj (hp.symm.trans hp')
  have HcT := Lib.hid hT0
  have HSm : Hid (∀ W A1 c1, Fr G w W → Rd W 7 A1 L.length (rcells L) → Calls Tryz.prog 28 #[.slice A1 L.length c1, .slice Ap L.length cp] W fun r w' => r = .returned (.bool true) ∧ Below W.heap.size W w') := fun W A1 c1 f hr => by
   have := samerecs_any L L A1 L.length c1 Ap L.length cp W hr (Hop.out W f) (by omega) (by omega)
   rwa [decide_eq_true (rfl : L = L)] at this
  have HFT : Hid (∀ W, Fr G w W → Calls Tryz.prog 62 #[.agg #[.int .i64 now, .string nm, .slice tA n tc, .slice tB mf td], .int .i64 (k : Nat)] W fun r w' => r = .returned (.int .i64 (fromV now l fl k)) ∧ Below W.heap.size W w') := fun W f => by
   have := reach_from p (HReK.out W f) (by rw [← hnw]; exact hnow) k (by rw [Hn.out]; exact hkn)
   rw [Hn.out, Hmf.out] at this
   exact this
  have HFR : Hid (∀ W, Fr G w W → Calls Tryz.prog 64 #[.agg #[.int .i64 now, .string nm, .slice A n c, .slice B mf d], .int .i64 (k : Nat)] W fun r w' => r = .returned (.int .i64 (fromV now l fl k)) ∧ Below W.heap.size W w') := fun W f => by
   have hrd := (HRk.out W f).rd
   rw [HXl.out, HXt.out, HXf.out, Hmf.out] at hrd
   exact ref_from_any now (by rw [← hnw]; unfold i64; omega) nm l A n c fl B mf d k W hrd.1 hrd.2 p.wf hkn (by omega)
  obtain ⟨fv, hfv⟩ : ∃ v, fromV now l fl k = v := ⟨_, rfl⟩
  obtain ⟨nl, hnl⟩ : ∃ v, L.length = v := ⟨_, rfl⟩
  rw [hfv] at HFT HFR
  have hnL : nl ≤ 100000 := by omega
  have HBka := Lib.hid (fun (w6 : World) (hb : Below wr.heap.size wr w6) (A1 : Option Addr) (c1 : Nat) (ho : w6.ownsRow wr.heap.size 100 7 (.slice A1 L.length c1) L.length (rcells L)) => bookG_add w6 kb kj Gj Lj (HBj.out.fr0 (Fr.b0 hb)) L A1 L.length c1 (own_le ho (Nat.zero_le _)) (by omega) (fun j hj hr => by have h1 := HBj.out.lt j (.inr hj); have h2 := (ho.lt j hr).1; omega))
  have HAll := Lib.hid (fun (W : World) (g' b' : Nat) (h : TabAt W g' x.every b' L) => taball_any g' x.every b' L W h (by omega))
  rw [hnl] at HRc Hs hs2 HSm HBka HAll
  have hC12 : ∀ W, Fr G w W → W.cell? ⟨g, 0, none⟩ = some (.int .i64 now) ∧ W.cell? ⟨g, 1, none⟩ = some (.string nm) ∧ W.cell? ⟨g, 2, none⟩ = some (.slice A n c) ∧ W.cell? ⟨g, 3, none⟩ = some (.slice B mf d) ∧ W.cell? ⟨g, 4, none⟩ = some (.slice (some aT) n ct) ∧ W.cell? (aT.add k) = some (.pointer (some ⟨p0, 0, none⟩)) ∧ W.cell? ⟨p0, 1, none⟩ = some (.slice Ap nl cp) ∧ W.cell? ⟨t, 0, none⟩ = some (.int .i64 now) ∧ W.cell? ⟨t, 1, none⟩ = some (.string nm) ∧ W.cell? ⟨t, 2, none⟩ = some (.slice tA n tc) ∧ W.cell? ⟨t, 3, none⟩ = some (.slice tB mf td) := fun W f => by
   have b1 := HRd.out f hgg
   have b2 := Hbp.out.fr f hgp
   have b3 := HReK.out W f
   have z2 := b2.cell 1
   simp only [List.getElem?_toArray, List.getElem?_cons_succ, List.getElem?_cons_zero] at z2
   rw [hnl] at z2
   exact ⟨b1.cell 0, b1.cell 1, b1.cell 2, b1.cell 3, b1.cell 4, f.cell HcT.out (by rw [block_of_add]; exact hgT), z2, b3.c0, b3.c1, by rw [← Hn.out]; exact b3.c2, by rw [← Hmf.out]; exact b3.c3⟩
  have HC12 := Lib.hid hC12
  have kn : 0 ≤ (k : Int) ∧ (k : Int) < (n : Int) := by omega
  have d0 : decide ((k : Int) < 0) = false := decide_eq_false (by omega)
  have d1 : ((k : Int) == (n : Int)) = false := by simp; omega
  have d2 : ¬ (k : Int) = (n : Int) := by omega
  have hw := wrap_id (x := (sv : Int) + (nl : Int)) (by omega)
  have d3 : (fv != fv) = false := by simp
  have d4 : (fv == fv) = true := by simp
  clear hs hsv hfv hp hx hL hLk bp op hrow hp' hT0 hC12 hin hjn hj hnl hs2 hs3 hiv
  go_wp2_with fail
  refine HRc.out.mono ?_
  rintro r w5 ⟨⟨A1, c1, rfl, o5⟩, b5⟩
  have F5 : Hid (Fr G w w5) := HFj.out.trans (Fr.b0 b5) (fun _ h => h.elim)
  have HTb5 := Lib.hid (HTb.out w5 F5.out)
  clear HRc HTb
  go_wp2_with fail
  refine HTb5.out.mono ?_
  rintro r w6 ⟨⟨g6, b6, rfl, t6, hg6, hb6⟩, bb6⟩
  have o6 := own_fr0 o5 (Fr.b0 bb6)
  have HB6 := Lib.hid (HBka.out w6 (b5.trans (bb6.mono b5.size)) A1 c1 o6)
  have F6 : Hid (Fr G w w6) := F5.out.trans (Fr.b0 bb6) (fun _ h => h.elim)
  clear HTb5 HBka z4
  go_wp2_with fail
  refine HB6.out.mono ?_
  rintro r w7 ⟨rfl, ⟨G7, L7, hb7, g7, l7⟩, f7⟩
  have F7 : Hid (Fr G w w7) := F6.out.trans f7 (fun i hi => HGj.out i hi)
  have HB7 := Lib.hid hb7
  have h5s : wr.heap.size ≤ w5.heap.size := b5.size
  have hws : w.heap.size ≤ wr.heap.size := HFj.out.size
  have h6s : w5.heap.size ≤ w6.heap.size := bb6.size
  have HG7 : Hid (∀ i, G7 i → G i ∨ w.heap.size ≤ i) := fun i hi => by rcases g7 i hi with h | h; exact HGj.out i h; exact .inr (by omega)
  have HL7 : Hid (∀ i, L7 i → LS i ∨ w.heap.size ≤ i) := fun i hi => by rcases l7 i hi with h | h | h; exact HLj.out i h; exact .inr (by have := (o6.lt i h).1; omega); exact .inr (by omega)
  have T7 : Hid (TabAt w7 g6 x.every b6 L) := t6.fr f7 (fun h => by have := HBj.out.lt _ (.inl h); omega) (fun h => by have := HBj.out.lt _ (.inl h); omega)
  have O7 : Hid (Rd w7 7 A1 nl (rcells L)) := (own_any (own_fr o6 f7 (fun j hj hg => by have h1 := (o6.lt j hj).1; have h2 := HBj.out.lt _ (.inl hg); omega))).2.2.1
  have z4 := (HRd.out F7.out hgg).cell 4
  simp only [List.getElem?_toArray, List.getElem?_cons_succ, List.getElem?_cons_zero] at z4
  clear o5 o6 t6 hg6 hb6 f7 hb7 b5 bb6 HB6 h5s g7 l7 h6s
  go_wp2_with fail
  refine wp_region_held_drew (S := fun W_ => Fr (fun _ => False) w7 W_) (by kernel_rfl) ((Fr.refl _ w7).drew) (fun hHeld => ?_)
  refine tl 0 ?v29 rfl ?q29 ?r29
  case q29 => intro W hSw; go_simp; try rfl
  refine tl 1 ?v30 rfl ?q30 ?r30
  case q30 => intro W hSw; (try obtain ⟨q0, q1, q2, q3, q4, q5, q6, q7, q8, q9, q10⟩ := HC12.out W (F7.out.trans (hSw) (fun _ h => h.elim))); go_simp; try rfl
  refine tl 2 ?v31 rfl ?q31 ?r31
  case q31 => intro W hSw; go_simp; try rfl
  try simp only [Act.put, sA, sB, sC]
  refine tl 3 ?v32 rfl ?q32 ?r32
  case q32 => intro W hSw; go_simp; try rfl
  try simp only [Act.put, sA, sB, sC]
  refine tl 4 ?v33 rfl ?q33 ?r33
  case q33 => intro W hSw; go_simp; try rfl
  try simp only [Act.put, sA, sB, sC]
  refine tl 5 ?v34 rfl ?q34 ?r34
  case q34 => intro W hSw; go_simp; try rfl
  try simp only [Act.put, sA, sB, sC]
  refine tl 6 ?v35 rfl ?q35 ?r35
  case q35 => intro W hSw; go_simp; try rfl
  try simp only [Act.put, sA, sB, sC]
  refine tl 7 ?v36 rfl ?q36 ?r36
  case q36 => intro W hSw; (try obtain ⟨q0, q1, q2, q3, q4, q5, q6, q7, q8, q9, q10⟩ := HC12.out W (F7.out.trans (hSw) (fun _ h => h.elim))); go_simp; try rfl
  try simp only [Act.put, sA, sB, sC]
  refine tl 8 ?v37 rfl ?q37 ?r37
  case q37 => intro W hSw; go_simp; try rfl
  try simp only [Act.put, sA, sB, sC]
  refine tl 9 ?v38 rfl ?q38 ?r38
  case q38 => intro W hSw; (try obtain ⟨q0, q1, q2, q3, q4, q5, q6, q7, q8, q9, q10⟩ := HC12.out W (F7.out.trans (hSw) (fun _ h => h.elim))); go_simp; try rfl
  try simp only [Act.put, sA, sB, sC]
  refine tl 10 ?v39 rfl ?q39 ?r39
  case q39 => intro W hSw; (try obtain ⟨q0, q1, q2, q3, q4, q5, q6, q7, q8, q9, q10⟩ := HC12.out W (F7.out.trans (hSw) (fun _ h => h.elim))); go_simp; try rfl
  try simp only [Act.put, sA, sB, sC]
  refine tl 11 ?v40 rfl ?q40 ?r40
  case q40 => intro W hSw; go_simp; try rfl
  try simp only [Act.put, sA, sB, sC]
  refine tl 12 ?v41 rfl ?q41 ?r41
  case q41 => intro W hSw; go_simp; try rfl
  try simp only [Act.put, sA, sB, sC]
  refine tl 13 ?v42 rfl ?q42 ?r42
  case q42 => intro W hSw; (try obtain ⟨q0, q1, q2, q3, q4, q5, q6, q7, q8, q9, q10⟩ := HC12.out W (F7.out.trans (hSw) (fun _ h => h.elim))); go_simp; try rfl
  try simp only [Act.put, sA, sB, sC]
  refine rl 14 rfl (fun K hK => ?_)
  go_simp
  go_wp2_with (first | (go_at_call 28; refine (HSm.out _ A1 c1 (F7.out.trans (hHeld) (fun _ h => h.elim)) (O7.out.fr0 hHeld)).mono ?_; rintro r wa ⟨rfl, ba⟩))
  refine hK.out _ _ (hHeld.trans (Fr.b0 ba) (fun _ h => h.elim)) (fun hHeld => ?_)
  clear hK K
  try simp only [Act.put, sA, sB, sC]
  refine tl 15 ?v43 rfl ?q43 ?r43
  case q43 => intro W hSw; go_simp; try rfl
  refine tl 16 ?v44 rfl ?q44 ?r44
  case q44 => intro W hSw; go_simp; try rfl
  refine tl 17 ?v45 rfl ?q45 ?r45
  case q45 => intro W hSw; go_simp; try rfl
  try simp only [Act.put, sA, sB, sC]
  refine tl 18 ?v46 rfl ?q46 ?r46
  case q46 => intro W hSw; go_simp; try rfl
  try simp only [Act.put, sA, sB, sC]
  refine tl 20 ?v47 rfl ?q47 ?r47
  case q47 => intro W hSw; go_simp; try rfl
  try simp only [Act.put, sA, sB, sC]
  refine tl 21 ?v48 rfl ?q48 ?r48
  case q48 => intro W hSw; go_simp; try rfl
  try simp only [Act.put, sA, sB, sC]
  refine tl 22 ?v49 rfl ?q49 ?r49
  case q49 => intro W hSw; go_simp; try rfl
  try simp only [Act.put, sA, sB, sC]
  refine tl 23 ?v50 rfl ?q50 ?r50
  case q50 => intro W hSw; (try obtain ⟨q0, q1, q2, q3, q4, q5, q6, q7, q8, q9, q10⟩ := HC12.out W (F7.out.trans (hSw) (fun _ h => h.elim))); go_simp; try rfl
  try simp only [Act.put, sA, sB, sC]
  refine tl 24 ?v51 rfl ?q51 ?r51
  case q51 => intro W hSw; go_simp; try rfl
  try simp only [Act.put, sA, sB, sC]
  refine tl 25 ?v52 rfl ?q52 ?r52
  case q52 => intro W hSw; (try obtain ⟨q0, q1, q2, q3, q4, q5, q6, q7, q8, q9, q10⟩ := HC12.out W (F7.out.trans (hSw) (fun _ h => h.elim))); go_simp; try rfl
  try simp only [Act.put, sA, sB, sC]
  refine tl 26 ?v53 rfl ?q53 ?r53
  case q53 => intro W hSw; (try obtain ⟨q0, q1, q2, q3, q4, q5, q6, q7, q8, q9, q10⟩ := HC12.out W (F7.out.trans (hSw) (fun _ h => h.elim))); go_simp; try rfl
  try simp only [Act.put, sA, sB, sC]
  refine tl 27 ?v54 rfl ?q54 ?r54
  case q54 => intro W hSw; go_simp; try rfl
  try simp only [Act.put, sA, sB, sC]
  refine tl 28 ?v55 rfl ?q55 ?r55
  case q55 => intro W hSw; go_simp; try rfl
  try simp only [Act.put, sA, sB, sC]
  refine tl 29 ?v56 rfl ?q56 ?r56
  case q56 => intro W hSw; (try obtain ⟨q0, q1, q2, q3, q4, q5, q6, q7, q8, q9, q10⟩ := HC12.out W (F7.out.trans (hSw) (fun _ h => h.elim))); go_simp; try rfl
  try simp only [Act.put, sA, sB, sC]
  refine rl 19 rfl (fun K hK => ?_)
  go_simp
  go_wp2_with (first | (go_at_call 76; refine (HAll.out _ g6 b6 (T7.out.fr0 hHeld)).mono ?_; rintro r wb ⟨⟨A2, c2, rfl, o2⟩, bb⟩))
  have HS2 := Lib.hid (HSm.out wb A2 c2 (F7.out.trans (hHeld.trans (Fr.b0 bb) (fun _ h => h.elim)) (fun _ h => h.elim)) (own_any o2).2.2.1)
  refine hK.out _ _ (hHeld.trans (Fr.b0 bb) (fun _ h => h.elim)) (fun hHeld => ?_)
  clear hK K
  try simp only [Act.put, sA, sB, sC]
  refine rl 30 rfl (fun K hK => ?_)
  go_simp
  go_wp2_with (first | (go_at_call 28; refine (HS2.out).mono ?_; rintro r wc ⟨rfl, bc⟩))
  refine hK.out _ _ (hHeld.trans (Fr.b0 bc) (fun _ h => h.elim)) (fun hHeld => ?_)
  clear hK K
  try simp only [Act.put, sA, sB, sC]
  refine tl 31 ?v57 rfl ?q57 ?r57
  case q57 => intro W hSw; go_simp; try rfl
  refine tl 32 ?v58 rfl ?q58 ?r58
  case q58 => intro W hSw; go_simp; try rfl
  refine tl 33 ?v59 rfl ?q59 ?r59
  case q59 => intro W hSw; go_simp; try rfl
  try simp only [Act.put, sA, sB, sC]
  refine tl 34 ?v60 rfl ?q60 ?r60
  case q60 => intro W hSw; go_simp; try rfl
  try simp only [Act.put, sA, sB, sC]
  refine tl 35 ?v61 rfl ?q61 ?r61
  case q61 => intro W hSw; go_simp; try rfl
  try simp only [Act.put, sA, sB, sC]
  refine tl 36 ?v62 rfl ?q62 ?r62
  case q62 => intro W hSw; go_simp; try rfl
  try simp only [Act.put, sA, sB, sC]
  refine tl 37 ?v63 rfl ?q63 ?r63
  case q63 => intro W hSw; (try obtain ⟨q0, q1, q2, q3, q4, q5, q6, q7, q8, q9, q10⟩ := HC12.out W (F7.out.trans (hSw) (fun _ h => h.elim))); go_simp; try rfl
  try simp only [Act.put, sA, sB, sC]
  refine tl 38 ?v64 rfl ?q64 ?r64
  case q64 => intro W hSw; go_simp; try rfl
  try simp only [Act.put, sA, sB, sC]
  refine tl 40 ?v65 rfl ?q65 ?r65
  case q65 => intro W hSw; go_simp; try rfl
  try simp only [Act.put, sA, sB, sC]
  refine tl 41 ?v66 rfl ?q66 ?r66
  case q66 => intro W hSw; go_simp; try rfl
  try simp only [Act.put, sA, sB, sC]
  refine tl 42 ?v67 rfl ?q67 ?r67
  case q67 => intro W hSw; go_simp; try rfl
  try simp only [Act.put, sA, sB, sC]
  refine tl 43 ?v68 rfl ?q68 ?r68
  case q68 => intro W hSw; (try obtain ⟨q0, q1, q2, q3, q4, q5, q6, q7, q8, q9, q10⟩ := HC12.out W (F7.out.trans (hSw) (fun _ h => h.elim))); go_simp; try rfl
  try simp only [Act.put, sA, sB, sC]
  refine tl 44 ?v69 rfl ?q69 ?r69
  case q69 => intro W hSw; go_simp; try rfl
  try simp only [Act.put, sA, sB, sC]
  refine rl 39 rfl (fun K hK => ?_)
  go_simp
  go_wp2_with (first | (go_at_call 62; refine (HFT.out _ (F7.out.trans (hHeld) (fun _ h => h.elim))).mono ?_; rintro r wd ⟨rfl, bd⟩))
  refine hK.out _ _ (hHeld.trans (Fr.b0 bd) (fun _ h => h.elim)) (fun hHeld => ?_)
  clear hK K
  try simp only [Act.put, sA, sB, sC]
  refine rl 45 rfl (fun K hK => ?_)
  go_simp
  go_wp2_with (first | (go_at_call 64; refine (HFR.out _ (F7.out.trans (hHeld) (fun _ h => h.elim))).mono ?_; rintro r we ⟨rfl, be⟩))
  refine hK.out _ _ (hHeld.trans (Fr.b0 be) (fun _ h => h.elim)) (fun hHeld => ?_)
  clear hK K
  try simp only [Act.put, sA, sB, sC]
  refine tl 46 ?v70 rfl ?q70 ?r70
  case q70 => intro W hSw; (try obtain ⟨q0, q1, q2, q3, q4, q5, q6, q7, q8, q9, q10⟩ := HC12.out W (F7.out.trans (hSw) (fun _ h => h.elim))); go_simp; try rfl
  refine tl 47 ?v71 rfl ?q71 ?r71
  case q71 => intro W hSw; go_simp; try rfl
  try simp only [Act.put, sA, sB, sC]
  refine wpAnyH_done (by kernel_rfl) ?_ _
  have FE : Hid (Fr G w we) := F7.out.trans hHeld (fun _ h => h.elim)
  have BE := Lib.hid (HB7.out.fr0 hHeld)
  clear hHeld o2 bb z4
  go_wp2_with fail
  go_roundw
  case rel => exact ⟨k + 2, _, G7, L7, by omega, Hnx.out, by show _ = Value.int .i64 (((Y.tabs.map List.length).take (k + 1)).sum : Nat); rw [Hs.out]; push_cast; rfl, BE.out, HG7.out, HL7.out, FE.out⟩
  case measure => simp [intOf]; omega
end Go.Proofs.YtbblmmneeafhgaaGreat
