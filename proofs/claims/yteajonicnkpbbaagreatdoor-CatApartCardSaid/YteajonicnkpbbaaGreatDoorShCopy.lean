/- Walk of shadow: Copy. -/
import Derived.Test.YteajonicnkpbbaaGreatDoorShStep
import Derived.Test.YteajonicnkpbbaaGreatDoorShBegin
import Derived.Test.YteajonicnkpbbaaGreatDoorShA
import Derived.Test.YteajonicnkpbbaaGreatDoorPrint
import Derived.Test.YteajonicnkpbbaaGreatDoorTk
namespace Go.Proofs.YteajonicnkpbbaaGreatDoor
set_option linter.all false
open Go.RowKit

theorem ShIn.setTab {w : World} {t base : Nat} {X : ShX} {A B : Option Addr} {c d ct gr : Nat} {tb : List (Nat × Nat)} (h : ShIn w t base X A c B d (some ⟨gr, 0, none⟩) ct tb) {k g b : Nat} {x : TierV} {l' : List RecV} (hk : k < X.tiers.length) (hx : X.tiers[k]? = some x) (ht : TabAt w g x.every b l') (hg : base ≤ g) (hb : base ≤ b) (hnew : ∀ q ∈ tb, q.2 ≠ b) :
    ShIn (w.setCell ⟨gr, k, none⟩ (.pointer (some ⟨g, 0, none⟩))) t base { X with tabs := X.tabs.set k l' } A c B d (some ⟨gr, 0, none⟩) ct (tb.set k (g, b)) := by
  have f : Fr (fun j => j = gr) w (w.setCell ⟨gr, k, none⟩ (.pointer (some ⟨g, 0, none⟩))) := (Fr.refl (fun j => j = gr) w).setCell (p := ⟨gr, k, none⟩) (.inl rfl) _
  obtain ⟨cs, hB⟩ := own_blk h.row
  have hoff : ∀ {e : TypeId} {size n base' : Nat} {v : Value} {xs : List Value}, w.ownsRow base' e size v n xs → e ≠ 208 → ∀ j, rowF v j → ¬ j = gr := fun ho hne j hj e => own_blk_ne ho hB hne (by rw [← e]; exact hj)
  have htab : ∀ {g' b' : Nat} {e : Int} {m : List RecV}, TabAt w g' e b' m → TabAt (w.setCell ⟨gr, k, none⟩ (.pointer (some ⟨g, 0, none⟩))) g' e b' m := fun {g' b' e m} hT => by
    refine hT.fr f (blk_ne_ty hT.blk hB (by decide)) (fun e' => ?_)
    obtain ⟨es, ck, hbm⟩ := hT.own.isMap
    have hb0 : w.heap[gr]? = some (Obj.cells cs _ (0, 0)) := hB
    rw [← e', hbm] at hb0
    cases hb0
  have hlen := h.len
  refine ⟨h.blk.fr f (blk_ne_ty h.blk hB (by decide)), own_fr h.tiers f (hoff h.tiers (by decide)), own_fr h.srcs f (hoff h.srcs (by decide)), ?_, by rw [List.length_set]; exact h.tlen, fun i p y m h1 h2 h3 => ?_, ?_, fun p hp => ?_, h.tge⟩
  · have e : ptrs (tb.set k (g, b)) = (ptrs tb).set k (.pointer (some ⟨g, 0, none⟩)) := by unfold ptrs; rw [List.map_set]
    rw [e]
    exact own_set1 h.row
  · by_cases e : i = k
    · subst e
      rw [List.getElem?_set_self (by rw [hlen]; exact hk)] at h1
      cases h1
      rw [hx] at h2
      cases h2
      have h3' : (X.tabs.set i l')[i]? = some m := h3
      rw [List.getElem?_set_self (by rw [h.tlen]; exact hk)] at h3'
      cases h3'
      exact htab ht
    · rw [List.getElem?_set_ne (fun e' => e e'.symm)] at h1
      have h3' : (X.tabs.set k l')[i]? = some m := h3
      rw [List.getElem?_set_ne (fun e' => e e'.symm)] at h3'
      exact htab (h.tab i p y m h1 h2 h3')
  · rw [List.map_set]
    refine nodup_set h.nodup (fun hm => ?_)
    obtain ⟨q, hq, e⟩ := List.mem_map.1 hm
    exact hnew q hq e
  · rcases List.mem_or_eq_of_mem_set hp with hp | rfl
    · exact h.ge p hp
    · exact ⟨hg, hb⟩
set_option maxRecDepth 100000 in
set_option maxHeartbeats 8000000 in
theorem scopy_any (t base : Nat) (X : ShX) (F : Nat → Prop) (w : World) (h : ShOn w t base X F) (hn1 : 0 < X.tiers.length) (hn : X.tiers.length ≤ 1000) (hm : X.srcs.length ≤ 1000) (hs8 : ∀ t ∈ X.tiers, t.shards ≤ 8) (hev : ∀ t ∈ X.tiers, 1 ≤ t.every) (hb0 : 0 ≤ X.bound) (hst : 0 < stepsV X.tiers) :
    Calls Tryz.prog 109 #[.pointer (some ⟨t, 0, none⟩)] w fun r w' => (∃ o F', r = .returned (.pointer (some ⟨o, 0, none⟩)) ∧ ShOn w' o w.heap.size X F') ∧ Below w.heap.size w w' := by
  obtain ⟨A, c, B, d, T, ct, tb, hi, _⟩ := h
  obtain ⟨n, hn0⟩ : ∃ n, X.tiers.length = n := ⟨_, rfl⟩
  obtain ⟨m, hm0⟩ : ∃ m, X.srcs.length = m := ⟨_, rfl⟩
  have hn9 : n ≤ 1000 := by rw [← hn0]; exact hn
  have HI := Lib.hid hi
  have Hn0 := Lib.hid hn0
  have Hm0 := Lib.hid hm0
  have HCt : Hid (∀ W, Fr (fun _ => False) w W → W.cell? ⟨t, 0, none⟩ = some (.string X.name) ∧ W.cell? ⟨t, 1, none⟩ = some (.slice A n c) ∧ W.cell? ⟨t, 2, none⟩ = some (.slice B m d) ∧ W.cell? ⟨t, 3, none⟩ = some (.int .i64 X.bound) ∧ W.cell? ⟨t, 4, none⟩ = some (.int .i64 X.done) ∧ W.cell? ⟨t, 5, none⟩ = some (.slice T n ct)) := fun W f => by
    obtain ⟨c0, c1, c2, c3, c4, c5⟩ := HI.out.cells f (fun h => h)
    rw [Hn0.out] at c1 c5
    rw [Hm0.out] at c2
    exact ⟨c0, c1, c2, c3, c4, c5⟩
  have HRe : Hid (∀ W, Fr (fun _ => False) w W → Calls Tryz.prog 155 #[.agg #[.string X.name, .slice A n c, .slice B m d], .int .i64 X.bound, .int .i64 0] W fun r w' => (∃ o, r = .returned (.tuple #[.pointer (some ⟨o, 0, none⟩), .int .i64 0]) ∧ ShAt w' o w.heap.size ⟨X.name, X.tiers, X.srcs, X.bound, 0, X.tiers.map fun _ => []⟩) ∧ Below W.heap.size W w') := fun W f => by
    have q1 := (own_any (HI.out.fr0 f).tiers).2.2.1
    have q2 := (own_any (HI.out.fr0 f).srcs).2.2.1
    rw [Hn0.out] at q1
    rw [Hm0.out] at q2
    refine (resume_any X.name X.tiers A n c X.srcs B m d X.bound 0 W q1 (by omega) hs8 hev q2 (by omega)).mono ?_
    rintro r w' ⟨⟨h3, _⟩, hb⟩
    obtain ⟨o, h4, h5⟩ := h3 ⟨by omega, hb0, by omega, by omega⟩
    exact ⟨⟨o, h4, h5.down f.size⟩, hb⟩
  have hsX : uptoL n (fun j => X.tabs.getD j []) (fun _ => []) 0 = X.tiers.map fun _ => [] := by
    rw [uptoL_zero]
    apply List.ext_getElem?
    intro i
    rw [List.getElem?_map, List.getElem?_map]
    by_cases hii : i < n
    · rw [List.getElem?_range hii, List.getElem?_eq_getElem (by omega)]; rfl
    · rw [List.getElem?_eq_none (by simpa using hii), List.getElem?_eq_none (by omega)]; rfl
  have HsX := Lib.hid hsX
  have HeX : Hid (uptoL n (fun j => X.tabs.getD j []) (fun _ => []) n = X.tabs) := by show _ = _; rw [uptoL_all]; exact getD_all (by rw [hi.tlen, hn0])
  have htn : t < w.heap.size := hi.blk.lt
  obtain ⟨adT, hadT, hcr⟩ := (own_any hi.row).2.2.1.2 (show 0 < X.tiers.length by omega)
  subst hadT
  have Hcr := Lib.hid hcr
  clear hi hn0 hm0 hsX hcr
  go_enter Tryz.func109, Tryz.ntmps109
  go_wp2_with fail
  refine wp_region_held_drew (S := fun W_ => Fr (fun _ => False) w W_) (by kernel_rfl) ((Fr.refl _ w).drew) (fun hHeld => ?_)
  refine tq 8 [0,1,2,3,4,5,6,7] ?_
  iterate 7 refine sf HCt.out ?_
  refine sf HCt.out ?_
  try simp only [Act.put, sA, sB, sC]
  refine sz ?_
  try simp only [Act.put, sA, sB, sC]
  refine rl 8 rfl (fun K hK => ?_)
  go_simp
  go_wp2_with (first | (go_at_call 155; refine (HRe.out _ hHeld).mono ?_; rintro r w1 ⟨⟨o, rfl, ho⟩, b1⟩))
  have ho := Lib.hid ho
  refine hK.out _ _ (hHeld.trans (Fr.b0 b1) (fun _ h => h.elim)) (fun hHeld => ?_)
  clear hK K
  refine tq 5 [9,10,11,12,13] ?_
  iterate 4 refine sf HCt.out ?_
  refine sf HCt.out ?_
  try simp only [Act.put, sA, sB, sC]
  refine sz ?_
  try simp only [Act.put, sA, sB, sC]
  refine wpAnyH_done (by kernel_rfl) ?_ _
  have F1 := Lib.hid hHeld
  obtain ⟨A2, c2, B2, d2, T2, ct2, tb2, hO⟩ := ho.out
  have H1 := Lib.hid hO
  have hO2 : ShIn (w1.setCell ⟨o, 4, none⟩ (.int .i64 X.done)) o w.heap.size { X with tabs := uptoL n (fun j => X.tabs.getD j []) (fun _ => []) 0 } A2 c2 B2 d2 T2 ct2 tb2 := by
    have := hO.setDone X.done
    rw [HsX.out]
    exact this
  have fD : Fr (fun i => i = o) w1 (w1.setCell ⟨o, 4, none⟩ (.int .i64 X.done)) := (Fr.refl (fun i => i = o) w1).setCell (p := ⟨o, 4, none⟩) (.inl rfl) _
  have hog : w.heap.size ≤ o := hO.tge
  have F2 : Hid (Fr (fun _ => False) w (w1.setCell ⟨o, 4, none⟩ (.int .i64 X.done))) := F1.out.trans fD (fun i hi => .inr (by omega))
  have H2 := Lib.hid hO2
  have z4 := hO.blk.cell 4
  have zf := hO.blk.frozen 4
  obtain ⟨_, _, _, _, k4, _⟩ := HCt.out w1 F1.out
  have k5 := (HCt.out _ F2.out).2.2.2.2.2
  simp only [List.getElem?_toArray, List.getElem?_cons_succ, List.getElem?_cons_zero] at z4
  have hoT2 : ∃ gr, T2 = some ⟨gr, 0, none⟩ := own_addr hO.row (show 0 < X.tiers.length by omega)
  obtain ⟨gr, rfl⟩ := hoT2
  clear hHeld b1 ho hO hO2 fD
  go_wp2_with fail
  go_loopw [33, 5, 6] (fun i _ _ wr => ∃ (k : Nat) (tbk : List (Nat × Nat)), k ≤ n ∧ i = .int .i64 k ∧ ShIn wr o w.heap.size { X with tabs := uptoL n (fun j => X.tabs.getD j []) (fun _ => []) k } A2 c2 B2 d2 (some ⟨gr, 0, none⟩) ct2 tbk ∧ Fr (fun _ => False) w wr) (fun i _ _ _ => n - (intOf i).toNat)
  case atStart => exact ⟨0, tb2, Nat.zero_le _, rfl, H2.out, F2.out⟩
  case round =>
    obtain ⟨k, tbk, hk, rfl, hS, hf⟩ := hrel
    have HS := Lib.hid hS
    have Hf := Lib.hid hf
    clear hS hf
    by_cases hlt : k < n
    · obtain ⟨g, b, x, L, t1, t2, t3, hT⟩ := (HI.out.fr0 Hf.out).tabAt (k := k) (by rw [Hn0.out]; exact hlt)
      have hLk : X.tabs.getD k [] = L := by rw [List.getD_eq_getElem?_getD, t3]; rfl
      have pk := Hf.out.cell (Hcr.out k _ (ptrs_get t1)) (fun h => h)
      try simp only at pk
      have HTc : Hid (∀ W, Fr (fun _ => False) wr W → Calls Tryz.prog 143 #[.pointer (some ⟨g, 0, none⟩)] W fun r w' => (∃ g' b', r = .returned (.pointer (some ⟨g', 0, none⟩)) ∧ TabAt w' g' x.every b' L ∧ W.heap.size ≤ g' ∧ W.heap.size ≤ b') ∧ Below W.heap.size W w') := fun W f => tabcopy_any g x.every b L W (hT.fr0 f)
      have kn : 0 ≤ (k : Int) ∧ (k : Int) < (n : Int) := by omega
      have g0 : decide ((k : Int) < (n : Int)) = true := decide_eq_true (by omega)
      have hqw : IntKind.i64.wrap ((k : Int) + 1) = (k : Int) + 1 := by simp [IntKind.wrap, IntKind.signed, IntKind.bits]; omega
      obtain ⟨csr, hcsr⟩ := own_blk HS.out.row
      have Hgr : Hid (∀ W, Fr (fun _ => False) wr W → W.cell? ⟨gr, k, none⟩ = some (csr.getD k undef) ∧ W.frozen? ⟨gr, k, none⟩ = false) := fun W f => by
        have hB := hcsr.fr f (fun h => h)
        have hlen := own_len HS.out.row hcsr
        refine ⟨?_, hB.frozen k⟩
        rw [hB.cell k, Array.getD_eq_getD_getElem?, Array.getElem?_eq_getElem (by have hX : k < X.tiers.length := by rw [Hn0.out]; exact hlt
                                                                                  have : X.tiers.length ≤ csr.size := hlen
                                                                                  omega)]
        rfl
      have H5 : Hid (∀ W, Fr (fun i => i = gr) wr W → W.cell? ⟨o, 5, none⟩ = some (.slice (some ⟨gr, 0, none⟩) n ct2)) := fun W f => by
        have h := (HS.out.cells f (fun e => by subst e; exact own_blk_ne HS.out.row HS.out.blk (by decide) rfl)).2.2.2.2.2
        have e : ({ X with tabs := uptoL n (fun j => X.tabs.getD j []) (fun _ => []) k } : ShX).tiers.length = n := Hn0.out
        rw [e] at h
        exact h
      have HZ : Hid (∀ W g' b', Fr (fun _ => False) wr W → TabAt W g' x.every b' L → wr.heap.size ≤ g' → wr.heap.size ≤ b' → ShIn (W.setCell ⟨gr, k, none⟩ (.pointer (some ⟨g', 0, none⟩))) o w.heap.size { X with tabs := uptoL n (fun j => X.tabs.getD j []) (fun _ => []) (k + 1) } A2 c2 B2 d2 (some ⟨gr, 0, none⟩) ct2 (tbk.set k (g', b')) ∧ Fr (fun _ => False) w (W.setCell ⟨gr, k, none⟩ (.pointer (some ⟨g', 0, none⟩)))) := fun W g' b' f hTn hg hb => by
        have q := (HS.out.fr0 f).setTab (k := k) (g := g') (b := b') (x := x) (l' := L) (by show _ < X.tiers.length; rw [Hn0.out]; exact hlt) t2 hTn (Nat.le_trans Hf.out.size hg) (Nat.le_trans Hf.out.size hb) (fun q hq => by have := (HS.out.map_ ⟨q, hq, rfl⟩).2.1; omega)
        simp only at q
        have e := uptoL_set (n := n) (f := fun j => X.tabs.getD j []) (g := fun _ => ([] : List RecV)) (i := k) hlt
        try simp only at e
        rw [hLk] at e
        rw [e] at q
        exact ⟨q, (Hf.out.trans f (fun _ h => h.elim)).trans ((Fr.refl (fun i => i = gr) W).setCell (p := ⟨gr, k, none⟩) (.inl rfl) _) (fun i hi => .inr (by rw [hi]; exact (HS.out.row.lt gr rfl).1))⟩
      clear t1 t2 t3 hT hLk hcsr z4 zf k4 k5
      have k5 := (HCt.out _ Hf.out).2.2.2.2.2
      go_wp2_with fail
      refine wp_region_held_drew (S := fun W_ => Fr (fun i => i = gr) wr W_) (by kernel_rfl) ((Fr.refl _ wr).drew) (fun hHeld => ?_)
      refine tq 6 [0,1,2,3,4,5] ?_
      iterate 5 refine sf H5.out ?_
      refine sk ?_
      try simp only [Act.put, sA, sB, sC]
      refine sz ?_
      try simp only [Act.put, sA, sB, sC]
      refine rl 6 rfl (fun K hK => ?_)
      go_simp
      go_wp2_with (first | (go_at_call 143; refine (HTc.out _ (Fr.refl _ wr).drew).mono ?_; rintro r w6 ⟨⟨gn, bn, rfl, hTn, hgn, hbn⟩, b6⟩))
      have Q6 := Lib.hid (HZ.out w6 gn bn ((Fr.refl _ wr).drew.trans (Fr.b0 b6) (fun _ h => h.elim)) hTn hgn hbn)
      obtain ⟨y1, y2⟩ := Hgr.out w6 ((Fr.refl _ wr).drew.trans (Fr.b0 b6) (fun _ h => h.elim))
      refine hK.out _ _ (hHeld.trans (Fr.b0 b6) (fun _ h => h.elim)) (fun hHeld => ?_)
      clear hK K
      refine tl 7 ?v20 rfl ?q20 ?r20
      case q20 => intro W hSw; (try have q5 := H5.out W hSw); go_simp; try rfl
      try simp only [Act.put, sA, sB, sC]
      refine rl 8 rfl (fun K hK => ?_)
      go_simp
      refine hK.out _ _ (hHeld.setCell (.inl rfl) _) (fun hHeld => ?_)
      clear hK K
      try simp only [Act.put, sA, sB, sC]
      refine wpAnyH_done (by kernel_rfl) ?_ _
      clear hHeld b6 hTn
      go_wp2_with fail
      go_roundw
      case rel => exact ⟨k + 1, _, by omega, by go_num, Q6.out.1, Q6.out.2⟩
      case measure => simp [intOf]; omega
    · obtain rfl : k = n := by omega
      have g0 : decide ((k : Int) < (k : Int)) = false := decide_eq_false (by omega)
      rw [HeX.out] at HS
      clear z4 zf k4 k5
      go_wp2_with fail
      go_ret
      exact ⟨⟨o, _, rfl, _, _, _, _, _, _, _, HS.out, rfl⟩, Hf.out.below (fun _ h => h.elim)⟩
end Go.Proofs.YteajonicnkpbbaaGreatDoor
