/- Walk of shadow: Note. -/
import Derived.Test.YtkfdgodngbinlaaGreatDoorShStepU
import Derived.Test.YtkfdgodngbinlaaGreatDoorShA
import Derived.Test.YtkfdgodngbinlaaGreatDoorPlanBuild
import Derived.Test.YtkfdgodngbinlaaGreatDoorGoodX
import Derived.Test.YtkfdgodngbinlaaGreatDoorRollLaw
import Derived.Test.YtkfdgodngbinlaaGreatDoorShLoad
import Derived.Test.YtkfdgodngbinlaaGreatDoorShCopy
import Derived.Test.YtkfdgodngbinlaaGreatDoorTk
namespace Go.Proofs.YtkfdgodngbinlaaGreatDoor
set_option linter.all false
open Go.RowKit

def notesT (Y : TiersX) (done : Int) (tabs : List (List RecV)) (ls : List SampV) : List (List RecV) := ls.foldl (noteT Y done) tabs
theorem notesT_len {Y : TiersX} {done : Int} {n : Nat} (hY : Y.tiers.length = n) : ∀ {ls : List SampV} {tabs : List (List RecV)}, tabs.length = n → (notesT Y done tabs ls).length = n
 | [], _, h => h
 | s :: ls, tabs, _ => notesT_len hY (ls := ls) (tabs := noteT Y done tabs s) (by unfold noteT; rw [List.length_map, List.length_range, hY])
theorem noteT_short {Y : TiersX} {done : Int} {tabs : List (List RecV)} {c : Nat} (h : ∀ m ∈ tabs, m.length ≤ c) (s : SampV) : ∀ m ∈ noteT Y done tabs s, m.length ≤ c + 1 := by
 intro m hm
 unfold noteT at hm
 obtain ⟨j, _, rfl⟩ := List.mem_map.1 hm
 have h2 : (tabs.getD j []).length ≤ c := by
  rcases getD_mem_or (L := tabs) j with h3 | h3
  ·exact h _ h3
  ·rw [h3]; exact Nat.zero_le _
 unfold noteL
 split
 ·split
  ·exact Nat.le_trans (addV_len_le _ _ _) (by omega)
  ·omega
 ·omega
theorem notesT_short {Y : TiersX} {done : Int} : ∀ {ls : List SampV} {tabs : List (List RecV)} {c : Nat}, (∀ m ∈ tabs, m.length ≤ c) → ∀ m ∈ notesT Y done tabs ls, m.length ≤ c + ls.length
 | [], _, _, h => h
 | s :: ls, tabs, c, h => fun m hm => by
  have := notesT_short (ls := ls) (noteT_short (Y := Y) (done := done) h s) m hm
  rw [List.length_cons]
  omega
set_option maxRecDepth 100000 in
set_option maxHeartbeats 8000000 in
theorem snote_any {nm nm2 : ByteArray} {l lt : List TierV} {fl : List Int} {o : Int} {lo : Nat} {W : World} {t s base : Nat} {X : TiersX} {S : ShX} {Ft F : Nat → Prop} {cc : Nat} (p : PolOk nm l) (p2 : PolOk nm2 lt) (hnm2 : nm2.size ≤ maxLen) (h : Tio nm l fl lo W t X Ft cc) (hc : cc ≤ 1000000) (hfl : ∀ f ∈ fl, 0 ≤ f ∧ f ≤ 2199023255552) (hs : ShOn W s base S F) (h1 : S.name = nm2) (h2 : S.tiers = lt) (h3 : S.srcs = srcs o l fl lt) (hd : 0 ≤ S.done ∧ S.done ≤ 100) (hl : ∀ m ∈ S.tabs, m.length ≤ 1000000) (ls : List SampV) (A1 : Option Addr) (n1 c1 : Nat) (hr : Rd W 3 A1 n1 (scells ls)) (hsw : ∀ z ∈ ls, z.wf) (hn1' : n1 ≤ 1000) (hA : ∀ j, adF A1 n1 j → ¬ F j) :
  Calls Tryz.prog 51 #[.pointer (some ⟨s, 0, none⟩), .pointer (some ⟨t, 0, none⟩), .slice A1 n1 c1] W fun r w' => r = .returned (.tuple #[]) ∧ ShOn w' s base { S with tabs := notesT (buildX X nm2 lt (srcs o l fl lt)) S.done S.tabs ls } F ∧ Fr F W w' := by
 obtain ⟨A, c, B, d, T, ct, tb, hi, rfl⟩ := hs
 obtain ⟨n, hn0⟩ : ∃ n, lt.length = n := ⟨_, rfl⟩
 have hSn : S.tiers.length = n := by rw [h2, hn0]
 have hSm : S.srcs.length = n := by rw [h3]; unfold srcs; rw [List.length_map, hn0]
 have hfive := p2.five
 have hn5 : n ≤ 5 := by omega
 have hn1 : 0 < n := by have := p2.pos; omega
 have HI := Lib.hid hi
 have htc : n ≤ c := by have := (own_any hi.tiers).1; omega
 obtain ⟨ad, hadT, hcr⟩ := (own_any hi.row).2.2.1.2 (show 0 < S.tiers.length by omega)
 subst hadT
 have Hcr := Lib.hid hcr
 have hrdA := (own_any hi.tiers).2.2.1
 rw [hSn, h2] at hrdA
 obtain ⟨aA, haA, _⟩ := hrdA.2 hn1
 subst haA
 have HrdA := Lib.hid hrdA
 have HBu : Hid (Calls Tryz.prog 86 #[.agg #[.string nm2, .slice (some aA) n c, .slice B n d], .pointer (some ⟨t, 0, none⟩)] W fun r w' => (∃ t' F', r = .returned (.tuple #[.pointer (some ⟨t', 0, none⟩), .int .i64 0]) ∧ Tio nm2 lt (basesV X.now l fl (srcs o l fl lt) lt) W.heap.size w' t' (buildX X nm2 lt (srcs o l fl lt)) F' cc ∧ ∀ j, F' j → W.heap.size ≤ j) ∧ Below W.heap.size W w') := by
  have q2 := (own_any HI.out.srcs).2.2.1
  rw [hSm, h3] at q2
  exact tio_build p p2 hnm2 h hc hfl (some aA) n c B d HrdA.out htc q2 W.heap.size (Nat.le_refl _)
 obtain ⟨bs, hbs⟩ : ∃ v, basesV X.now l fl (srcs o l fl lt) lt = v := ⟨_, rfl⟩
 obtain ⟨Y, hY⟩ : ∃ v, buildX X nm2 lt (srcs o l fl lt) = v := ⟨_, rfl⟩
 have HYt : Hid (Y.tiers = lt) := by show _ = _; rw [← hY]; rfl
 rw [hbs, hY] at HBu
 rw [hY]
 have Hn0 := Lib.hid hn0
 have HSn := Lib.hid hSn
 have Ht := Lib.hid h2
 have Hl := Lib.hid hl
 have Hsw := Lib.hid hsw
 have Hr := Lib.hid hr
 have Hlen := Lib.hid (Rd.samps_len hr)
 have HA := Lib.hid hA
 have HCs : Hid (∀ {W' : World} {G : Nat → Prop}, Fr G W W' → ¬ G s → W'.cell? ⟨s, 0, none⟩ = some (.string nm2) ∧ W'.cell? ⟨s, 1, none⟩ = some (.slice (some aA) n c) ∧ W'.cell? ⟨s, 2, none⟩ = some (.slice B n d) ∧ W'.cell? ⟨s, 4, none⟩ = some (.int .i64 S.done) ∧ W'.cell? ⟨s, 5, none⟩ = some (.slice (some ad) n ct)) := fun f hg => by
  obtain ⟨c0, c1, c2, _, c4, c5⟩ := HI.out.cells f hg
  rw [h1] at c0
  rw [hSn] at c1 c5
  rw [hSm] at c2
  exact ⟨c0, c1, c2, c4, c5⟩
 have HMp : Hid (∀ j, tM tb j → ∃ es ck, W.heap[j]? = some (.map es ck)) := fun j hj => (HI.out.map_ hj).2.2
 have HMl : Hid (∀ j, tM tb j → j < W.heap.size) := fun j hj => (HI.out.map_ hj).2.1
 have HTl : Hid (S.tabs.length = n) := by show _ = _; rw [HI.out.tlen, HSn.out]
 obtain ⟨c0, c1, c2, c4, c5⟩ := HCs.out (Fr.refl (fun _ => False) W) (fun h => h)
 clear hi hn0 hSm hbs hY h1 h2 h3 h hl hSn hcr hrdA hsw hr hA
 go_enter Tryz.func51, Tryz.ntmps51
 go_wp2_with fail
 refine HBu.out.mono ?_
 rintro r w1 ⟨⟨u, Fu, rfl, T1, hFu⟩, b1⟩
 have F1 : Hid (Fr (fun _ => False) W w1) := Fr.b0 b1
 have HT1 := Lib.hid T1
 have HFu := Lib.hid hFu
 obtain ⟨tA, tc, tB, td, hR⟩ := T1.reach
 have HR := Lib.hid hR
 obtain ⟨mf, hmf⟩ : ∃ m, bs.length = m := ⟨_, rfl⟩
 have hY0 := T1.good.now
 -- frames of the maps alone
 have HFm : Hid (∀ W', Fr (tM tb) w1 W' → Fr (fun j => tM tb j ∧ ∃ es ck, w1.heap[j]? = some (.map es ck)) w1 W') := fun W' f => f.mono (fun j hj => .inl ⟨hj, by obtain ⟨es, ck, h⟩ := HMp.out j hj; exact ⟨es, ck, by rw [F1.out.block j (HMl.out j hj) (fun h => h)]; exact h⟩⟩)
 have HCw : Hid (∀ W_, Fr (tM tb) w1 W_ → W_.cell? ⟨s, 0, none⟩ = some (.string nm2) ∧ W_.cell? ⟨s, 1, none⟩ = some (.slice (some aA) n c) ∧ W_.cell? ⟨s, 2, none⟩ = some (.slice B n d) ∧ W_.cell? ⟨s, 4, none⟩ = some (.int .i64 S.done) ∧ W_.cell? ⟨s, 5, none⟩ = some (.slice (some ad) n ct) ∧ W_.cell? ⟨u, 0, none⟩ = some (.int .i64 Y.now) ∧ W_.cell? ⟨u, 1, none⟩ = some (.string nm2) ∧ W_.cell? ⟨u, 2, none⟩ = some (.slice tA n tc) ∧ W_.cell? ⟨u, 3, none⟩ = some (.slice tB mf td)) := fun W_ f => by
  obtain ⟨k0, k1, k2, k3, k4⟩ := HCs.out F1.out (fun h => h)
  have r2 := HR.out.c2
  have r3 := HR.out.c3
  rw [Hn0.out] at r2
  rw [hmf] at r3
  have g := HFm.out W_ f
  exact ⟨mapcell g k0, mapcell g k1, mapcell g k2, mapcell g k3, mapcell g k4, mapcell g HR.out.c0, mapcell g HR.out.c1, mapcell g r2, mapcell g r3⟩
 have HRdm : Hid (∀ W_, Fr (tM tb) w1 W_ → Rd W_ 4 (some aA) n (tcells lt)) := fun W_ f => (HrdA.out.fr0 F1.out).mapfr (by decide) (HFm.out W_ f)
 have HFi : Hid (∀ W_ (j : Nat) (y : TierV) (sn : ByteArray), Fr (tM tb) w1 W_ → lt[j]? = some y → sn.size ≤ maxLen → Calls Tryz.prog 92 #[.agg #[.string nm2, .slice (some aA) n c, .slice B n d], .int .i64 S.done, .int .i64 (j : Nat), .string sn] W_ fun r w' => r = .returned (.bool (filB lt S.done j sn)) ∧ Below W_.heap.size W_ w') := fun W_ j y sn f hy hsz => by
  have := filled_any nm2 lt (some aA) n c B n d S.done j y sn W_ (HRdm.out W_ f) htc (by omega) (fun x hx => (check_mem p2.ck hx).2.2.2.2.2) hy hsz
  have e : filB lt S.done j sn = decide (shardV sn y.shards + fillsV (lt.take j) < S.done) := by unfold filB; rw [hy]
  rw [e]
  exact this
 have HFr : Hid (∀ W_ (j : Nat), Fr (tM tb) w1 W_ → j < n → Calls Tryz.prog 54 #[.agg #[.int .i64 Y.now, .string nm2, .slice tA n tc, .slice tB mf td], .int .i64 (j : Nat)] W_ fun r w' => r = .returned (.int .i64 (fromV Y.now lt bs j)) ∧ Below W_.heap.size W_ w') := fun W_ j f hj => by
  have g := HFm.out W_ f
  have hR' : ReachIn W_ u Y.now nm2 lt bs tA tc tB td := ⟨mapcell g HR.out.c0, mapcell g HR.out.c1, mapcell g HR.out.c2, mapcell g HR.out.c3, HR.out.rt.mapfr (by decide) g, HR.out.rf.mapfr (by decide) g, HR.out.le⟩
  have := reach_from p2 hR' hY0 j (by rw [Hn0.out]; exact hj)
  rw [Hn0.out, hmf] at this
  exact this
 have hYf : Y.floors = bs := T1.good.floors
 have HNl : Hid (∀ j y (z : SampV) m, lt[j]? = some y → noteL Y S.done z j m = if filB lt S.done j z.name && decide (fromV Y.now lt bs j ≤ floorV z.time y.every) then addV y.every m ⟨z.name, floorV z.time y.every, aggOne z.value⟩ else m) := fun j y z m hy => by
  unfold noteL
  rw [HYt.out, hYf, hy]
 have HRs : Hid (∀ W_, Fr (tM tb) w1 W_ → Rd W_ 3 A1 n1 (scells ls)) := fun W_ f => (Hr.out.fr0 F1.out).fr f (fun j hj hm => HA.out j hj (.inr hm))
 have HI1 : Hid (ShIn w1 s base { S with tabs := notesT Y S.done S.tabs (ls.take 0) } (some aA) c B d (some ad) ct tb) := HI.out.fr0 F1.out
 have HLq : Hid (∀ q, (notesT Y S.done S.tabs (ls.take q)).length = n) := fun q => notesT_len (by rw [HYt.out]; exact Hn0.out) HTl.out
 have HLl : Hid (∀ q, ∀ m ∈ notesT Y S.done S.tabs (ls.take q), m.length ≤ 1000000 + q) := fun q m hm => by
  have := notesT_short (Y := Y) (done := S.done) (ls := ls.take q) Hl.out m hm
  rw [List.length_take] at this
  omega
 clear T1 b1 HBu c0 c1 c2 c4 c5 hR hFu hmf hYf
 go_wp2_with fail
 go_loopw [28] (fun i wr => ∃ q : Nat, q ≤ n1 ∧ i = .int .i64 q ∧ ShIn wr s base { S with tabs := notesT Y S.done S.tabs (ls.take q) } (some aA) c B d (some ad) ct tb ∧ Fr (tM tb) w1 wr) (fun i _ => n1 - (intOf i).toNat)
 case atStart => exact ⟨0, Nat.zero_le _, rfl, HI1.out, Fr.refl _ _⟩
 case round =>
  obtain ⟨q, hq, rfl, hiq, hfq⟩ := hrel
  have Hiq := Lib.hid hiq
  have Hfq := Lib.hid hfq
  clear hiq hfq
  by_cases hlt : q < n1
  ·obtain ⟨ar, z, rfl, hz, e0, e1, e2⟩ := (HRs.out wr Hfq.out).samp_ (k := q) hlt
   have g0 : decide ((q : Int) < (n1 : Int)) = true := decide_eq_true (by omega)
   have qn : 0 ≤ (q : Int) ∧ (q : Int) < (n1 : Int) := by omega
   have hqw : IntKind.i64.wrap ((q : Int) + 1) = (q : Int) + 1 := by simp [IntKind.wrap, IntKind.signed, IntKind.bits]; omega
   have hzw := Hsw.out z (mem_of_get hz)
   have Hz := Lib.hid hz
   have HNq : Hid (notesT Y S.done S.tabs (ls.take (q + 1)) = noteT Y S.done (notesT Y S.done S.tabs (ls.take q)) z) := by
    show _ = _
    rw [take_snoc hz]
    unfold notesT
    rw [List.foldl_append]
    rfl
   obtain ⟨Lq, hLq⟩ : ∃ v, notesT Y S.done S.tabs (ls.take q) = v := ⟨_, rfl⟩
   have HLn := HLq.out q
   have HLs := Lib.hid (HLl.out q)
   rw [hLq] at HNq HLn Hiq HLs
   obtain ⟨zn, zt, zv⟩ := z
   obtain ⟨hzt, hzv, hzs⟩ := hzw
   simp only at e0 e1 e2 hzt hzv hzs
   have k1 := fun o => (HCw.out _ (Hfq.out.trans (Fr.none_alloc wr o) (fun _ h => h.elim))).2.1
   obtain ⟨zb, hzb⟩ : ∃ v, wr.heap.size = v := ⟨_, rfl⟩
   obtain ⟨ff, hff⟩ : ∃ f : Nat → List RecV, (fun k => noteL Y S.done ⟨zn, zt, zv⟩ k (Lq.getD k [])) = f := ⟨_, rfl⟩
   obtain ⟨gg, hgg⟩ : ∃ f : Nat → List RecV, (fun k => Lq.getD k []) = f := ⟨_, rfl⟩
   have Hff : Hid (∀ k y, lt[k]? = some y → ff k = if filB lt S.done k zn && decide (fromV Y.now lt bs k ≤ floorV zt y.every) then addV y.every (gg k) ⟨zn, floorV zt y.every, aggOne zv⟩ else gg k) := fun k y hy => by
    rw [← hff, ← hgg]
    exact HNl.out k y ⟨zn, zt, zv⟩ _ hy
   have Hgl : Hid (∀ k, (gg k).length ≤ 1001000) := fun k => by
    rw [← hgg]
    have := getD_len HLs.out k
    simp only
    omega
   have He0 : Hid (uptoL n ff gg 0 = Lq) := by show _ = _; rw [uptoL_zero, ← hgg]; exact getD_all HLn
   have HeN : Hid (uptoL n ff gg n = notesT Y S.done S.tabs (ls.take (q + 1))) := by
    show _ = _
    rw [HNq.out, uptoL_all, ← hff]
    unfold noteT
    rw [HYt.out, Hn0.out]
   have Hzv := Lib.hid hzv
   clear hff hgg hLq
   go_wp2_with fail
   obtain ⟨W1, hW1⟩ : ∃ W1, W1 = wr.alloc (.cells #[.string zn, .int .i64 zt, .int .i64 zv] 44) := ⟨_, rfl⟩
   rw [← hW1]
   try rw [hzb]
   have hbx : Hid (Blk W1 zb 44 #[.string zn, .int .i64 zt, .int .i64 zv]) := by show Blk _ _ _ _; rw [hW1]; exact Blk.new' hzb.symm _ _
   have HF1 : Hid (Fr (tM tb) w1 W1) := by show Fr _ _ _; rw [hW1]; exact Hfq.out.trans (Fr.none_alloc _ _) (fun _ h => h.elim)
   have HI0 : Hid (ShIn W1 s base { S with tabs := uptoL n ff gg 0 } (some aA) c B d (some ad) ct tb) := by
    show ShIn _ _ _ _ _ _ _ _ _ _ _
    rw [hW1, He0.out]
    exact Hiq.out.fr0 (Fr.none_alloc _ _)
   have HzM : Hid (∀ j, tM tb j → zb ≠ j) := fun j hj e => by
    have h1 := HMl.out j hj
    have h2 := F1.out.size
    have h3 := Hfq.out.size
    omega
   clear hW1 e0 e1 e2 k1 Hiq
   go_loopw [39] (fun i wr => ∃ j : Nat, j ≤ n ∧ i = .int .i64 j ∧ ShIn wr s base { S with tabs := uptoL n ff gg j } (some aA) c B d (some ad) ct tb ∧ Fr (tM tb) W1 wr) (fun i _ => n - (intOf i).toNat)
   case atStart => exact ⟨0, Nat.zero_le _, rfl, HI0.out, Fr.refl _ _⟩
   case round =>
    obtain ⟨j, hj, rfl, hij, hfj⟩ := hrel
    have Hij := Lib.hid hij
    have Hfj := Lib.hid hfj
    have Hbx := Lib.hid (hbx.out.fr hfj (fun hm => HzM.out zb hm rfl))
    have Hfw : Hid (Fr (tM tb) w1 wr) := HF1.out.trans hfj (fun i hi => .inl hi)
    clear hij hfj
    by_cases hlj : j < n
    ·obtain ⟨g, b, y, m, h1, h2, h3, hTb⟩ := Hij.out.tabAt (k := j) (by show _ < S.tiers.length; rw [HSn.out]; exact hlj)
     have hy : lt[j]? = some y := by rw [← Ht.out]; exact h2
     have hmg : m = gg j := by
      have h4 : (uptoL n ff gg j)[j]? = some m := h3
      rw [uptoL_get hlj] at h4
      exact (Option.some.inj h4).symm
     subst hmg
     obtain ⟨ad', ea, hcr⟩ := (own_any Hij.out.row).2.2.1.2 (show 0 < S.tiers.length by rw [HSn.out]; omega)
     obtain rfl : ad = ad' := Option.some.inj ea
     have p0 := hcr j _ (ptrs_get h1)
     try simp only at p0
     obtain ⟨aA', y', ea2, hy', d0, d1, d2, d3⟩ := (HRdm.out wr Hfw.out).tier hlj
     obtain rfl : aA = aA' := Option.some.inj ea2
     obtain rfl : y = y' := by rw [hy] at hy'; exact Option.some.inj hy'
     have Hy := Lib.hid hy
     have kj : 0 ≤ (j : Int) ∧ (j : Int) < (n : Int) := by omega
     have gj : decide ((j : Int) < (n : Int)) = true := decide_eq_true (by omega)
     have hjw : IntKind.i64.wrap ((j : Int) + 1) = (j : Int) + 1 := by simp [IntKind.wrap, IntKind.signed, IntKind.bits]; omega
     obtain ⟨es, ck, hbm⟩ := hTb.own.isMap
     try simp only at hbm
     have hpb : (ad.add j).block ≠ b := cell_ne_map' p0 hbm
     have hzbb : zb ≠ b := HzM.out b ⟨_, List.mem_of_getElem? h1, rfl⟩
     have Hup : Hid (∀ W_, Fr (fun i => i = b) wr W_ → Fr (tM tb) w1 W_) := fun W_ f => Hfw.out.trans f (fun i hi => .inl ⟨_, List.mem_of_getElem? h1, hi⟩)
     have Hup0 : Hid (∀ W_, Fr (fun _ => False) wr W_ → Fr (tM tb) w1 W_) := fun W_ f => Hup.out W_ (f.mono (fun _ h => h.elim))
     have HCb : Hid (∀ W_, Fr (fun i => i = b) wr W_ → (W_.cell? ⟨s, 0, none⟩ = some (.string nm2) ∧ W_.cell? ⟨s, 1, none⟩ = some (.slice (some aA) n c) ∧ W_.cell? ⟨s, 2, none⟩ = some (.slice B n d) ∧ W_.cell? ⟨s, 4, none⟩ = some (.int .i64 S.done) ∧ W_.cell? ⟨s, 5, none⟩ = some (.slice (some ad) n ct) ∧ W_.cell? ⟨u, 0, none⟩ = some (.int .i64 Y.now) ∧ W_.cell? ⟨u, 1, none⟩ = some (.string nm2) ∧ W_.cell? ⟨u, 2, none⟩ = some (.slice tA n tc) ∧ W_.cell? ⟨u, 3, none⟩ = some (.slice tB mf td)) ∧ W_.cell? ⟨zb, 0, none⟩ = some (.string zn) ∧ W_.cell? ⟨zb, 1, none⟩ = some (.int .i64 zt) ∧ W_.cell? ⟨zb, 2, none⟩ = some (.int .i64 zv) ∧ W_.cell? (ad.add j) = some (.pointer (some ⟨g, 0, none⟩))) := fun W_ f => by
      have bz := Hbx.out.fr f hzbb
      exact ⟨HCw.out W_ (Hup.out W_ f), bz.cell 0, bz.cell 1, bz.cell 2, f.cell p0 hpb⟩
     have HC : Hid (∀ W_, Fr (fun _ => False) wr W_ → (W_.cell? ⟨s, 0, none⟩ = some (.string nm2) ∧ W_.cell? ⟨s, 1, none⟩ = some (.slice (some aA) n c) ∧ W_.cell? ⟨s, 2, none⟩ = some (.slice B n d) ∧ W_.cell? ⟨s, 4, none⟩ = some (.int .i64 S.done) ∧ W_.cell? ⟨s, 5, none⟩ = some (.slice (some ad) n ct) ∧ W_.cell? ⟨u, 0, none⟩ = some (.int .i64 Y.now) ∧ W_.cell? ⟨u, 1, none⟩ = some (.string nm2) ∧ W_.cell? ⟨u, 2, none⟩ = some (.slice tA n tc) ∧ W_.cell? ⟨u, 3, none⟩ = some (.slice tB mf td)) ∧ W_.cell? ⟨zb, 0, none⟩ = some (.string zn) ∧ W_.cell? ⟨zb, 1, none⟩ = some (.int .i64 zt) ∧ W_.cell? ⟨zb, 2, none⟩ = some (.int .i64 zv) ∧ W_.cell? (ad.add j) = some (.pointer (some ⟨g, 0, none⟩))) := fun W_ f => HCb.out W_ (f.mono (fun _ h => h.elim))
     obtain ⟨fb, hfb⟩ : ∃ v, filB lt S.done j zn = v := ⟨_, rfl⟩
     obtain ⟨fv, hfv⟩ : ∃ v, fromV Y.now lt bs j = v := ⟨_, rfl⟩
     obtain ⟨sv, hsv⟩ : ∃ v, floorV zt y.every = v := ⟨_, rfl⟩
     have HFi1 : Hid (∀ W_, Fr (fun _ => False) wr W_ → Calls Tryz.prog 92 #[.agg #[.string nm2, .slice (some aA) n c, .slice B n d], .int .i64 S.done, .int .i64 (j : Nat), .string zn] W_ fun r w' => r = .returned (.bool fb) ∧ Below W_.heap.size W_ w') := fun W_ f => by
      rw [← hfb]
      exact HFi.out W_ j y zn (Hup0.out W_ f) Hy.out hzs
     have HFr1 : Hid (∀ W_, Fr (fun _ => False) wr W_ → Calls Tryz.prog 54 #[.agg #[.int .i64 Y.now, .string nm2, .slice tA n tc, .slice tB mf td], .int .i64 (j : Nat)] W_ fun r w' => r = .returned (.int .i64 fv) ∧ Below W_.heap.size W_ w') := fun W_ f => by
      rw [← hfv]
      exact HFr.out W_ j (Hup0.out W_ f) hlj
     have hev := check_mem p2.ck (mem_of_get hy)
     have HFl : Hid (∀ W_, Calls Tryz.prog 91 #[.int .i64 zt, .int .i64 y.every] W_ fun r w' => r = .returned (.int .i64 sv) ∧ W_ = w') := fun W_ => by
      rw [← hsv]
      exact floor_any zt y.every hzt.1 hzt.2 (by omega) (by omega) W_
     have hsvi : in64 sv := by rw [← hsv]; exact floor_in hzt.1 hzt.2
     have Hfk : Hid (ff j = if fb && decide (fv ≤ sv) then addV y.every (gg j) ⟨zn, sv, aggOne zv⟩ else gg j) := by
      show _ = _
      rw [Hff.out j y hy, hfb, hfv, hsv]
     have Hnx : Hid ((uptoL n ff gg j).set j (ff j) = uptoL n ff gg (j + 1)) := uptoL_set hlj
     have Hsame : Hid (ff j = gg j → uptoL n ff gg (j + 1) = uptoL n ff gg j) := fun e => by rw [← Hnx.out, e]; exact set_same (uptoL_get hlj)
     have H1 := Lib.hid h1
     have H2 := Lib.hid h2
     have HTb0 := Lib.hid hTb
     have x1 := fun o => (Hbx.out.alloc o).cell 1
     simp only [List.getElem?_toArray, List.getElem?_cons_succ, List.getElem?_cons_zero] at x1
     have k1 := (HC.out wr (Fr.refl _ wr)).1.2.1
     clear hcr h1 h2 h3 hTb hy' hfb hfv hsv hbm hev ea ea2 p0 hy
     go_wp2_with fail
     obtain ⟨W2, hW2⟩ : ∃ v, v = wr.alloc (.cells #[.string y.name, .int .i64 y.every, .int .i64 y.keep, .int .i64 y.shards] 109) := ⟨_, rfl⟩
     rw [← hW2]
     have HF2 : Hid (Fr (fun _ => False) wr W2) := by show Fr _ _ _; rw [hW2]; exact Fr.none_alloc _ _
     clear hW2 x1 k1
     refine (HFl.out _).mono ?_
     rintro r W3 ⟨rfl, rfl⟩
     go_wp2_with fail
     cases fb
     ·refine wp_region_held_drew (S := fun W_ => Fr (fun _ => False) wr W_) (by kernel_rfl) (HF2.out.drew) (fun hHeld => ?_)
      refine tq 11 [0,1,2,3,4,5,6,7,8,9,10] ?_
      iterate 10 refine sf HC.out ?_
      refine sf HC.out ?_
      try simp only [Act.put, sA, sB, sC]
      refine sz ?_
      try simp only [Act.put, sA, sB, sC]
      refine rl 11 rfl (fun K hK => ?_)
      go_simp
      go_wp2_with (first | (go_at_call 92; refine (HFi1.out _ hHeld).mono ?_; rintro r w6 ⟨rfl, b6⟩))
      refine hK.out _ _ (hHeld.trans (Fr.b0 b6) (fun _ h => h.elim)) (fun hHeld => ?_)
      clear hK K
      refine tq 10 [12,13,14,15,16,17,18,19,20,21] ?_
      refine sk ?_
      try simp only [Act.put, sA, sB, sC]
      iterate 7 (refine su ?_; try simp only [Act.put, sA, sB, sC])
      refine su ?_
      refine sk ?_
      try simp only [Act.put, sA, sB, sC]
      refine sz ?_
      try simp only [Act.put, sA, sB, sC]
      refine wpAnyH_done (by kernel_rfl) ?_ _
      have G7 := Lib.hid hHeld
      clear hHeld
      go_wp2_with fail
      go_roundw
      case rel =>
       refine ⟨j + 1, by omega, by go_num, ?_, Hfj.out.trans G7.out (fun _ h => h.elim)⟩
       rw [Hsame.out (by rw [Hfk.out]; rfl)]
       exact Hij.out.fr0 G7.out
      case measure => simp [intOf]; omega
     ·refine wp_region_held_drew (S := fun W_ => Fr (fun _ => False) wr W_) (by kernel_rfl) (HF2.out.drew) (fun hHeld => ?_)
      refine tq 11 [0,1,2,3,4,5,6,7,8,9,10] ?_
      iterate 10 refine sf HC.out ?_
      refine sf HC.out ?_
      try simp only [Act.put, sA, sB, sC]
      refine sz ?_
      try simp only [Act.put, sA, sB, sC]
      refine rl 11 rfl (fun K hK => ?_)
      go_simp
      go_wp2_with (first | (go_at_call 92; refine (HFi1.out _ hHeld).mono ?_; rintro r w6 ⟨rfl, b6⟩))
      refine hK.out _ _ (hHeld.trans (Fr.b0 b6) (fun _ h => h.elim)) (fun hHeld => ?_)
      clear hK K
      refine tq 7 [12,13,14,15,16,17,18] ?_
      iterate 7 (refine sf HC.out ?_; try simp only [Act.put, sA, sB, sC])
      refine sz ?_
      try simp only [Act.put, sA, sB, sC]
      refine rl 19 rfl (fun K hK => ?_)
      go_simp
      go_wp2_with (first | (go_at_call 54; refine (HFr1.out _ hHeld).mono ?_; rintro r w7 ⟨rfl, b7⟩))
      refine hK.out _ _ (hHeld.trans (Fr.b0 b7) (fun _ h => h.elim)) (fun hHeld => ?_)
      clear hK K
      try simp only [Act.put, sA, sB, sC]
      refine tq 2 [20,21] ?_
      refine sf HC.out ?_
      refine sk ?_
      try simp only [Act.put, sA, sB, sC]
      refine sz ?_
      try simp only [Act.put, sA, sB, sC]
      refine wpAnyH_done (by kernel_rfl) ?_ _
      by_cases hge : fv ≤ sv
      ·have dg : decide (fv ≤ sv) = true := decide_eq_true hge
       have Hfk2 : Hid (ff j = addV y.every (gg j) ⟨zn, sv, aggOne zv⟩) := by show _ = _; rw [Hfk.out, dg]; rfl
       have G7 := Lib.hid hHeld
       have HTb := Lib.hid (HTb0.out.fr0 hHeld)
       have HC7 : Hid (∀ W_, Fr (fun i => i = b) w7 W_ → (W_.cell? ⟨s, 0, none⟩ = some (.string nm2) ∧ W_.cell? ⟨s, 1, none⟩ = some (.slice (some aA) n c) ∧ W_.cell? ⟨s, 2, none⟩ = some (.slice B n d) ∧ W_.cell? ⟨s, 4, none⟩ = some (.int .i64 S.done) ∧ W_.cell? ⟨s, 5, none⟩ = some (.slice (some ad) n ct) ∧ W_.cell? ⟨u, 0, none⟩ = some (.int .i64 Y.now) ∧ W_.cell? ⟨u, 1, none⟩ = some (.string nm2) ∧ W_.cell? ⟨u, 2, none⟩ = some (.slice tA n tc) ∧ W_.cell? ⟨u, 3, none⟩ = some (.slice tB mf td)) ∧ W_.cell? ⟨zb, 0, none⟩ = some (.string zn) ∧ W_.cell? ⟨zb, 1, none⟩ = some (.int .i64 zt) ∧ W_.cell? ⟨zb, 2, none⟩ = some (.int .i64 zv) ∧ W_.cell? (ad.add j) = some (.pointer (some ⟨g, 0, none⟩))) := fun W_ f => HCb.out W_ ((G7.out.mono (fun _ h => h.elim)).trans f (fun _ h => .inl h))
       clear hHeld
       have hagw := aggOne_wf Hzv.out
       have HOf : Hid (∀ W A c, Rd W 1 A 1 [.int .i64 zv] → Calls Tryz.prog 90 #[.slice A 1 c] W fun r w' => r = .returned (aggOne zv).val ∧ Below W.heap.size W w') := fun W A c hrd => ofone_any zv Hzv.out A c W hrd
       obtain ⟨ag, hag⟩ : ∃ ag, aggOne zv = ag := ⟨_, rfl⟩
       rw [hag] at hagw HOf Hfk2
       have HAd : Hid (∀ W A c, TabAt W g y.every b (gg j) → Rd W 7 A 1 [.string zn, .int .i64 sv, .int .i64 ag.count, .int .i64 ag.hi, .int .u64 ag.lo, .int .i64 ag.min, .int .i64 ag.max] → Calls Tryz.prog 89 #[.pointer (some ⟨g, 0, none⟩), .slice A 1 c] W fun r' w' => (∃ v, r' = .returned (.int .i64 v)) ∧ TabAt w' g y.every b (addV y.every (gg j) ⟨zn, sv, ag⟩) ∧ Fr (fun i => i = b) W w') := fun W A c ht hrd => by
        refine (add_any g y.every b (gg j) [⟨zn, sv, ag⟩] A 1 c W ht hrd (fun a ha => by rw [List.mem_singleton] at ha; rw [ha]; exact ⟨hsvi, hagw, hzs⟩) (by have := Hgl.out j; omega)).mono ?_
        rintro r' w' ⟨rfl, h1, h2⟩
        exact ⟨⟨_, rfl⟩, h1, h2⟩
       unfold AggV.val at HOf
       clear hagw hag
       go_wp2_with fail
       refine wp_region_held_drew (S := fun W_ => Fr (fun i => i = b) w7 W_) (by kernel_rfl) ((Fr.refl _ w7).drew) (fun hHeld => ?_)
       refine tq 12 [0,1,2,3,4,5,6,7,8,9,10,11] ?_
       iterate 11 refine sf HC7.out ?_
       refine sf HC7.out ?_
       try simp only [Act.put, sA, sB, sC]
       refine sz ?_
       try simp only [Act.put, sA, sB, sC]
       refine rl 12 rfl (fun K hK => ?_)
       go_simp
       refine hK.out _ _ (((Fr.none_alloc w7 _).mono (fun _ h => h.elim)).drew) (fun hHeld => ?_)
       clear hK K
       try simp only [Act.put, sA, sB, sC]
       refine rl 13 rfl (fun K hK => ?_)
       go_simp
       go_wp2_with (first | (go_at_call 90; refine (HOf.out _ _ _ (Rd.newS (w := w7) (k := w7.heap.size) rfl _ _ 1 1 rfl).drew).mono ?_; rintro r w8 ⟨rfl, b8⟩))
       refine hK.out _ _ (hHeld.trans (Fr.b0 b8) (fun _ h => h.elim)) (fun hHeld => ?_)
       clear hK K
       refine tl 14 ?v46 rfl ?q46 ?r46
       case q46 => intro W hSw; (try obtain ⟨⟨q0, q1, q2, q3, q4, q5, q6, q7, q8⟩, q9, q10, q11, q12⟩ := HC7.out W hSw); go_simp; try rfl
       try simp only [Act.put, sA, sB, sC]
       refine rl 15 rfl (fun K hK => ?_)
       go_simp
       refine hK.out _ _ (hHeld.trans (Fr.none_alloc _ _) (fun _ h => h.elim)) (fun hHeld => ?_)
       clear hK K
       try simp only [Act.put, sA, sB, sC]
       refine rl 16 rfl (fun K hK => ?_)
       go_simp
       go_wp2_with (first | (go_at_call 89; refine (HAd.out _ _ _ ((((HTb.out.fr0 (Fr.refl _ w7).drew).fr0 (Fr.none_alloc _ _)).fr0 (Fr.b0 b8)).fr0 (Fr.none_alloc _ _)) (Rd.newS (w := w8) (k := w8.heap.size) rfl _ _ 1 7 rfl)).mono ?_; rintro r w9 ⟨⟨v9, rfl⟩, t9, f9⟩))
       refine hK.out _ _ (hHeld.trans f9 (fun i hi => .inl hi)) (fun hHeld => ?_)
       clear hK K
       try simp only [Act.put, sA, sB, sC]
       refine wpAnyH_done (by kernel_rfl) ?_ _
       have G9 := Lib.hid hHeld
       have T9 := Lib.hid t9
       clear hHeld t9 f9 b8
       go_wp2_with fail
       go_roundw
       case rel =>
        have h := Hij.out.set (k := j) H1.out H2.out T9.out ((G7.out.mono (fun _ h => h.elim)).trans G9.out (fun _ h => .inl h))
        simp only at h
        rw [← Hfk2.out, Hnx.out] at h
        exact ⟨j + 1, by omega, by go_num, h, (Hfj.out.trans G7.out (fun _ h => h.elim)).trans G9.out (fun i hi => .inl ⟨_, List.mem_of_getElem? H1.out, hi⟩)⟩
       case measure => simp [intOf]; omega
      ·have dg : decide (fv ≤ sv) = false := decide_eq_false hge
       have G7 := Lib.hid hHeld
       clear hHeld
       go_wp2_with fail
       go_roundw
       case rel =>
        refine ⟨j + 1, by omega, by go_num, ?_, Hfj.out.trans G7.out (fun _ h => h.elim)⟩
        rw [Hsame.out (by rw [Hfk.out, dg]; rfl)]
        exact Hij.out.fr0 G7.out
       case measure => simp [intOf]; omega
    ·obtain rfl : j = n := by omega
     have gj : decide ((j : Int) < (j : Int)) = false := decide_eq_false (by omega)
     rw [HeN.out] at Hij
     go_wp2_with fail
     go_roundw
     case rel => exact ⟨q + 1, by omega, by go_num, Hij.out, HF1.out.trans Hfj.out (fun _ h => .inl h)⟩
     case measure => simp [intOf]; omega
  ·obtain rfl : q = n1 := by omega
   have g0 : decide ((q : Int) < (q : Int)) = false := decide_eq_false (by omega)
   have hall : ls.take q = ls := take_all (by rw [Hlen.out]; exact Nat.le_refl _)
   rw [hall] at Hiq
   have FE : Hid (Fr (tF s tb) W wr) := (F1.out.mono (fun _ h => h.elim)).trans Hfq.out (fun i hi => .inl (.inr hi))
   clear hall
   go_wp2_with fail
   go_end0
   exact ⟨rfl, ⟨_, _, _, _, _, _, _, Hiq.out, rfl⟩, FE.out⟩
end Go.Proofs.YtkfdgodngbinlaaGreatDoor
namespace Go.Proofs.YtkfdgodngbinlaaGreatDoor
set_option linter.all false
open Go.RowKit

section
variable {nm nm2 : ByteArray} {l lt : List TierV} {fl : List Int} {o : Int} {lo : Nat} {W : World} {t s base : Nat} {X : TiersX} {S : ShX} {Ft F : Nat → Prop} {cc : Nat}
theorem ShOk.tab (h : ShOk nm2 l lt fl o X S) (p : PolOk nm l) (p2 : PolOk nm2 lt) (hg : GoodX nm l fl X cc) (hfl : ∀ f ∈ fl, 0 ≤ f ∧ f ≤ 2199023255552) {j : Nat} {y : TierV} (hy : lt[j]? = some y) :
  Sorted (S.tabs.getD j []) ∧ ∀ r ∈ S.tabs.getD j [], rightR y.every r = true := by
 have hj := (List.getElem?_eq_some_iff.1 hy).1
 obtain ⟨h1, h2⟩ := build_right (o := o) p p2 hg hfl hy
 rw [h.tabs, shT_getD hj]
 unfold shL
 refine ⟨?_, fun r hr => (h2 r (List.mem_filter.1 hr).1).1⟩
 exact List.Pairwise.sublist List.filter_sublist h1.1
theorem ShOk.noted (h : ShOk nm2 l lt fl o X S) {z : SampV} : ShOk nm2 l lt fl o (putX X [z]) { S with tabs := shT lt S.done (buildX (putX X [z]) nm2 lt (srcs o l fl lt)).tabs } :=
 ⟨h.name, h.tiers, h.src, rfl, h.d0, h.d1⟩
theorem recI_nat (tabs : List (List RecV)) (j : Nat) : recI tabs (j : Int) = tabs.getD j [] := by
 unfold recI
 rw [if_pos (by omega)]
 simp
end
end Go.Proofs.YtkfdgodngbinlaaGreatDoor
namespace Go.Proofs.YtkfdgodngbinlaaGreatDoor
set_option linter.all false
open Go.RowKit

def dropN (ff gg : Nat → List RecV) : Nat → Int
 | 0 => 0
 | k + 1 => dropN ff gg k + (((gg k).length : Int) - ((ff k).length : Nat))
theorem dropN_in {ff gg : Nat → List RecV} (h : ∀ k, (ff k).length ≤ (gg k).length ∧ (gg k).length ≤ 1000000) : ∀ j, 0 ≤ dropN ff gg j ∧ dropN ff gg j ≤ j * 1000000
 | 0 => by simp [dropN]
 | k + 1 => by
  have h1 := dropN_in h k
  have h2 := h k
  unfold dropN
  push_cast
  omega
def trimX (Y : TiersX) (S : ShX) : ShX := { S with tabs := (List.range Y.tiers.length).map fun j => keepT (startBelow (fromV Y.now Y.tiers Y.floors j)) (S.tabs.getD j []) }
def trimN (Y : TiersX) (S : ShX) : Int := dropN (fun j => keepT (startBelow (fromV Y.now Y.tiers Y.floors j)) (S.tabs.getD j [])) (fun j => S.tabs.getD j []) Y.tiers.length
set_option maxRecDepth 100000 in
set_option maxHeartbeats 8000000 in
theorem strim_any {nm nm2 : ByteArray} {l lt : List TierV} {fl : List Int} {o : Int} {lo : Nat} {W : World} {t s base : Nat} {X : TiersX} {S : ShX} {Ft F : Nat → Prop} {cc : Nat} (p : PolOk nm l) (p2 : PolOk nm2 lt) (hnm2 : nm2.size ≤ maxLen) (h : Tio nm l fl lo W t X Ft cc) (hc : cc ≤ 1000000) (hfl : ∀ f ∈ fl, 0 ≤ f ∧ f ≤ 2199023255552) (hs : ShOn W s base S F) (h1 : S.name = nm2) (h2 : S.tiers = lt) (h3 : S.srcs = srcs o l fl lt) (hl : ∀ m ∈ S.tabs, m.length ≤ 1000000) :
  Calls Tryz.prog 45 #[.pointer (some ⟨s, 0, none⟩), .pointer (some ⟨t, 0, none⟩)] W fun r w' => r = .returned (.int .i64 (trimN (buildX X nm2 lt (srcs o l fl lt)) S)) ∧ ShOn w' s base (trimX (buildX X nm2 lt (srcs o l fl lt)) S) F ∧ Fr F W w' := by
 obtain ⟨A, c, B, d, T, ct, tb, hi, rfl⟩ := hs
 obtain ⟨n, hn0⟩ : ∃ n, lt.length = n := ⟨_, rfl⟩
 have hSn : S.tiers.length = n := by rw [h2, hn0]
 have hSm : S.srcs.length = n := by rw [h3]; unfold srcs; rw [List.length_map, hn0]
 have hfive := p2.five
 have hn5 : n ≤ 5 := by omega
 have hn1 : 0 < n := by have := p2.pos; omega
 have HI := Lib.hid hi
 have htc : n ≤ c := by have := (own_any hi.tiers).1; omega
 obtain ⟨ad, hadT, hcr⟩ := (own_any hi.row).2.2.1.2 (show 0 < S.tiers.length by omega)
 subst hadT
 have Hcr := Lib.hid hcr
 have hrdA := (own_any hi.tiers).2.2.1
 rw [hSn, h2] at hrdA
 obtain ⟨aA, haA, _⟩ := hrdA.2 hn1
 subst haA
 have HrdA := Lib.hid hrdA
 have HBu : Hid (Calls Tryz.prog 86 #[.agg #[.string nm2, .slice (some aA) n c, .slice B n d], .pointer (some ⟨t, 0, none⟩)] W fun r w' => (∃ t' F', r = .returned (.tuple #[.pointer (some ⟨t', 0, none⟩), .int .i64 0]) ∧ Tio nm2 lt (basesV X.now l fl (srcs o l fl lt) lt) W.heap.size w' t' (buildX X nm2 lt (srcs o l fl lt)) F' cc ∧ ∀ j, F' j → W.heap.size ≤ j) ∧ Below W.heap.size W w') := by
  have q2 := (own_any HI.out.srcs).2.2.1
  rw [hSm, h3] at q2
  exact tio_build p p2 hnm2 h hc hfl (some aA) n c B d HrdA.out htc q2 W.heap.size (Nat.le_refl _)
 obtain ⟨bs, hbs⟩ : ∃ v, basesV X.now l fl (srcs o l fl lt) lt = v := ⟨_, rfl⟩
 obtain ⟨Y, hY⟩ : ∃ v, buildX X nm2 lt (srcs o l fl lt) = v := ⟨_, rfl⟩
 have HYt : Hid (Y.tiers = lt) := by show _ = _; rw [← hY]; rfl
 rw [hbs, hY] at HBu
 rw [hY]
 have Hn0 := Lib.hid hn0
 have HSn := Lib.hid hSn
 have Ht := Lib.hid h2
 have Hl := Lib.hid hl
 have HCs : Hid (∀ {W' : World} {G : Nat → Prop}, Fr G W W' → ¬ G s → W'.cell? ⟨s, 0, none⟩ = some (.string nm2) ∧ W'.cell? ⟨s, 1, none⟩ = some (.slice (some aA) n c) ∧ W'.cell? ⟨s, 2, none⟩ = some (.slice B n d) ∧ W'.cell? ⟨s, 4, none⟩ = some (.int .i64 S.done) ∧ W'.cell? ⟨s, 5, none⟩ = some (.slice (some ad) n ct)) := fun f hg => by
  obtain ⟨c0, c1, c2, _, c4, c5⟩ := HI.out.cells f hg
  rw [h1] at c0
  rw [hSn] at c1 c5
  rw [hSm] at c2
  exact ⟨c0, c1, c2, c4, c5⟩
 have HMp : Hid (∀ j, tM tb j → ∃ es ck, W.heap[j]? = some (.map es ck)) := fun j hj => (HI.out.map_ hj).2.2
 have HMl : Hid (∀ j, tM tb j → j < W.heap.size) := fun j hj => (HI.out.map_ hj).2.1
 have HTl : Hid (S.tabs.length = n) := by show _ = _; rw [HI.out.tlen, HSn.out]
 obtain ⟨c0, c1, c2, c4, c5⟩ := HCs.out (Fr.refl (fun _ => False) W) (fun h => h)
 clear hi hn0 hSm hbs hY h1 h2 h3 h hl hSn hcr hrdA
 go_enter Tryz.func45, Tryz.ntmps45
 go_wp2_with fail
 refine HBu.out.mono ?_
 rintro r w1 ⟨⟨u, Fu, rfl, T1, hFu⟩, b1⟩
 have F1 : Hid (Fr (fun _ => False) W w1) := Fr.b0 b1
 have HT1 := Lib.hid T1
 have HFu := Lib.hid hFu
 obtain ⟨tA, tc, tB, td, hR⟩ := T1.reach
 have HR := Lib.hid hR
 obtain ⟨mf, hmf⟩ : ∃ m, bs.length = m := ⟨_, rfl⟩
 have hY0 := T1.good.now
 -- frames of the maps alone
 have HFm : Hid (∀ W', Fr (tM tb) w1 W' → Fr (fun j => tM tb j ∧ ∃ es ck, w1.heap[j]? = some (.map es ck)) w1 W') := fun W' f => f.mono (fun j hj => .inl ⟨hj, by obtain ⟨es, ck, h⟩ := HMp.out j hj; exact ⟨es, ck, by rw [F1.out.block j (HMl.out j hj) (fun h => h)]; exact h⟩⟩)
 have HCw : Hid (∀ W_, Fr (tM tb) w1 W_ → W_.cell? ⟨s, 0, none⟩ = some (.string nm2) ∧ W_.cell? ⟨s, 1, none⟩ = some (.slice (some aA) n c) ∧ W_.cell? ⟨s, 2, none⟩ = some (.slice B n d) ∧ W_.cell? ⟨s, 4, none⟩ = some (.int .i64 S.done) ∧ W_.cell? ⟨s, 5, none⟩ = some (.slice (some ad) n ct) ∧ W_.cell? ⟨u, 0, none⟩ = some (.int .i64 Y.now) ∧ W_.cell? ⟨u, 1, none⟩ = some (.string nm2) ∧ W_.cell? ⟨u, 2, none⟩ = some (.slice tA n tc) ∧ W_.cell? ⟨u, 3, none⟩ = some (.slice tB mf td)) := fun W_ f => by
  obtain ⟨k0, k1, k2, k3, k4⟩ := HCs.out F1.out (fun h => h)
  have r2 := HR.out.c2
  have r3 := HR.out.c3
  rw [Hn0.out] at r2
  rw [hmf] at r3
  have g := HFm.out W_ f
  exact ⟨mapcell g k0, mapcell g k1, mapcell g k2, mapcell g k3, mapcell g k4, mapcell g HR.out.c0, mapcell g HR.out.c1, mapcell g r2, mapcell g r3⟩
 have HRdm : Hid (∀ W_, Fr (tM tb) w1 W_ → Rd W_ 4 (some aA) n (tcells lt)) := fun W_ f => (HrdA.out.fr0 F1.out).mapfr (by decide) (HFm.out W_ f)
 have HFr : Hid (∀ W_ (j : Nat), Fr (tM tb) w1 W_ → j < n → Calls Tryz.prog 54 #[.agg #[.int .i64 Y.now, .string nm2, .slice tA n tc, .slice tB mf td], .int .i64 (j : Nat)] W_ fun r w' => r = .returned (.int .i64 (fromV Y.now lt bs j)) ∧ Below W_.heap.size W_ w') := fun W_ j f hj => by
  have g := HFm.out W_ f
  have hR' : ReachIn W_ u Y.now nm2 lt bs tA tc tB td := ⟨mapcell g HR.out.c0, mapcell g HR.out.c1, mapcell g HR.out.c2, mapcell g HR.out.c3, HR.out.rt.mapfr (by decide) g, HR.out.rf.mapfr (by decide) g, HR.out.le⟩
  have := reach_from p2 hR' hY0 j (by rw [Hn0.out]; exact hj)
  rw [Hn0.out, hmf] at this
  exact this
 have hYf : Y.floors = bs := T1.good.floors
 obtain ⟨gg, hgg⟩ : ∃ f : Nat → List RecV, (fun j => S.tabs.getD j []) = f := ⟨_, rfl⟩
 obtain ⟨ff, hff⟩ : ∃ f : Nat → List RecV, (fun j => keepT (startBelow (fromV Y.now lt bs j)) (gg j)) = f := ⟨_, rfl⟩
 have Hff : Hid (∀ j, ff j = keepT (startBelow (fromV Y.now lt bs j)) (gg j)) := fun j => by rw [← hff]
 have Hgl : Hid (∀ j, (gg j).length ≤ 1000000) := fun j => by
  rw [← hgg]
  exact getD_len Hl.out j
 have Hfl : Hid (∀ j, (ff j).length ≤ (gg j).length) := fun j => by
  rw [Hff.out j]
  unfold keepT
  exact List.length_filter_le _ _
 have HI1 : Hid (ShIn w1 s base { S with tabs := uptoL n ff gg 0 } (some aA) c B d (some ad) ct tb) := by
  have e : uptoL n ff gg 0 = S.tabs := by rw [uptoL_zero, ← hgg]; exact getD_all HTl.out
  rw [e]
  exact HI.out.fr0 F1.out
 have HTX : Hid ({ S with tabs := uptoL n ff gg n } = trimX Y S) := by
  show _ = _
  unfold trimX
  rw [uptoL_all, ← hff, ← hgg, HYt.out, hYf, Hn0.out]
 have HC0 : Hid (dropN ff gg n = trimN Y S) := by
  show _ = _
  unfold trimN
  rw [← hff, ← hgg, HYt.out, hYf, Hn0.out]
 have HDb : Hid (∀ j, 0 ≤ dropN ff gg j ∧ dropN ff gg j ≤ j * 1000000) := fun j => dropN_in (fun k => ⟨Hfl.out k, Hgl.out k⟩) j
 clear T1 b1 HBu c0 c1 c2 c4 c5 hR hFu hmf hYf hgg hff
 have k5 := (HCw.out w1 (Fr.refl _ _)).2.2.2.2.1
 go_wp2_with fail
 clear k5
 go_loopw [7, 28] (fun v i wr => ∃ j : Nat, j ≤ n ∧ i = .int .i64 j ∧ v = .int .i64 (dropN ff gg j) ∧ ShIn wr s base { S with tabs := uptoL n ff gg j } (some aA) c B d (some ad) ct tb ∧ Fr (tM tb) w1 wr) (fun _ i _ => n - (intOf i).toNat)
 case atStart => exact ⟨0, Nat.zero_le _, rfl, rfl, HI1.out, Fr.refl _ _⟩
 case round =>
  obtain ⟨j, hj, rfl, rfl, hij, hfj⟩ := hrel
  have Hij := Lib.hid hij
  have Hfw := Lib.hid hfj
  clear hij hfj
  obtain ⟨dv, hdv⟩ : ∃ v, dropN ff gg j = v := ⟨_, rfl⟩
  rw [hdv]
  by_cases hlj : j < n
  ·obtain ⟨g, b, y, m, h1, h2, h3, hTb⟩ := Hij.out.tabAt (k := j) (by show _ < S.tiers.length; rw [HSn.out]; exact hlj)
   have hy : lt[j]? = some y := by rw [← Ht.out]; exact h2
   have hmg : m = gg j := by
    have h4 : (uptoL n ff gg j)[j]? = some m := h3
    rw [uptoL_get hlj] at h4
    exact (Option.some.inj h4).symm
   subst hmg
   obtain ⟨ad', ea, hcr⟩ := (own_any Hij.out.row).2.2.1.2 (show 0 < S.tiers.length by rw [HSn.out]; omega)
   obtain rfl : ad = ad' := Option.some.inj ea
   have p0 := hcr j _ (ptrs_get h1)
   try simp only at p0
   have kj : 0 ≤ (j : Int) ∧ (j : Int) < (n : Int) := by omega
   have gj : decide ((j : Int) < (n : Int)) = true := decide_eq_true (by omega)
   have hjw : IntKind.i64.wrap ((j : Int) + 1) = (j : Int) + 1 := by simp [IntKind.wrap, IntKind.signed, IntKind.bits]; omega
   have HTb := Lib.hid hTb
   obtain ⟨fv, hfv⟩ : ∃ v, fromV Y.now lt bs j = v := ⟨_, rfl⟩
   have HFr1 : Hid (∀ W_, Fr (fun _ => False) wr W_ → Calls Tryz.prog 54 #[.agg #[.int .i64 Y.now, .string nm2, .slice tA n tc, .slice tB mf td], .int .i64 (j : Nat)] W_ fun r w' => r = .returned (.int .i64 fv) ∧ Below W_.heap.size W_ w') := fun W_ f => by
    rw [← hfv]
    exact HFr.out W_ j (Hfw.out.trans f (fun _ h => h.elim)) hlj
   have hfj : ff j = keepT (startBelow fv) (gg j) := by rw [Hff.out j, hfv]
   have hgl := Hgl.out j
   have hfl := Hfl.out j
   obtain ⟨lv, hlv⟩ : ∃ v, ((gg j).length : Int) - ((ff j).length : Nat) = v := ⟨_, rfl⟩
   have HDp : Hid (∀ W_, Fr (fun _ => False) wr W_ → Calls Tryz.prog 85 #[.pointer (some ⟨g, 0, none⟩), .int .i64 fv] W_ fun r w' => r = .returned (.int .i64 lv) ∧ TabAt w' g y.every b (ff j) ∧ Fr (fun i => i = b) W_ w') := fun W_ f => by
    have := tabdrop_any g y.every b (gg j) fv W_ (HTb.out.fr0 f) (by omega)
    rw [← hfj, hlv] at this
    exact this
   have hds : dropN ff gg (j + 1) = dv + lv := by show dropN ff gg j + _ = _; rw [hdv, hlv]
   have hdb := HDb.out j
   rw [hdv] at hdb
   have hw := wrap_id (x := dv + lv) (by omega)
   have Hds := Lib.hid hds
   have Hup : Hid (∀ W_, Fr (fun i => i = b) wr W_ → Fr (tM tb) w1 W_) := fun W_ f => Hfw.out.trans f (fun i hi => .inl ⟨_, List.mem_of_getElem? h1, hi⟩)
   have Hnx : Hid ((uptoL n ff gg j).set j (ff j) = uptoL n ff gg (j + 1)) := uptoL_set hlj
   have H1 := Lib.hid h1
   have H2 := Lib.hid h2
   obtain ⟨q0,q1,q2,q3,q4,q5,q6,q7,q8⟩ := HCw.out wr Hfw.out
   clear hcr h1 h2 h3 hTb hfv hlv hds hfj ea hdb hgl hfl hdv
   go_wp2_with fail
   refine (HFr1.out _ (Fr.refl _ _)).mono ?_
   rintro r w5 ⟨rfl, b5⟩
   have F5 : Hid (Fr (fun _ => False) wr w5) := Fr.b0 b5
   clear b5
   go_wp2_with fail
   refine (HDp.out _ F5.out).mono ?_
   rintro r w6 ⟨rfl, t6, f6⟩
   have T6 := Lib.hid t6
   have F6 : Hid (Fr (fun i => i = b) wr w6) := (F5.out.mono (fun _ h => h.elim)).trans f6 (fun i hi => .inl hi)
   clear t6 f6 q0 q1 q2 q3 q4 q5 q6 q7 q8 p0
   go_wp2_with fail
   go_roundw
   case rel =>
    refine ⟨j + 1, by omega, by go_num, by rw [Hds.out], ?_, Hup.out _ F6.out⟩
    rw [← Hnx.out]
    exact Hij.out.set H1.out H2.out T6.out F6.out
   case measure => simp [intOf]; omega
  ·obtain rfl : j = n := by omega
   have g0 : decide ((j : Int) < (j : Int)) = false := decide_eq_false (by omega)
   have FE : Hid (Fr (tF s tb) W wr) := (F1.out.mono (fun _ h => h.elim)).trans Hfw.out (fun i hi => .inl (.inr hi))
   have hdn : dv = trimN Y S := by rw [← hdv]; exact HC0.out
   clear hdv
   rw [HTX.out] at Hij
   have Hdn := Lib.hid hdn
   clear hdn
   go_wp2_with fail
   go_ret
   exact ⟨by rw [← Hdn.out]; rfl, ⟨_, _, _, _, _, _, _, Hij.out, rfl⟩, FE.out⟩
end Go.Proofs.YtkfdgodngbinlaaGreatDoor
namespace Go.Proofs.YtkfdgodngbinlaaGreatDoor
set_option linter.all false
open Go.RowKit

end Go.Proofs.YtkfdgodngbinlaaGreatDoor
namespace Go.Proofs.YtkfdgodngbinlaaGreatDoor
set_option linter.all false
open Go.RowKit

section
variable {nm nm2 : ByteArray} {l lt : List TierV} {fl : List Int} {o : Int} {X : TiersX} {S : ShX} {c : Nat}
theorem noteT_eq {Y Z : TiersX} {done : Int} (h1 : Y.now = Z.now) (h2 : Y.tiers = Z.tiers) (h3 : Y.floors = Z.floors) : noteT Y done = noteT Z done := by
 funext tabs s
 unfold noteT noteL
 rw [h1, h2, h3]
theorem takes_pos {now : Int} {l : List TierV} {fl : List Int} {z : SampV} (h : takesV now l fl z = 0) : 0 ≤ z.time := by
 unfold takesV at h
 split at h
 ·rename_i h2; exact h2.2
 ·cases h
theorem putE_one {z : SampV} (h : takesV X.now X.tiers X.floors z = 0) : putE X [z] = 0 := by
 show firstE X [z] = 0
 exact firstE_zero (fun s hs => by rw [List.mem_singleton] at hs; rw [hs]; exact h)
theorem shT_notes (p : checkB nm l = true) (hfl : ∀ f ∈ fl, 0 ≤ f ∧ f ≤ 2199023255552) (p2 : checkB nm2 lt = true) (done : Int) : ∀ (s : List SampV) (X : TiersX) (c : Nat), GoodX nm l fl X c → (∀ a ∈ s, takesV X.now X.tiers X.floors a = 0) →
  notesT (buildX { X with tabs := putsT X X.tabs s } nm2 lt (srcs o l fl lt)) done (shT lt done (buildX X nm2 lt (srcs o l fl lt)).tabs) s = shT lt done (buildX { X with tabs := putsT X X.tabs s } nm2 lt (srcs o l fl lt)).tabs
 | [], X, c, _, _ => rfl
 | a :: s, X, c, hg, h => by
  have ha := h a (by simp)
  have hE := putE_one ha
  have hX : putX X [a] = { X with tabs := addT X X.tabs a } := by unfold putX; rw [if_pos hE]; rfl
  have hg2 := hg.put [a]
  have ih := shT_notes p hfl p2 done s (putX X [a]) (c + 8) hg2 (fun b hb => by rw [hX]; exact h b (List.mem_cons_of_mem _ hb))
  have e2 := shT_note (o := o) (done := done) p hg hfl p2 hE (takes_pos ha)
  have e3 : ({ putX X [a] with tabs := putsT (putX X [a]) (putX X [a]).tabs s } : TiersX) = { X with tabs := putsT X X.tabs (a :: s) } := by rw [hX]; rfl
  rw [e3] at ih
  have e4 : noteT (buildX { X with tabs := putsT X X.tabs (a :: s) } nm2 lt (srcs o l fl lt)) done = noteT (buildX (putX X [a]) nm2 lt (srcs o l fl lt)) done := noteT_eq (by rw [hX]; first | done | rfl) rfl (by rw [hX]; first | done | rfl)
  rw [← ih, ← e2]
  show notesT _ done (noteT _ done _ a) s = _
  rw [e4]
theorem shT_put (p : checkB nm l = true) (hg : GoodX nm l fl X c) (hfl : ∀ f ∈ fl, 0 ≤ f ∧ f ≤ 2199023255552) (p2 : checkB nm2 lt = true) {s : List SampV} (hE : putE X s = 0) (done : Int) :
  notesT (buildX (putX X s) nm2 lt (srcs o l fl lt)) done (shT lt done (buildX X nm2 lt (srcs o l fl lt)).tabs) s = shT lt done (buildX (putX X s) nm2 lt (srcs o l fl lt)).tabs := by
 have hX : putX X s = { X with tabs := putsT X X.tabs s } := by unfold putX; rw [if_pos hE]
 rw [hX]
 refine shT_notes p hfl p2 done s X c hg (fun a ha => ?_)
 have h : firstE X s = 0 := by
  unfold putE at hE
  split at hE
  ·cases hE
  ·split at hE
   ·cases hE
   ·exact hE
 unfold firstE at h
 split at h
 ·rename_i z hz
  have := List.find?_some hz
  simp only [decide_eq_true_eq] at this
  exact absurd h this
 ·rename_i hz
  have := List.find?_eq_none.1 hz a ha
  simpa using this
theorem roll_keep {e F F' G : Int} (he : 1 ≤ e) (hF : F ≤ F') (hG : G ≤ F') : ∀ {L acc : List RecV}, goodL acc → (∀ r ∈ L, 0 ≤ r.start) →
  keepT (startBelow F') (rollsR e F acc L) = rollsR e F' (keepT (startBelow F') acc) (keepT (startBelow G) L)
 | [], _, _, _ => rfl
 | r :: L, acc, hg, hr => by
  have h0 := hr r (by simp)
  obtain ⟨_, f2, _⟩ := floor_on h0 he
  show keepT (startBelow F') (rollsR e F (rollR e F acc r) L) = _
  rw [roll_keep he hF hG (rollR_good hg r) (fun y hy => hr y (List.mem_cons_of_mem _ hy))]
  have hcons : keepT (startBelow G) (r :: L) = if r.start < G then keepT (startBelow G) L else r :: keepT (startBelow G) L := by
   unfold keepT
   by_cases h : r.start < G
   ·rw [if_pos h, List.filter_cons_of_neg (by unfold startBelow; simp [h])]
   ·rw [if_neg h, List.filter_cons_of_pos (by unfold startBelow; simp [h])]
  have hlow : floorV r.start e < F' → keepT (startBelow F') (rollR e F acc r) = keepT (startBelow F') acc := fun h => by
   unfold rollR
   split
   ·exact keep_add_lo (startBelow_key F') hg.1 (by unfold startBelow; simpa using h)
   ·rfl
  rw [hcons]
  by_cases h1 : r.start < G
  ·rw [if_pos h1, hlow (by omega)]
  ·rw [if_neg h1]
   show _ = rollsR e F' (rollR e F' (keepT (startBelow F') acc) r) (keepT (startBelow G) L)
   congr 1
   by_cases h2 : F' ≤ floorV r.start e
   ·unfold rollR
    rw [if_pos h2, if_pos (by omega)]
    exact keep_add_hi (startBelow_key F') hg.1 (by unfold startBelow; simp; omega)
   ·rw [hlow (by omega)]
    unfold rollR
    rw [if_neg h2]
theorem ceil_mono {a b e : Int} (h0 : 0 ≤ a) (hab : a ≤ b) (h1 : b ≤ 4398046511104) (he : 1 ≤ e) (he2 : e ≤ 1000000) : ceilV a e ≤ ceilV b e := by
 obtain ⟨a1, a2, a3, a4, _⟩ := ceil_law (t := a) (e := e) h0 (by omega) he he2
 obtain ⟨b1, b2, b3, b4, _⟩ := ceil_law (t := b) (e := e) (by omega) h1 he he2
 rw [Int.tmod_eq_emod_of_nonneg a4] at a1
 rw [Int.tmod_eq_emod_of_nonneg b4] at b1
 obtain ⟨x, hx⟩ := Int.dvd_of_emod_eq_zero a1
 obtain ⟨y, hy⟩ := Int.dvd_of_emod_eq_zero b1
 rw [hx] at a3
 rw [hy] at b2
 rw [hx, hy]
 rcases Int.lt_or_le y x with h | h
 ·have h4 : e * (y + 1) ≤ e * x := Int.mul_le_mul_of_nonneg_left (by omega) (by omega)
  rw [Int.mul_add] at h4
  omega
 ·exact Int.mul_le_mul_of_nonneg_left h (by omega)
theorem from_mono2 {a b : Int} {l : List TierV} {fl fl' : List Int} {k : Nat} {f f' : Int} (hl : ∀ t ∈ l, t.keep ≤ 1000000 ∧ t.every ≤ 1000000) (ha : 0 ≤ a) (hab : a ≤ b) (hf : fl[k]? = some f) (hf' : fl'[k]? = some f') (hff : f ≤ f') : fromV a l fl k ≤ fromV b l fl' k := by
 unfold fromV
 rw [hf, hf']
 split
 ·rename_i x y hx hy
  have hb := back_mono (keep := x.keep) (e := y.every) ha (hl x (mem_of_get hx)).1 (hl y (mem_of_get hy)).2 hab
  simp only
  omega
 ·exact Int.le_refl _
theorem build_tick (p : checkB nm l = true) (hg : GoodX nm l fl X c) (hfl : ∀ f ∈ fl, 0 ≤ f ∧ f ≤ 2199023255552) (p2 : checkB nm2 lt = true) {n : Int} (hE : tickE X n = 0) {j : Nat} (hj : j < lt.length) :
  (buildX (tickX X n) nm2 lt (srcs o l fl lt)).tabs.getD j [] = keepT (startBelow (fromV (tickX X n).now lt (basesV (tickX X n).now l fl (srcs o l fl lt) lt) j)) ((buildX X nm2 lt (srcs o l fl lt)).tabs.getD j []) := by
 have hg2 := hg.tick n
 have hX := tickX_ok hE
 have hn0 : 0 ≤ n := by unfold tickE at hE; split at hE <;> omega
 have hy : lt[j]? = some lt[j] := List.getElem?_eq_getElem hj
 obtain ⟨i, x, hx, hs, hd, hf, hb⟩ := build_src (o := o) (X := X) p hg.now hfl p2 hy
 obtain ⟨i2, x2, hx2, hs2, hd2, hf2, hb2⟩ := build_src (o := o) (X := tickX X n) p hg2.now hfl p2 hy
 rw [hs] at hs2
 have hi2 : i2 = i := by injection hs2 with h; omega
 subst hi2
 have hi := (List.getElem?_eq_some_iff.1 hx).1
 have hxX : X.tiers[i2]? = some x := by rw [hg.tiers]; exact hx
 have hxX2 : (tickX X n).tiers[i2]? = some x := by rw [hg2.tiers]; exact hx
 have hy1 := check_mem p2 (mem_of_get hy)
 have hnow : (tickX X n).now = X.now + n := by rw [hX]
 have hle : ∀ {l : List TierV} {nm : ByteArray}, checkB nm l = true → ∀ t ∈ l, t.keep ≤ 1000000 ∧ t.every ≤ 1000000 := fun h t ht => by have := check_mem h ht; omega
 have hm1 := from_mono (a := X.now) (b := (tickX X n).now) (l := l) (fl := fl) (hle p) hg.now.1 (by omega) i2
 have hbd := from_bd p hg.now.1 hg.now.2 hfl i2
 have hbd2 := from_bd p hg2.now.1 hg2.now.2 hfl i2
 have hm2 := from_mono2 (hle p2) hg.now.1 (show X.now ≤ (tickX X n).now by omega) hb hb2 (ceil_mono hbd.1 hm1 (by omega) hy1.1 hy1.2.1)
 rw [build_tab hj, build_tab hj]
 unfold buildL
 rw [hs, hy]
 simp only [Int.toNat_natCast]
 rw [hxX, hxX2]
 simp only
 rw [hg.tiers, hg.floors, hg2.tiers, hg2.floors]
 unfold rollV
 simp only [if_pos hd, rolls_eq]
 have ht : (tickX X n).tabs.getD i2 [] = keepT (startBelow (fromV (X.now + n) l fl i2)) (X.tabs.getD i2 []) := by
  rw [hX]
  show (dropL (X.now + n) X).getD i2 [] = _
  rw [dropL_getD _ _ _ (by rw [hg.tiers]; exact hi), hg.tiers, hg.floors]
 rw [ht]
 rw [hnow] at hm2 hf2 ⊢
 exact (roll_keep hy1.1 hm2 hf2 good_nil (fun r hr => (hg.grid i2 x hx r hr).2.1)).symm
theorem shT_tick (p : checkB nm l = true) (hg : GoodX nm l fl X c) (hfl : ∀ f ∈ fl, 0 ≤ f ∧ f ≤ 2199023255552) (p2 : checkB nm2 lt = true) {n : Int} (hE : tickE X n = 0) (done : Int) :
  (List.range lt.length).map (fun j => keepT (startBelow (fromV (tickX X n).now lt (basesV (tickX X n).now l fl (srcs o l fl lt) lt) j)) ((shT lt done (buildX X nm2 lt (srcs o l fl lt)).tabs).getD j [])) = shT lt done (buildX (tickX X n) nm2 lt (srcs o l fl lt)).tabs := by
 conv => rhs; unfold shT
 refine List.map_congr_left (fun j hj => ?_)
 have hj := List.mem_range.1 hj
 rw [shT_getD hj]
 unfold shL
 rw [build_tick p hg hfl p2 hE hj]
 unfold keepT
 rw [List.filter_filter, List.filter_filter]
 refine List.filter_congr fun r _ => ?_
 rw [Bool.and_comm]
theorem sum_le_sum : ∀ {a b : List Nat}, a.length = b.length → (∀ (i : Nat) x y, a[i]? = some x → b[i]? = some y → x ≤ y) → a.sum ≤ b.sum
 | [], [], _, _ => Nat.le_refl _
 | x :: a, y :: b, hl, h => by
  have h1 := h 0 x y rfl rfl
  have h2 := sum_le_sum (a := a) (b := b) (by simpa using hl) (fun i x y hx hy => h (i + 1) x y hx hy)
  simp only [List.sum_cons]
  omega
 | [], _ :: _, hl, _ => by simp at hl
 | _ :: _, [], hl, _ => by simp at hl
theorem needV_keep (M : Int) (so : RecV → Bool) (m : List RecV) : needV M (keepT so m) ≤ needV M m := by
 unfold needV
 refine sum_le_sum (by simp) (fun i x y hx hy => ?_)
 rw [List.getElem?_map] at hx hy
 cases hr : (List.range M.toNat)[i]? with
 | none => rw [hr] at hx; cases hx
 | some k =>
  rw [hr] at hx hy
  simp only [Option.map_some, Option.some.injEq] at hx hy
  subst hx
  subst hy
  have h : cntS M (keepT so m) k ≤ cntS M m k := by
   unfold cntS keepT
   rw [List.filter_filter, ← List.countP_eq_length_filter, ← List.countP_eq_length_filter]
   exact List.countP_mono_left (fun r _ h => by simp only [Bool.and_eq_true] at h; exact h.1)
  omega
theorem ShOk.put (h : ShOk nm2 l lt fl o X S) (p : checkB nm l = true) (hg : GoodX nm l fl X c) (hfl : ∀ f ∈ fl, 0 ≤ f ∧ f ≤ 2199023255552) (p2 : checkB nm2 lt = true) {s : List SampV} (hE : putE X s = 0) :
  ShOk nm2 l lt fl o (putX X s) { S with tabs := notesT (buildX (putX X s) nm2 lt (srcs o l fl lt)) S.done S.tabs s } :=
 ⟨h.name, h.tiers, h.src, by show notesT _ S.done S.tabs s = _; rw [h.tabs]; exact shT_put p hg hfl p2 hE S.done, h.d0, h.d1⟩
theorem ShOk.tick (h : ShOk nm2 l lt fl o X S) (p : checkB nm l = true) (hg : GoodX nm l fl X c) (hfl : ∀ f ∈ fl, 0 ≤ f ∧ f ≤ 2199023255552) (p2 : checkB nm2 lt = true) {n : Int} (hE : tickE X n = 0) :
  ShOk nm2 l lt fl o (tickX X n) (trimX (buildX (tickX X n) nm2 lt (srcs o l fl lt)) S) := by
 have hg2 := hg.tick n
 refine ⟨h.name, h.tiers, h.src, ?_, h.d0, h.d1⟩
 have := shT_tick (o := o) p hg hfl p2 hE S.done
 show _ = shT lt S.done (buildX (tickX X n) nm2 lt (srcs o l fl lt)).tabs
 rw [← this, ← h.tabs]
 show (List.range lt.length).map (fun j => keepT (startBelow (fromV (tickX X n).now lt (basesV (tickX X n).now (tickX X n).tiers (tickX X n).floors (srcs o l fl lt) lt) j)) (S.tabs.getD j [])) = _
 rw [hg2.tiers, hg2.floors]
end
section
variable {nm nm2 : ByteArray} {l lt : List TierV} {fl : List Int} {o : Int} {lo : Nat} {W : World} {t s base : Nat} {X : TiersX} {S : ShX} {Ft F : Nat → Prop} {cc c0 : Nat}
theorem snotes_ok (p : PolOk nm l) (p2 : PolOk nm2 lt) (hnm2 : nm2.size ≤ maxLen) (hg : GoodX nm l fl X c0) {sl : List SampV} (hE : putE X sl = 0) (hz : ∀ z ∈ sl, z.wf) (h : Tio nm l fl lo W t (putX X sl) Ft cc) (hc : cc ≤ 1000000) (hc0 : c0 ≤ 1000000) (hfl : ∀ f ∈ fl, 0 ≤ f ∧ f ≤ 2199023255552) (hs : ShOn W s base S F) (hk : ShOk nm2 l lt fl o X S) (A1 : Option Addr) (n1 c1 : Nat) (hr : Rd W 3 A1 n1 (scells sl)) (hn1 : n1 ≤ 1000) (hA : ∀ j, adF A1 n1 j → ¬ F j) :
  Calls Tryz.prog 51 #[.pointer (some ⟨s, 0, none⟩), .pointer (some ⟨t, 0, none⟩), .slice A1 n1 c1] W fun r w' => r = .returned (.tuple #[]) ∧ ShOn w' s base { S with tabs := notesT (buildX (putX X sl) nm2 lt (srcs o l fl lt)) S.done S.tabs sl } F ∧ ShOk nm2 l lt fl o (putX X sl) { S with tabs := notesT (buildX (putX X sl) nm2 lt (srcs o l fl lt)) S.done S.tabs sl } ∧ Fr F W w' := by
 have hst := steps_in p2
 refine (snote_any p p2 hnm2 h hc hfl hs hk.name hk.tiers hk.src ⟨hk.d0, by have := hk.d1; omega⟩ (fun m hm => Nat.le_trans (hk.lens p p2 hg hfl m hm) hc0) sl A1 n1 c1 hr hz hn1 hA).mono ?_
 rintro r w' ⟨rfl, h3, h4⟩
 exact ⟨rfl, h3, hk.put p.ck hg hfl p2.ck hE, h4⟩
end
end Go.Proofs.YtkfdgodngbinlaaGreatDoor
namespace Go.Proofs.YtkfdgodngbinlaaGreatDoor
set_option linter.all false
open Go.RowKit

structure StX where
 room : Int
 X : TiersX
 ch : Option ShX
def boundO : Option ShX → Int
 | none => 0
 | some S => S.bound
def ShX.built (S : ShX) (X : TiersX) : TiersX := buildX X S.name S.tiers S.srcs
def fitsO : Option ShX → TiersX → Bool
 | none, _ => true
 | some S, X => decide (((needX (S.built X) : Nat) : Int) ≤ S.bound)
def roomB (Q : StX) (X : TiersX) : Bool := decide (((needX X : Nat) : Int) + boundO Q.ch ≤ Q.room) && fitsO Q.ch X
def stPutE (Q : StX) (s : List SampV) : Int := if putE Q.X s = 0 then (if roomB Q (putX Q.X s) then 0 else 20) else putE Q.X s
def ShX.noted (S : ShX) (X : TiersX) (s : List SampV) : ShX := { S with tabs := notesT (S.built X) S.done S.tabs s }
def stPut (Q : StX) (s : List SampV) : StX := if stPutE Q s = 0 then { Q with X := putX Q.X s, ch := Q.ch.map fun S => S.noted (putX Q.X s) s } else Q
def stTick (Q : StX) (n : Int) : StX := if tickE Q.X n = 0 then { Q with X := tickX Q.X n, ch := Q.ch.map fun S => trimX (S.built (tickX Q.X n)) S } else Q
def beginS (X : TiersX) (nm2 : ByteArray) (lt : List TierV) : ShX :=
 ⟨nm2, lt, srcs X.now X.tiers X.floors lt, 2 * ((needX (buildX X nm2 lt (srcs X.now X.tiers X.floors lt)) : Nat) : Int) + fillsV lt, 0, lt.map fun _ => []⟩
def stChangeE (Q : StX) (R : Int × ByteArray × List TierV) : Int :=
 match Q.ch with
 | some _ => 21
 | none => if R.1 = 0 then (if ((needX Q.X : Nat) : Int) + (beginS Q.X R.2.1 R.2.2).bound ≤ Q.room then 0 else 20) else R.1
def stChange (Q : StX) (R : Int × ByteArray × List TierV) : StX := if stChangeE Q R = 0 then { Q with ch := some (beginS Q.X R.2.1 R.2.2) } else Q
def stStepR (Q : StX) : (Int × Int × Int) × Int :=
 match Q.ch with
 | none => ((0, 0, 0), 8)
 | some S => ((atV S.tiers S.done).1, 0)
def stStep (Q : StX) : StX :=
 match Q.ch with
 | none => Q
 | some S => if S.done = stepsV S.tiers - 1 then { Q with X := S.built Q.X, ch := none } else { Q with ch := some (S.go S.name S.tiers (S.built Q.X)) }
def stAbort (Q : StX) : StX := { Q with ch := none }

structure ChGood (X : TiersX) (S : ShX) : Prop where
 pol : PolOk S.name S.tiers
 nm : S.name.size ≤ maxLen
 ok : ∃ o, ShOk S.name X.tiers S.tiers X.floors o X S
 done : S.done < stepsV S.tiers
 b0 : 0 ≤ S.bound
 fits : ((needX (S.built X) : Nat) : Int) ≤ S.bound
structure StGood (Q : StX) (c : Nat) : Prop where
 pol : PolOk Q.X.name Q.X.tiers
 nm : Q.X.name.size ≤ maxLen
 good : GoodX Q.X.name Q.X.tiers Q.X.floors Q.X c
 fl : ∀ f ∈ Q.X.floors, 0 ≤ f ∧ f ≤ 1099511627776 + 1000000 * (c : Int)
 flen : Q.X.floors.length ≤ 5
 room : 0 ≤ Q.room ∧ Q.room ≤ 4096
 need : ((needX Q.X : Nat) : Int) + boundO Q.ch ≤ Q.room
 ch : ∀ S, Q.ch = some S → ChGood Q.X S
section
variable {Q : StX} {c : Nat}
theorem StGood.hfl (h : StGood Q c) (hc : c ≤ 1000000) : ∀ f ∈ Q.X.floors, 0 ≤ f ∧ f ≤ 2199023255552 := fun f hf => by
 have := h.fl f hf
 omega
theorem StGood.more (h : StGood Q c) {d : Nat} (hd : c ≤ d) : StGood Q d :=
 ⟨h.pol, h.nm, h.good.more hd, fun f hf => by have := h.fl f hf; omega, h.flen, h.room, h.need, h.ch⟩
theorem putX_parts (X : TiersX) (s : List SampV) : (putX X s).name = X.name ∧ (putX X s).tiers = X.tiers ∧ (putX X s).floors = X.floors ∧ (putX X s).now = X.now := by
 unfold putX
 split <;> exact ⟨rfl, rfl, rfl, rfl⟩
theorem tickX_parts (X : TiersX) (n : Int) : (tickX X n).name = X.name ∧ (tickX X n).tiers = X.tiers ∧ (tickX X n).floors = X.floors := by
 unfold tickX
 split <;> exact ⟨rfl, rfl, rfl⟩
theorem roomB_parts {X : TiersX} (h : roomB Q X = true) : ((needX X : Nat) : Int) + boundO Q.ch ≤ Q.room ∧ fitsO Q.ch X = true := by
 unfold roomB at h
 rw [Bool.and_eq_true, decide_eq_true_eq] at h
 exact h
theorem StGood.put (h : StGood Q c) (hc : c ≤ 1000000) (s : List SampV) : StGood (stPut Q s) (c + 8) := by
 unfold stPut
 split
 ·rename_i hE
  unfold stPutE at hE
  have hP : putE Q.X s = 0 := by
   by_cases hp : putE Q.X s = 0
   ·exact hp
   ·rw [if_neg hp] at hE; exact absurd hE hp
  rw [if_pos hP] at hE
  have hR : roomB Q (putX Q.X s) = true := by
   cases hr : roomB Q (putX Q.X s)
   ·rw [hr] at hE; cases hE
   ·rfl
  obtain ⟨r1, r2⟩ := roomB_parts hR
  obtain ⟨e1, e2, e3, e4⟩ := putX_parts Q.X s
  have hg := h.good.put s
  refine ⟨?_, ?_, ?_, ?_, ?_, h.room, ?_, ?_⟩
  ·show PolOk (putX Q.X s).name (putX Q.X s).tiers
   rw [e1, e2]; exact h.pol
  ·show (putX Q.X s).name.size ≤ _
   rw [e1]; exact h.nm
  ·show GoodX (putX Q.X s).name (putX Q.X s).tiers (putX Q.X s).floors (putX Q.X s) (c + 8)
   rw [e1, e2, e3]; exact hg
  ·show ∀ f ∈ (putX Q.X s).floors, _
   rw [e3]
   intro f hf
   have := h.fl f hf
   omega
  ·show (putX Q.X s).floors.length ≤ 5
   rw [e3]; exact h.flen
  ·show ((needX (putX Q.X s) : Nat) : Int) + boundO (Q.ch.map fun S => S.noted (putX Q.X s) s) ≤ Q.room
   have : boundO (Q.ch.map fun S => S.noted (putX Q.X s) s) = boundO Q.ch := by cases Q.ch <;> rfl
   rw [this]; exact r1
  ·intro S' hS'
   have hS0 : (Q.ch.map fun S => S.noted (putX Q.X s) s) = some S' := hS'
   cases hch : Q.ch with
   | none => rw [hch] at hS0; cases hS0
   | some S =>
    rw [hch] at hS0
    injection hS0 with hS0
    have hk := h.ch S hch
    obtain ⟨o, ho⟩ := hk.ok
    subst hS0
    have hb : (S.noted (putX Q.X s) s).built (putX Q.X s) = S.built (putX Q.X s) := rfl
    refine ⟨hk.pol, hk.nm, ⟨o, ?_⟩, hk.done, hk.b0, ?_⟩
    ·have := ho.put h.pol.ck h.good (h.hfl hc) hk.pol.ck hP
     show ShOk S.name (putX Q.X s).tiers S.tiers (putX Q.X s).floors o (putX Q.X s) (S.noted (putX Q.X s) s)
     rw [e2, e3]
     have e5 : S.noted (putX Q.X s) s = { S with tabs := notesT (buildX (putX Q.X s) S.name S.tiers (srcs o Q.X.tiers Q.X.floors S.tiers)) S.done S.tabs s } := by
      unfold ShX.noted ShX.built
      rw [ho.src]
     rw [e5]
     exact this
    ·show ((needX (S.built (putX Q.X s)) : Nat) : Int) ≤ S.bound
     rw [hch] at r2
     exact of_decide_eq_true r2
 ·exact h.more (by omega)
theorem need_sum {Y Z : TiersX} (ht : Y.tiers = Z.tiers) (hl : Y.tabs.length = Z.tabs.length) (h : ∀ (j : Nat) (m m' : List RecV), Y.tabs[j]? = some m → Z.tabs[j]? = some m' → ∀ M, needV M m ≤ needV M m') : needX Y ≤ needX Z := by
 unfold needX needsX
 rw [ht]
 refine sum_le_sum (by simp [hl]) (fun i x y hx hy => ?_)
 rw [List.getElem?_zipWith] at hx hy
 cases h1 : Z.tiers[i]? with
 | none => rw [h1] at hx; cases hx
 | some t =>
  rw [h1] at hx hy
  cases h2 : Y.tabs[i]? with
  | none => rw [h2] at hx; cases hx
  | some m =>
   cases h3 : Z.tabs[i]? with
   | none => rw [h3] at hy; cases hy
   | some m' =>
    rw [h2] at hx
    rw [h3] at hy
    cases hx
    cases hy
    exact h i m m' h2 h3 _
theorem tick_need {nm : ByteArray} {l : List TierV} {fl : List Int} {X : TiersX} (hg : GoodX nm l fl X c) (n : Int) : needX (tickX X n) ≤ needX X := by
 unfold tickX
 split
 ·refine need_sum rfl (by show (dropL _ X).length = _; unfold dropL; rw [List.length_map, List.length_range, hg.tlen, hg.tiers]) (fun j m m' h1 h2 M => ?_)
  have hj : j < X.tiers.length := by
   have h3 : j < (dropL (X.now + n) X).length := (List.getElem?_eq_some_iff.1 h1).1
   unfold dropL at h3
   simpa using h3
  have h1 : (dropL (X.now + n) X)[j]? = some m := h1
  unfold dropL at h1
  rw [List.getElem?_map, List.getElem?_range hj] at h1
  simp only [Option.map_some, Option.some.injEq] at h1
  subst h1
  have e : X.tabs.getD j [] = m' := by rw [List.getD_eq_getElem?_getD, h2]; rfl
  rw [e]
  exact needV_keep M _ m'
 ·exact Nat.le_refl _
theorem build_tlen' {nm2 : ByteArray} {lt : List TierV} {X : TiersX} {ss : List Int} : (buildX X nm2 lt ss).tabs.length = lt.length := by unfold buildX; simp
theorem tick_built {nm nm2 : ByteArray} {l lt : List TierV} {fl : List Int} {X : TiersX} {o : Int} (p : checkB nm l = true) (hg : GoodX nm l fl X c) (hfl : ∀ f ∈ fl, 0 ≤ f ∧ f ≤ 2199023255552) (p2 : checkB nm2 lt = true) {n : Int} (hE : tickE X n = 0) :
  needX (buildX (tickX X n) nm2 lt (srcs o l fl lt)) ≤ needX (buildX X nm2 lt (srcs o l fl lt)) := by
 refine need_sum rfl (by rw [build_tlen', build_tlen']) (fun j m m' h1 h2 M => ?_)
 have hj : j < lt.length := by
  have := (List.getElem?_eq_some_iff.1 h1).1
  rwa [build_tlen'] at this
 have e1 : (buildX (tickX X n) nm2 lt (srcs o l fl lt)).tabs.getD j [] = m := by rw [List.getD_eq_getElem?_getD, h1]; rfl
 have e2 : (buildX X nm2 lt (srcs o l fl lt)).tabs.getD j [] = m' := by rw [List.getD_eq_getElem?_getD, h2]; rfl
 have := build_tick (o := o) p hg hfl p2 hE hj
 rw [e1, e2] at this
 rw [this]
 exact needV_keep M _ m'
theorem StGood.tick (h : StGood Q c) (hc : c ≤ 1000000) (n : Int) : StGood (stTick Q n) c := by
 unfold stTick
 split
 ·rename_i hE
  obtain ⟨e1, e2, e3⟩ := tickX_parts Q.X n
  have hg := h.good.tick n
  have hnd := tick_need h.good n
  have hneed := h.need
  refine ⟨?_, ?_, ?_, ?_, ?_, h.room, ?_, ?_⟩
  ·show PolOk (tickX Q.X n).name (tickX Q.X n).tiers
   rw [e1, e2]; exact h.pol
  ·show (tickX Q.X n).name.size ≤ _
   rw [e1]; exact h.nm
  ·show GoodX (tickX Q.X n).name (tickX Q.X n).tiers (tickX Q.X n).floors (tickX Q.X n) c
   rw [e1, e2, e3]; exact hg
  ·show ∀ f ∈ (tickX Q.X n).floors, _
   rw [e3]; exact h.fl
  ·show (tickX Q.X n).floors.length ≤ 5
   rw [e3]; exact h.flen
  ·show ((needX (tickX Q.X n) : Nat) : Int) + boundO (Q.ch.map fun S => trimX (S.built (tickX Q.X n)) S) ≤ Q.room
   have : boundO (Q.ch.map fun S => trimX (S.built (tickX Q.X n)) S) = boundO Q.ch := by cases Q.ch <;> rfl
   rw [this]; omega
  ·intro S' hS'
   have hS0 : (Q.ch.map fun S => trimX (S.built (tickX Q.X n)) S) = some S' := hS'
   cases hch : Q.ch with
   | none => rw [hch] at hS0; cases hS0
   | some S =>
    rw [hch] at hS0
    injection hS0 with hS0
    have hk := h.ch S hch
    obtain ⟨o, ho⟩ := hk.ok
    subst hS0
    refine ⟨hk.pol, hk.nm, ⟨o, ?_⟩, hk.done, hk.b0, ?_⟩
    ·have := ho.tick h.pol.ck h.good (h.hfl hc) hk.pol.ck hE
     show ShOk S.name (tickX Q.X n).tiers S.tiers (tickX Q.X n).floors o (tickX Q.X n) (trimX (S.built (tickX Q.X n)) S)
     rw [e2, e3]
     have e5 : S.built (tickX Q.X n) = buildX (tickX Q.X n) S.name S.tiers (srcs o Q.X.tiers Q.X.floors S.tiers) := by
      unfold ShX.built
      rw [ho.src]
     rw [e5]
     exact this
    ·show ((needX (S.built (tickX Q.X n)) : Nat) : Int) ≤ S.bound
     have h1 := tick_built (o := o) h.pol.ck h.good (h.hfl hc) hk.pol.ck hE
     have h2 := hk.fits
     unfold ShX.built at h2 ⊢
     rw [ho.src] at h2 ⊢
     omega
 ·exact h
theorem begin_bound (X : TiersX) {nm2 : ByteArray} {lt : List TierV} (p2 : PolOk nm2 lt) : ((needX ((beginS X nm2 lt).built X) : Nat) : Int) ≤ (beginS X nm2 lt).bound ∧ 0 ≤ (beginS X nm2 lt).bound := by
 have h := (steps_in p2).1
 have e : (beginS X nm2 lt).bound = 2 * ((needX ((beginS X nm2 lt).built X) : Nat) : Int) + fillsV lt := rfl
 omega
theorem begin_ok (X : TiersX) {nm2 : ByteArray} {lt : List TierV} (p2 : PolOk nm2 lt) : ShOk nm2 X.tiers lt X.floors X.now X (beginS X nm2 lt) :=
 ⟨rfl, rfl, rfl, by show (lt.map fun _ => []) = shT lt 0 _; rw [shT_zero], Int.le_refl _, by have := steps_in p2; show (0 : Int) ≤ _; omega⟩
def ReadOk (R : Int × ByteArray × List TierV) : Prop := R.1 = 0 → PolOk R.2.1 R.2.2 ∧ R.2.1.size ≤ maxLen
theorem StGood.change (h : StGood Q c) {R : Int × ByteArray × List TierV} (hR : ReadOk R) : StGood (stChange Q R) c := by
 unfold stChange
 split
 ·rename_i hE
  unfold stChangeE at hE
  cases hch : Q.ch with
  | some S => rw [hch] at hE; cases hE
  | none =>
   rw [hch] at hE
   simp only at hE
   have hR0 : R.1 = 0 := by
    by_cases hr : R.1 = 0
    ·exact hr
    ·rw [if_neg hr] at hE; exact absurd hE hr
   rw [if_pos hR0] at hE
   have hroom : ((needX Q.X : Nat) : Int) + (beginS Q.X R.2.1 R.2.2).bound ≤ Q.room := by
    by_cases hr : ((needX Q.X : Nat) : Int) + (beginS Q.X R.2.1 R.2.2).bound ≤ Q.room
    ·exact hr
    ·rw [if_neg hr] at hE; cases hE
   obtain ⟨p2, hnm2⟩ := hR hR0
   refine ⟨h.pol, h.nm, h.good, h.fl, h.flen, h.room, hroom, ?_⟩
   intro S' hS'
   injection hS' with hS'
   subst hS'
   have hb := begin_bound Q.X p2
   have hst := steps_in p2
   exact ⟨p2, hnm2, ⟨Q.X.now, begin_ok Q.X p2⟩, by show (0 : Int) < stepsV R.2.2; omega, hb.2, hb.1⟩
 ·exact h
theorem from_high {now : Int} {l : List TierV} {fl : List Int} {B : Int} (hl : ∀ t ∈ l, t.keep ≤ 1000000 ∧ t.every ≤ 1000000) (hn : 0 ≤ now) (hnB : now ≤ B) (hfl : ∀ f ∈ fl, f ≤ B) (h0 : ∀ t ∈ l, 0 ≤ t.keep ∧ 1 ≤ t.every) (k : Nat) : fromV now l fl k ≤ B := by
 unfold fromV
 split
 ·rename_i a b ha hb
  have h1 : backV now a.keep b.every ≤ now := by
   have ha1 := hl a (mem_of_get ha)
   have hb1 := hl b (mem_of_get hb)
   have ha2 := h0 a (mem_of_get ha)
   have hb2 := h0 b (mem_of_get hb)
   unfold backV
   rw [if_neg (by omega)]
   have := floor_le (t := now - a.keep) (e := b.every) hb2.2 (by omega) hb1.2
   omega
  simp only
  split
  ·rename_i f hf
   have := hfl f (mem_of_get hf)
   omega
  ·omega
 ·omega
theorem StGood.step (h : StGood Q c) (hc : c ≤ 1000000) : StGood (stStep Q) (c + 8) := by
 unfold stStep
 cases hch : Q.ch with
 | none => exact h.more (by omega)
 | some S =>
  simp only
  have hk := h.ch S hch
  obtain ⟨o, ho⟩ := hk.ok
  have hneed := h.need
  rw [hch] at hneed
  have hneed : ((needX Q.X : Nat) : Int) + S.bound ≤ Q.room := hneed
  have hfits := hk.fits
  have eb : S.built Q.X = buildX Q.X S.name S.tiers (srcs o Q.X.tiers Q.X.floors S.tiers) := by unfold ShX.built; rw [ho.src]
  split
  ·have hg := build_goodX (o := o) h.pol.ck h.good (h.hfl hc) hk.pol.ck
   refine ⟨hk.pol, hk.nm, ?_, ?_, ?_, h.room, ?_, fun _ h => by cases h⟩
   ·show GoodX S.name S.tiers (S.built Q.X).floors (S.built Q.X) (c + 8)
    rw [eb]
    exact hg.more (by omega)
   ·show ∀ f ∈ (S.built Q.X).floors, _
    rw [eb]
    intro f hf
    obtain ⟨k, hkk⟩ := List.getElem?_of_mem (show f ∈ basesV Q.X.now Q.X.tiers Q.X.floors (srcs o Q.X.tiers Q.X.floors S.tiers) S.tiers from hf)
    have hkl : k < S.tiers.length := by
     have := (List.getElem?_eq_some_iff.1 hkk).1
     unfold basesV at this
     rw [List.length_zipWith] at this
     omega
    obtain ⟨i, x, hx, _, _, _, hb⟩ := build_src (o := o) (X := Q.X) h.pol.ck h.good.now (h.hfl hc) hk.pol.ck (List.getElem?_eq_getElem hkl)
    rw [hb] at hkk
    cases hkk
    have hn := h.good.now
    have hbd := from_bd h.pol.ck hn.1 hn.2 (h.hfl hc) i
    have hy1 := check_mem hk.pol.ck (mem_of_get (List.getElem?_eq_getElem hkl))
    have hcl := ceil_law (t := fromV Q.X.now Q.X.tiers Q.X.floors i) (e := S.tiers[k].every) hbd.1 (by omega) hy1.1 hy1.2.1
    have hhi := from_high (l := Q.X.tiers) (fl := Q.X.floors) (B := 1099511627776 + 1000000 * (c : Int)) (fun t ht => by have := check_mem h.pol.ck ht; omega) hn.1 (by omega) (fun f hf => (h.fl f hf).2) (fun t ht => by have := check_mem h.pol.ck ht; omega) i
    omega
   ·show (S.built Q.X).floors.length ≤ 5
    rw [eb]
    show (basesV Q.X.now Q.X.tiers Q.X.floors (srcs o Q.X.tiers Q.X.floors S.tiers) S.tiers).length ≤ 5
    unfold basesV
    rw [List.length_zipWith]
    have := hk.pol.five
    omega
   ·show ((needX (S.built Q.X) : Nat) : Int) + 0 ≤ Q.room
    omega
  ·rename_i hd
   have hdd := hk.done
   refine ⟨h.pol, h.nm, h.good.more (by omega), fun f hf => by have := h.fl f hf; omega, h.flen, h.room, hneed, ?_⟩
   intro S' hS'
   injection hS' with hS'
   subst hS'
   refine ⟨hk.pol, hk.nm, ⟨o, ?_⟩, by show S.done + 1 < stepsV S.tiers; omega, hk.b0, hfits⟩
   rw [eb]
   exact ho.next hk.done
theorem StGood.abort (h : StGood Q c) : StGood (stAbort Q) c := by
 refine ⟨h.pol, h.nm, h.good, h.fl, h.flen, h.room, ?_, fun _ h => by cases h⟩
 show ((needX Q.X : Nat) : Int) + 0 ≤ Q.room
 have hn := h.need
 cases hch : Q.ch with
 | none => rw [hch] at hn; exact hn
 | some S =>
  rw [hch] at hn
  have := (h.ch S hch).b0
  have hn : ((needX Q.X : Nat) : Int) + S.bound ≤ Q.room := hn
  omega
theorem newX_need (nm : ByteArray) (l : List TierV) (now : Int) (fl : List Int) : needX (newX nm l now fl) = 0 := by
 have hz : ∀ L : List TierV, (List.zipWith (fun (x : TierV) (m : List RecV) => needV (max x.shards 1) m) L (L.map fun _ => [])).sum = 0 := by
  intro L
  induction L with
  | nil => rfl
  | cons a L ih =>
   rw [List.map_cons, List.zipWith_cons_cons, List.sum_cons, ih]
   have hz : ∀ R : List Nat, (R.map fun k => (cntS (max a.shards 1) [] k + 2) / 3).sum = 0 := by
    intro R
    induction R with
    | nil => rfl
    | cons x R ihR => rw [List.map_cons, List.sum_cons, ihR, show cntS (max a.shards 1) [] x = 0 from rfl]
   unfold needV
   rw [hz]
 unfold needX needsX newX
 exact hz l
theorem newE_ok {nm : ByteArray} {l : List TierV} (p : PolOk nm l) : newE nm l 0 [] = 0 := by
 unfold newE
 rw [if_pos p.ck, if_neg (by simp), if_pos]
 unfold floorsB
 rw [List.all_eq_true]
 intro k _
 unfold floorOk
 simp
theorem StGood.new {nm : ByteArray} {l : List TierV} (p : PolOk nm l) (hnm : nm.size ≤ maxLen) {room : Int} (h0 : 0 ≤ room) (h1 : room ≤ 4096) : StGood ⟨room, newX nm l 0 [], none⟩ 0 := by
 refine ⟨p, hnm, GoodX.new (newE_ok p), (fun _ h => by cases h), Nat.zero_le _, ⟨h0, h1⟩, ?_, (fun _ h => by cases h)⟩
 show ((needX (newX nm l 0 []) : Nat) : Int) + 0 ≤ room
 rw [newX_need]
 omega
end
end Go.Proofs.YtkfdgodngbinlaaGreatDoor
namespace Go.Proofs.YtkfdgodngbinlaaGreatDoor
set_option linter.all false
open Go.RowKit

def ChOn (W : World) (lo : Nat) : Option ShX → Value → (Nat → Prop) → Prop
 | none, v, F => v = .pointer none ∧ F = fun _ => False
 | some S, v, F => ∃ s base, lo ≤ base ∧ v = .pointer (some ⟨s, 0, none⟩) ∧ ShOn W s base S F
structure StIn (W : World) (g lo : Nat) (Q : StX) (c t : Nat) (Ft Fs : Nat → Prop) (v : Value) : Prop where
 blk : Blk W g 97 #[.int .i64 Q.room, .pointer (some ⟨t, 0, none⟩), v]
 glo : lo ≤ g
 tio : Tio Q.X.name Q.X.tiers Q.X.floors lo W t Q.X Ft c
 ch : ChOn W lo Q.ch v Fs
 apart : ∀ j, Ft j → ¬ Fs j
def stF (g : Nat) (Ft Fs : Nat → Prop) : Nat → Prop := fun j => j = g ∨ Ft j ∨ Fs j
def StOn (W : World) (g lo : Nat) (Q : StX) (c : Nat) (F : Nat → Prop) : Prop := ∃ t Ft Fs v, StIn W g lo Q c t Ft Fs v ∧ F = stF g Ft Fs
def Kind2 (W : World) (G : Nat → Prop) : Prop := ∀ j, G j → (∃ es ck, W.heap[j]? = some (.map es ck)) ∨ (∃ cs fz ty, W.heap[j]? = some (.cells cs ty fz) ∧ ty ≠ 109 ∧ ty ≠ 3 ∧ ty ≠ 107 ∧ ty ≠ 189)
section
variable {W W' : World} {g lo : Nat} {Q : StX} {c t : Nat} {Ft Fs F G : Nat → Prop} {v : Value}
theorem ChOn.fr {o : Option ShX} (h : ChOn W lo o v Fs) (hf : Fr G W W') (hG : Kind2 W G) (hd : ∀ j, Fs j → ¬ G j) : ChOn W' lo o v Fs := by
 cases o with
 | none => exact h
 | some S =>
  obtain ⟨s, base, hb, hv, hs⟩ := h
  exact ⟨s, base, hb, hv, hs.fr hf hG hd⟩
theorem ChOn.kind2 {o : Option ShX} (h : ChOn W lo o v Fs) : Kind2 W Fs := by
 cases o with
 | none => obtain ⟨_, rfl⟩ := h; exact fun _ h => h.elim
 | some S =>
  obtain ⟨s, base, hb, hv, hs⟩ := h
  exact hs.kind2
theorem ChOn.ge {o : Option ShX} (h : ChOn W lo o v Fs) : ∀ j, Fs j → lo ≤ j ∧ j < W.heap.size := by
 cases o with
 | none => obtain ⟨_, rfl⟩ := h; exact fun _ h => h.elim
 | some S =>
  obtain ⟨s, base, hb, hv, hs⟩ := h
  intro j hj
  have := hs.ge j hj
  omega
theorem ChOn.blk_ne {o : Option ShX} (h : ChOn W lo o v Fs) {cs : Array Value} (hb : Blk W g 97 cs) : ¬ Fs g := by
 cases o with
 | none => obtain ⟨_, rfl⟩ := h; exact fun h => h
 | some S =>
  obtain ⟨s, base, _, _, hs⟩ := h
  intro hj
  have hb0 : W.heap[g]? = some (Obj.cells cs 97 (0, 0)) := hb
  rcases hs.kind g hj with ⟨es, ck, e⟩ | ⟨cs', fz, e⟩
  ·rw [hb0] at e; cases e
  ·rw [hb0] at e
   injection e with e
   injection e with _ e _
   exact absurd e (by decide)
theorem Tio.kind2 {nm : ByteArray} {l : List TierV} {fl : List Int} {X : TiersX} (h : Tio nm l fl lo W t X Ft c) : Kind2 W Ft := by
 obtain ⟨b, hb, ho⟩ := h.on
 exact ho.kind2
theorem Tio.blk_ne {nm : ByteArray} {l : List TierV} {fl : List Int} {X : TiersX} (h : Tio nm l fl lo W t X Ft c) {cs : Array Value} (hb : Blk W g 97 cs) : ¬ Ft g := by
 obtain ⟨b, _, ho⟩ := h.on
 intro hj
 have hb0 : W.heap[g]? = some (Obj.cells cs 97 (0, 0)) := hb
 rcases ho.kind g hj with ⟨es, ck, e⟩ | ⟨cs', fz, e⟩
 ·rw [hb0] at e; cases e
 ·rw [hb0] at e
  injection e with e
  injection e with _ e _
  exact absurd e (by decide)
theorem Tio.frK2 {nm : ByteArray} {l : List TierV} {fl : List Int} {X : TiersX} (h : Tio nm l fl lo W t X Ft c) (hf : Fr G W W') (hG : Kind2 W G) (hd : ∀ j, Ft j → ¬ G j) : Tio nm l fl lo W' t X Ft c := by
 obtain ⟨b, hb, ho⟩ := h.on
 exact ⟨⟨b, hb, ho.frSh hf hG hd⟩, h.good⟩
theorem StIn.fr (h : StIn W g lo Q c t Ft Fs v) (hf : Fr G W W') (hG : Kind2 W G) (hd : ∀ j, stF g Ft Fs j → ¬ G j) : StIn W' g lo Q c t Ft Fs v :=
 ⟨h.blk.fr hf (hd g (.inl rfl)), h.glo, h.tio.frK2 hf hG (fun j hj => hd j (.inr (.inl hj))), h.ch.fr hf hG (fun j hj => hd j (.inr (.inr hj))), h.apart⟩
theorem kind2_none : Kind2 W (fun _ => False) := fun _ h => h.elim
theorem StIn.fr0 (h : StIn W g lo Q c t Ft Fs v) (hf : Fr (fun _ => False) W W') : StIn W' g lo Q c t Ft Fs v := h.fr hf kind2_none (fun _ _ h => h)
theorem StIn.kind2 (h : StIn W g lo Q c t Ft Fs v) : Kind2 W (stF g Ft Fs) := by
 rintro j (rfl | hj | hj)
 ·exact .inr ⟨_, _, _, h.blk, by decide, by decide, by decide, by decide⟩
 ·exact h.tio.kind2 j hj
 ·exact h.ch.kind2 j hj
theorem StIn.ge (h : StIn W g lo Q c t Ft Fs v) : ∀ j, stF g Ft Fs j → lo ≤ j ∧ j < W.heap.size := by
 rintro j (rfl | hj | hj)
 ·exact ⟨h.glo, h.blk.lt⟩
 ·exact h.tio.ge j hj
 ·exact h.ch.ge j hj
theorem StIn.more (h : StIn W g lo Q c t Ft Fs v) {d : Nat} (hd : c ≤ d) : StIn W g lo Q d t Ft Fs v := ⟨h.blk, h.glo, h.tio.more hd, h.ch, h.apart⟩
theorem StOn.fr (h : StOn W g lo Q c F) (hf : Fr G W W') (hG : Kind2 W G) (hd : ∀ j, F j → ¬ G j) : StOn W' g lo Q c F := by
 obtain ⟨t, Ft, Fs, v, hi, rfl⟩ := h
 exact ⟨t, Ft, Fs, v, hi.fr hf hG hd, rfl⟩
theorem StOn.fr0 (h : StOn W g lo Q c F) (hf : Fr (fun _ => False) W W') : StOn W' g lo Q c F := h.fr hf kind2_none (fun _ _ h => h)
theorem StOn.kind2 (h : StOn W g lo Q c F) : Kind2 W F := by
 obtain ⟨t, Ft, Fs, v, hi, rfl⟩ := h
 exact hi.kind2
theorem StOn.ge (h : StOn W g lo Q c F) : ∀ j, F j → lo ≤ j ∧ j < W.heap.size := by
 obtain ⟨t, Ft, Fs, v, hi, rfl⟩ := h
 exact hi.ge
theorem StOn.more (h : StOn W g lo Q c F) {d : Nat} (hd : c ≤ d) : StOn W g lo Q d F := by
 obtain ⟨t, Ft, Fs, v, hi, rfl⟩ := h
 exact ⟨t, Ft, Fs, v, hi.more hd, rfl⟩
theorem StOn.apart {g2 lo2 c2 : Nat} {Q2 : StX} {F2 : Nat → Prop} (h : StOn W g lo Q c F) (h2 : StOn W g2 lo2 Q2 c2 F2) (hf : Fr F2 W W') (hd : ∀ j, F j → ¬ F2 j) : StOn W' g lo Q c F := h.fr hf h2.kind2 hd
def Onto (W : World) (F F' : Nat → Prop) : Prop := ∀ j, F' j → F j ∨ W.heap.size ≤ j
end
end Go.Proofs.YtkfdgodngbinlaaGreatDoor
