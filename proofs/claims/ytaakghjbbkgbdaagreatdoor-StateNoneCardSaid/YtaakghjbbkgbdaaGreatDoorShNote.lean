/- Walk of shadow: Note. -/
import Derived.Test.YtaakghjbbkgbdaaGreatDoorShChk
import Derived.Test.YtaakghjbbkgbdaaGreatDoorShA
import Derived.Test.YtaakghjbbkgbdaaGreatDoorPlanBuild
import Derived.Test.YtaakghjbbkgbdaaGreatDoorRTAdd
import Derived.Test.YtaakghjbbkgbdaaGreatDoorTk
namespace Go.Proofs.YtaakghjbbkgbdaaGreatDoor
set_option linter.all false
open Go.RowKit

def notesT (Y : TiersX) (done : Int) (tabs : List (List RecV)) (ls : List SampV) : List (List RecV) := ls.foldl (noteT Y done) tabs
theorem notesT_len {Y : TiersX} {done : Int} {n : Nat} (hY : Y.tiers.length = n) : ∀ {ls : List SampV} {tabs : List (List RecV)}, tabs.length = n → (notesT Y done tabs ls).length = n
 | [], _, h => h
 | s :: ls, tabs, _ => notesT_len hY (ls := ls) (tabs := noteT Y done tabs s) (by unfold noteT; rw [List.length_map, List.length_range, hY])
theorem noteT_short {Y : TiersX} {done : Int} {tabs : List (List RecV)} {c : Nat} (h : ∀ m ∈ tabs, m.length ≤ c) (s : SampV) : ∀ m ∈ noteT Y done tabs s, m.length ≤ c + 1 := by
 intro m hm
 unfold noteT at hm
 obtain ⟨j, _, rfl⟩ := List.mem_map.1 hm
 have h2 : (tabs.getD j []).length ≤ c := by
  rcases getD_mem_or (L := tabs) j with h3 | h3
  ·exact h _ h3
  ·rw [h3]; exact Nat.zero_le _
 unfold noteL
 split
 ·split
  ·exact Nat.le_trans (addV_len_le _ _ _) (by omega)
  ·omega
 ·omega
theorem notesT_short {Y : TiersX} {done : Int} : ∀ {ls : List SampV} {tabs : List (List RecV)} {c : Nat}, (∀ m ∈ tabs, m.length ≤ c) → ∀ m ∈ notesT Y done tabs ls, m.length ≤ c + ls.length
 | [], _, _, h => h
 | s :: ls, tabs, c, h => fun m hm => by
  have := notesT_short (ls := ls) (noteT_short (Y := Y) (done := done) h s) m hm
  rw [List.length_cons]
  omega
set_option maxRecDepth 100000 in
set_option maxHeartbeats 8000000 in
theorem snote_any {nm nm2 : ByteArray} {l lt : List TierV} {fl : List Int} {o : Int} {lo : Nat} {W : World} {t s base : Nat} {X : TiersX} {S : ShX} {Ft F : Nat → Prop} {cc : Nat} (p : PolOk nm l) (p2 : PolOk nm2 lt) (hnm2 : nm2.size ≤ maxLen) (h : Tio nm l fl lo W t X Ft cc) (hc : cc ≤ 1000000) (hfl : ∀ f ∈ fl, 0 ≤ f ∧ f ≤ 2199023255552) (hs : ShOn W s base S F) (h1 : S.name = nm2) (h2 : S.tiers = lt) (h3 : S.srcs = srcs o l fl lt) (hd : 0 ≤ S.done ∧ S.done ≤ 100) (hl : ∀ m ∈ S.tabs, m.length ≤ 1000000) (ls : List SampV) (A1 : Option Addr) (n1 c1 : Nat) (hr : Rd W 3 A1 n1 (scells ls)) (hsw : ∀ z ∈ ls, z.wf) (hn1' : n1 ≤ 1000) (hA : ∀ j, adF A1 n1 j → ¬ F j) :
  Calls Tryz.prog 142 #[.pointer (some ⟨s, 0, none⟩), .pointer (some ⟨t, 0, none⟩), .slice A1 n1 c1] W fun r w' => r = .returned (.tuple #[]) ∧ ShOn w' s base { S with tabs := notesT (buildX X nm2 lt (srcs o l fl lt)) S.done S.tabs ls } F ∧ Fr F W w' := by
 obtain ⟨A, c, B, d, T, ct, tb, hi, rfl⟩ := hs
 obtain ⟨n, hn0⟩ : ∃ n, lt.length = n := ⟨_, rfl⟩
 have hSn : S.tiers.length = n := by rw [h2, hn0]
 have hSm : S.srcs.length = n := by rw [h3]; unfold srcs; rw [List.length_map, hn0]
 have hfive := p2.five
 have hn5 : n ≤ 5 := by omega
 have hn1 : 0 < n := by have := p2.pos; omega
 have HI := Lib.hid hi
 have htc : n ≤ c := by have := (own_any hi.tiers).1; omega
 obtain ⟨ad, hadT, hcr⟩ := (own_any hi.row).2.2.1.2 (show 0 < S.tiers.length by omega)
 subst hadT
 have Hcr := Lib.hid hcr
 have hrdA := (own_any hi.tiers).2.2.1
 rw [hSn, h2] at hrdA
 obtain ⟨aA, haA, _⟩ := hrdA.2 hn1
 subst haA
 have HrdA := Lib.hid hrdA
 have HBu : Hid (Calls Tryz.prog 173 #[.agg #[.string nm2, .slice (some aA) n c, .slice B n d], .pointer (some ⟨t, 0, none⟩)] W fun r w' => (∃ t' F', r = .returned (.tuple #[.pointer (some ⟨t', 0, none⟩), .int .i64 0]) ∧ Tio nm2 lt (basesV X.now l fl (srcs o l fl lt) lt) W.heap.size w' t' (buildX X nm2 lt (srcs o l fl lt)) F' cc ∧ ∀ j, F' j → W.heap.size ≤ j) ∧ Below W.heap.size W w') := by
  have q2 := (own_any HI.out.srcs).2.2.1
  rw [hSm, h3] at q2
  exact tio_build p p2 hnm2 h hc hfl (some aA) n c B d HrdA.out htc q2 W.heap.size (Nat.le_refl _)
 obtain ⟨bs, hbs⟩ : ∃ v, basesV X.now l fl (srcs o l fl lt) lt = v := ⟨_, rfl⟩
 obtain ⟨Y, hY⟩ : ∃ v, buildX X nm2 lt (srcs o l fl lt) = v := ⟨_, rfl⟩
 have HYt : Hid (Y.tiers = lt) := by show _ = _; rw [← hY]; rfl
 rw [hbs, hY] at HBu
 rw [hY]
 have Hn0 := Lib.hid hn0
 have HSn := Lib.hid hSn
 have Ht := Lib.hid h2
 have Hl := Lib.hid hl
 have Hsw := Lib.hid hsw
 have Hr := Lib.hid hr
 have Hlen := Lib.hid (Rd.samps_len hr)
 have HA := Lib.hid hA
 have HCs : Hid (∀ {W' : World} {G : Nat → Prop}, Fr G W W' → ¬ G s → W'.cell? ⟨s, 0, none⟩ = some (.string nm2) ∧ W'.cell? ⟨s, 1, none⟩ = some (.slice (some aA) n c) ∧ W'.cell? ⟨s, 2, none⟩ = some (.slice B n d) ∧ W'.cell? ⟨s, 4, none⟩ = some (.int .i64 S.done) ∧ W'.cell? ⟨s, 5, none⟩ = some (.slice (some ad) n ct)) := fun f hg => by
  obtain ⟨c0, c1, c2, _, c4, c5⟩ := HI.out.cells f hg
  rw [h1] at c0
  rw [hSn] at c1 c5
  rw [hSm] at c2
  exact ⟨c0, c1, c2, c4, c5⟩
 have HMp : Hid (∀ j, tM tb j → ∃ es ck, W.heap[j]? = some (.map es ck)) := fun j hj => (HI.out.map_ hj).2.2
 have HMl : Hid (∀ j, tM tb j → j < W.heap.size) := fun j hj => (HI.out.map_ hj).2.1
 have HTl : Hid (S.tabs.length = n) := by show _ = _; rw [HI.out.tlen, HSn.out]
 obtain ⟨c0, c1, c2, c4, c5⟩ := HCs.out (Fr.refl (fun _ => False) W) (fun h => h)
 clear hi hn0 hSm hbs hY h1 h2 h3 h hl hSn hcr hrdA hsw hr hA
 go_enter Tryz.func142, Tryz.ntmps142
 go_wp2_with fail
 refine HBu.out.mono ?_
 rintro r w1 ⟨⟨u, Fu, rfl, T1, hFu⟩, b1⟩
 have F1 : Hid (Fr (fun _ => False) W w1) := Fr.b0 b1
 have HT1 := Lib.hid T1
 have HFu := Lib.hid hFu
 obtain ⟨tA, tc, tB, td, hR⟩ := T1.reach
 have HR := Lib.hid hR
 obtain ⟨mf, hmf⟩ : ∃ m, bs.length = m := ⟨_, rfl⟩
 have hY0 := T1.good.now
 -- frames of the maps alone
 have HFm : Hid (∀ W', Fr (tM tb) w1 W' → Fr (fun j => tM tb j ∧ ∃ es ck, w1.heap[j]? = some (.map es ck)) w1 W') := fun W' f => f.mono (fun j hj => .inl ⟨hj, by obtain ⟨es, ck, h⟩ := HMp.out j hj; exact ⟨es, ck, by rw [F1.out.block j (HMl.out j hj) (fun h => h)]; exact h⟩⟩)
 have HCw : Hid (∀ W_, Fr (tM tb) w1 W_ → W_.cell? ⟨s, 0, none⟩ = some (.string nm2) ∧ W_.cell? ⟨s, 1, none⟩ = some (.slice (some aA) n c) ∧ W_.cell? ⟨s, 2, none⟩ = some (.slice B n d) ∧ W_.cell? ⟨s, 4, none⟩ = some (.int .i64 S.done) ∧ W_.cell? ⟨s, 5, none⟩ = some (.slice (some ad) n ct) ∧ W_.cell? ⟨u, 0, none⟩ = some (.int .i64 Y.now) ∧ W_.cell? ⟨u, 1, none⟩ = some (.string nm2) ∧ W_.cell? ⟨u, 2, none⟩ = some (.slice tA n tc) ∧ W_.cell? ⟨u, 3, none⟩ = some (.slice tB mf td)) := fun W_ f => by
  obtain ⟨k0, k1, k2, k3, k4⟩ := HCs.out F1.out (fun h => h)
  have r2 := HR.out.c2
  have r3 := HR.out.c3
  rw [Hn0.out] at r2
  rw [hmf] at r3
  have g := HFm.out W_ f
  exact ⟨mapcell g k0, mapcell g k1, mapcell g k2, mapcell g k3, mapcell g k4, mapcell g HR.out.c0, mapcell g HR.out.c1, mapcell g r2, mapcell g r3⟩
 have HRdm : Hid (∀ W_, Fr (tM tb) w1 W_ → Rd W_ 4 (some aA) n (tcells lt)) := fun W_ f => (HrdA.out.fr0 F1.out).mapfr (by decide) (HFm.out W_ f)
 have HFi : Hid (∀ W_ (j : Nat) (y : TierV) (sn : ByteArray), Fr (tM tb) w1 W_ → lt[j]? = some y → sn.size ≤ maxLen → Calls Tryz.prog 234 #[.agg #[.string nm2, .slice (some aA) n c, .slice B n d], .int .i64 S.done, .int .i64 (j : Nat), .string sn] W_ fun r w' => r = .returned (.bool (filB lt S.done j sn)) ∧ Below W_.heap.size W_ w') := fun W_ j y sn f hy hsz => by
  have := filled_any nm2 lt (some aA) n c B n d S.done j y sn W_ (HRdm.out W_ f) htc (by omega) (fun x hx => (check_mem p2.ck hx).2.2.2.2.2) hy hsz
  have e : filB lt S.done j sn = decide (shardV sn y.shards + fillsV (lt.take j) < S.done) := by unfold filB; rw [hy]
  rw [e]
  exact this
 have HFr : Hid (∀ W_ (j : Nat), Fr (tM tb) w1 W_ → j < n → Calls Tryz.prog 42 #[.agg #[.int .i64 Y.now, .string nm2, .slice tA n tc, .slice tB mf td], .int .i64 (j : Nat)] W_ fun r w' => r = .returned (.int .i64 (fromV Y.now lt bs j)) ∧ Below W_.heap.size W_ w') := fun W_ j f hj => by
  have g := HFm.out W_ f
  have hR' : ReachIn W_ u Y.now nm2 lt bs tA tc tB td := ⟨mapcell g HR.out.c0, mapcell g HR.out.c1, mapcell g HR.out.c2, mapcell g HR.out.c3, HR.out.rt.mapfr (by decide) g, HR.out.rf.mapfr (by decide) g, HR.out.le⟩
  have := reach_from p2 hR' hY0 j (by rw [Hn0.out]; exact hj)
  rw [Hn0.out, hmf] at this
  exact this
 have hYf : Y.floors = bs := T1.good.floors
 have HNl : Hid (∀ j y (z : SampV) m, lt[j]? = some y → noteL Y S.done z j m = if filB lt S.done j z.name && decide (fromV Y.now lt bs j ≤ floorV z.time y.every) then addV y.every m ⟨z.name, floorV z.time y.every, aggOne z.value⟩ else m) := fun j y z m hy => by
  unfold noteL
  rw [HYt.out, hYf, hy]
 have HRs : Hid (∀ W_, Fr (tM tb) w1 W_ → Rd W_ 3 A1 n1 (scells ls)) := fun W_ f => (Hr.out.fr0 F1.out).fr f (fun j hj hm => HA.out j hj (.inr hm))
 have HI1 : Hid (ShIn w1 s base { S with tabs := notesT Y S.done S.tabs (ls.take 0) } (some aA) c B d (some ad) ct tb) := HI.out.fr0 F1.out
 have HLq : Hid (∀ q, (notesT Y S.done S.tabs (ls.take q)).length = n) := fun q => notesT_len (by rw [HYt.out]; exact Hn0.out) HTl.out
 have HLl : Hid (∀ q, ∀ m ∈ notesT Y S.done S.tabs (ls.take q), m.length ≤ 1000000 + q) := fun q m hm => by
  have := notesT_short (Y := Y) (done := S.done) (ls := ls.take q) Hl.out m hm
  rw [List.length_take] at this
  omega
 clear T1 b1 HBu c0 c1 c2 c4 c5 hR hFu hmf hYf
 go_wp2_with fail
 go_loopw [28] (fun i wr => ∃ q : Nat, q ≤ n1 ∧ i = .int .i64 q ∧ ShIn wr s base { S with tabs := notesT Y S.done S.tabs (ls.take q) } (some aA) c B d (some ad) ct tb ∧ Fr (tM tb) w1 wr) (fun i _ => n1 - (intOf i).toNat)
 case atStart => exact ⟨0, Nat.zero_le _, rfl, HI1.out, Fr.refl _ _⟩
 case round =>
  obtain ⟨q, hq, rfl, hiq, hfq⟩ := hrel
  have Hiq := Lib.hid hiq
  have Hfq := Lib.hid hfq
  clear hiq hfq
  by_cases hlt : q < n1
  ·obtain ⟨ar, z, rfl, hz, e0, e1, e2⟩ := (HRs.out wr Hfq.out).samp_ (k := q) hlt
   have g0 : decide ((q : Int) < (n1 : Int)) = true := decide_eq_true (by omega)
   have qn : 0 ≤ (q : Int) ∧ (q : Int) < (n1 : Int) := by omega
   have hqw : IntKind.i64.wrap ((q : Int) + 1) = (q : Int) + 1 := by simp [IntKind.wrap, IntKind.signed, IntKind.bits]; omega
   have hzw := Hsw.out z (mem_of_get hz)
   have Hz := Lib.hid hz
   have HNq : Hid (notesT Y S.done S.tabs (ls.take (q + 1)) = noteT Y S.done (notesT Y S.done S.tabs (ls.take q)) z) := by
    show _ = _
    rw [take_snoc hz]
    unfold notesT
    rw [List.foldl_append]
    rfl
   obtain ⟨Lq, hLq⟩ : ∃ v, notesT Y S.done S.tabs (ls.take q) = v := ⟨_, rfl⟩
   have HLn := HLq.out q
   have HLs := Lib.hid (HLl.out q)
   rw [hLq] at HNq HLn Hiq HLs
   obtain ⟨zn, zt, zv⟩ := z
   obtain ⟨hzt, hzv, hzs⟩ := hzw
   simp only at e0 e1 e2 hzt hzv hzs
   have k1 := fun o => (HCw.out _ (Hfq.out.trans (Fr.none_alloc wr o) (fun _ h => h.elim))).2.1
   obtain ⟨zb, hzb⟩ : ∃ v, wr.heap.size = v := ⟨_, rfl⟩
   obtain ⟨ff, hff⟩ : ∃ f : Nat → List RecV, (fun k => noteL Y S.done ⟨zn, zt, zv⟩ k (Lq.getD k [])) = f := ⟨_, rfl⟩
   obtain ⟨gg, hgg⟩ : ∃ f : Nat → List RecV, (fun k => Lq.getD k []) = f := ⟨_, rfl⟩
   have Hff : Hid (∀ k y, lt[k]? = some y → ff k = if filB lt S.done k zn && decide (fromV Y.now lt bs k ≤ floorV zt y.every) then addV y.every (gg k) ⟨zn, floorV zt y.every, aggOne zv⟩ else gg k) := fun k y hy => by
    rw [← hff, ← hgg]
    exact HNl.out k y ⟨zn, zt, zv⟩ _ hy
   have Hgl : Hid (∀ k, (gg k).length ≤ 1001000) := fun k => by
    rw [← hgg]
    have := getD_len HLs.out k
    simp only
    omega
   have He0 : Hid (uptoL n ff gg 0 = Lq) := by show _ = _; rw [uptoL_zero, ← hgg]; exact getD_all HLn
   have HeN : Hid (uptoL n ff gg n = notesT Y S.done S.tabs (ls.take (q + 1))) := by
    show _ = _
    rw [HNq.out, uptoL_all, ← hff]
    unfold noteT
    rw [HYt.out, Hn0.out]
   have Hzv := Lib.hid hzv
   clear hff hgg hLq
   go_wp2_with fail
   obtain ⟨W1, hW1⟩ : ∃ W1, W1 = wr.alloc (.cells #[.string zn, .int .i64 zt, .int .i64 zv] 100) := ⟨_, rfl⟩
   rw [← hW1]
   try rw [hzb]
   have hbx : Hid (Blk W1 zb 100 #[.string zn, .int .i64 zt, .int .i64 zv]) := by show Blk _ _ _ _; rw [hW1]; exact Blk.new' hzb.symm _ _
   have HF1 : Hid (Fr (tM tb) w1 W1) := by show Fr _ _ _; rw [hW1]; exact Hfq.out.trans (Fr.none_alloc _ _) (fun _ h => h.elim)
   have HI0 : Hid (ShIn W1 s base { S with tabs := uptoL n ff gg 0 } (some aA) c B d (some ad) ct tb) := by
    show ShIn _ _ _ _ _ _ _ _ _ _ _
    rw [hW1, He0.out]
    exact Hiq.out.fr0 (Fr.none_alloc _ _)
   have HzM : Hid (∀ j, tM tb j → zb ≠ j) := fun j hj e => by
    have h1 := HMl.out j hj
    have h2 := F1.out.size
    have h3 := Hfq.out.size
    omega
   clear hW1 e0 e1 e2 k1 Hiq
   go_loopw [39] (fun i wr => ∃ j : Nat, j ≤ n ∧ i = .int .i64 j ∧ ShIn wr s base { S with tabs := uptoL n ff gg j } (some aA) c B d (some ad) ct tb ∧ Fr (tM tb) W1 wr) (fun i _ => n - (intOf i).toNat)
   case atStart => exact ⟨0, Nat.zero_le _, rfl, HI0.out, Fr.refl _ _⟩
   case round =>
    obtain ⟨j, hj, rfl, hij, hfj⟩ := hrel
    have Hij := Lib.hid hij
    have Hfj := Lib.hid hfj
    have Hbx := Lib.hid (hbx.out.fr hfj (fun hm => HzM.out zb hm rfl))
    have Hfw : Hid (Fr (tM tb) w1 wr) := HF1.out.trans hfj (fun i hi => .inl hi)
    clear hij hfj
    by_cases hlj : j < n
    ·obtain ⟨g, b, y, m, h1, h2, h3, hTb⟩ := Hij.out.tabAt (k := j) (by show _ < S.tiers.length; rw [HSn.out]; exact hlj)
     have hy : lt[j]? = some y := by rw [← Ht.out]; exact h2
     have hmg : m = gg j := by
      have h4 : (uptoL n ff gg j)[j]? = some m := h3
      rw [uptoL_get hlj] at h4
      exact (Option.some.inj h4).symm
     subst hmg
     obtain ⟨ad', ea, hcr⟩ := (own_any Hij.out.row).2.2.1.2 (show 0 < S.tiers.length by rw [HSn.out]; omega)
     obtain rfl : ad = ad' := Option.some.inj ea
     have p0 := hcr j _ (ptrs_get h1)
     try simp only at p0
     obtain ⟨aA', y', ea2, hy', d0, d1, d2, d3⟩ := (HRdm.out wr Hfw.out).tier hlj
     obtain rfl : aA = aA' := Option.some.inj ea2
     obtain rfl : y = y' := by rw [hy] at hy'; exact Option.some.inj hy'
     have Hy := Lib.hid hy
     have kj : 0 ≤ (j : Int) ∧ (j : Int) < (n : Int) := by omega
     have gj : decide ((j : Int) < (n : Int)) = true := decide_eq_true (by omega)
     have hjw : IntKind.i64.wrap ((j : Int) + 1) = (j : Int) + 1 := by simp [IntKind.wrap, IntKind.signed, IntKind.bits]; omega
     obtain ⟨es, ck, hbm⟩ := hTb.own.isMap
     try simp only at hbm
     have hpb : (ad.add j).block ≠ b := cell_ne_map' p0 hbm
     have hzbb : zb ≠ b := HzM.out b ⟨_, List.mem_of_getElem? h1, rfl⟩
     have Hup : Hid (∀ W_, Fr (fun i => i = b) wr W_ → Fr (tM tb) w1 W_) := fun W_ f => Hfw.out.trans f (fun i hi => .inl ⟨_, List.mem_of_getElem? h1, hi⟩)
     have Hup0 : Hid (∀ W_, Fr (fun _ => False) wr W_ → Fr (tM tb) w1 W_) := fun W_ f => Hup.out W_ (f.mono (fun _ h => h.elim))
     have HCb : Hid (∀ W_, Fr (fun i => i = b) wr W_ → (W_.cell? ⟨s, 0, none⟩ = some (.string nm2) ∧ W_.cell? ⟨s, 1, none⟩ = some (.slice (some aA) n c) ∧ W_.cell? ⟨s, 2, none⟩ = some (.slice B n d) ∧ W_.cell? ⟨s, 4, none⟩ = some (.int .i64 S.done) ∧ W_.cell? ⟨s, 5, none⟩ = some (.slice (some ad) n ct) ∧ W_.cell? ⟨u, 0, none⟩ = some (.int .i64 Y.now) ∧ W_.cell? ⟨u, 1, none⟩ = some (.string nm2) ∧ W_.cell? ⟨u, 2, none⟩ = some (.slice tA n tc) ∧ W_.cell? ⟨u, 3, none⟩ = some (.slice tB mf td)) ∧ W_.cell? ⟨zb, 0, none⟩ = some (.string zn) ∧ W_.cell? ⟨zb, 1, none⟩ = some (.int .i64 zt) ∧ W_.cell? ⟨zb, 2, none⟩ = some (.int .i64 zv) ∧ W_.cell? (ad.add j) = some (.pointer (some ⟨g, 0, none⟩))) := fun W_ f => by
      have bz := Hbx.out.fr f hzbb
      exact ⟨HCw.out W_ (Hup.out W_ f), bz.cell 0, bz.cell 1, bz.cell 2, f.cell p0 hpb⟩
     have HC : Hid (∀ W_, Fr (fun _ => False) wr W_ → (W_.cell? ⟨s, 0, none⟩ = some (.string nm2) ∧ W_.cell? ⟨s, 1, none⟩ = some (.slice (some aA) n c) ∧ W_.cell? ⟨s, 2, none⟩ = some (.slice B n d) ∧ W_.cell? ⟨s, 4, none⟩ = some (.int .i64 S.done) ∧ W_.cell? ⟨s, 5, none⟩ = some (.slice (some ad) n ct) ∧ W_.cell? ⟨u, 0, none⟩ = some (.int .i64 Y.now) ∧ W_.cell? ⟨u, 1, none⟩ = some (.string nm2) ∧ W_.cell? ⟨u, 2, none⟩ = some (.slice tA n tc) ∧ W_.cell? ⟨u, 3, none⟩ = some (.slice tB mf td)) ∧ W_.cell? ⟨zb, 0, none⟩ = some (.string zn) ∧ W_.cell? ⟨zb, 1, none⟩ = some (.int .i64 zt) ∧ W_.cell? ⟨zb, 2, none⟩ = some (.int .i64 zv) ∧ W_.cell? (ad.add j) = some (.pointer (some ⟨g, 0, none⟩))) := fun W_ f => HCb.out W_ (f.mono (fun _ h => h.elim))
     obtain ⟨fb, hfb⟩ : ∃ v, filB lt S.done j zn = v := ⟨_, rfl⟩
     obtain ⟨fv, hfv⟩ : ∃ v, fromV Y.now lt bs j = v := ⟨_, rfl⟩
     obtain ⟨sv, hsv⟩ : ∃ v, floorV zt y.every = v := ⟨_, rfl⟩
     have HFi1 : Hid (∀ W_, Fr (fun _ => False) wr W_ → Calls Tryz.prog 234 #[.agg #[.string nm2, .slice (some aA) n c, .slice B n d], .int .i64 S.done, .int .i64 (j : Nat), .string zn] W_ fun r w' => r = .returned (.bool fb) ∧ Below W_.heap.size W_ w') := fun W_ f => by
      rw [← hfb]
      exact HFi.out W_ j y zn (Hup0.out W_ f) Hy.out hzs
     have HFr1 : Hid (∀ W_, Fr (fun _ => False) wr W_ → Calls Tryz.prog 42 #[.agg #[.int .i64 Y.now, .string nm2, .slice tA n tc, .slice tB mf td], .int .i64 (j : Nat)] W_ fun r w' => r = .returned (.int .i64 fv) ∧ Below W_.heap.size W_ w') := fun W_ f => by
      rw [← hfv]
      exact HFr.out W_ j (Hup0.out W_ f) hlj
     have hev := check_mem p2.ck (mem_of_get hy)
     have HFl : Hid (∀ W_, Calls Tryz.prog 233 #[.int .i64 zt, .int .i64 y.every] W_ fun r w' => r = .returned (.int .i64 sv) ∧ W_ = w') := fun W_ => by
      rw [← hsv]
      exact floor_any zt y.every hzt.1 hzt.2 (by omega) (by omega) W_
     have hsvi : in64 sv := by rw [← hsv]; exact floor_in hzt.1 hzt.2
     have Hfk : Hid (ff j = if fb && decide (fv ≤ sv) then addV y.every (gg j) ⟨zn, sv, aggOne zv⟩ else gg j) := by
      show _ = _
      rw [Hff.out j y hy, hfb, hfv, hsv]
     have Hnx : Hid ((uptoL n ff gg j).set j (ff j) = uptoL n ff gg (j + 1)) := uptoL_set hlj
     have Hsame : Hid (ff j = gg j → uptoL n ff gg (j + 1) = uptoL n ff gg j) := fun e => by rw [← Hnx.out, e]; exact set_same (uptoL_get hlj)
     have H1 := Lib.hid h1
     have H2 := Lib.hid h2
     have HTb0 := Lib.hid hTb
     have x1 := fun o => (Hbx.out.alloc o).cell 1
     simp only [List.getElem?_toArray, List.getElem?_cons_succ, List.getElem?_cons_zero] at x1
     have k1 := (HC.out wr (Fr.refl _ wr)).1.2.1
     clear hcr h1 h2 h3 hTb hy' hfb hfv hsv hbm hev ea ea2 p0 hy
     go_wp2_with fail
     obtain ⟨W2, hW2⟩ : ∃ v, v = wr.alloc (.cells #[.string y.name, .int .i64 y.every, .int .i64 y.keep, .int .i64 y.shards] 157) := ⟨_, rfl⟩
     rw [← hW2]
     have HF2 : Hid (Fr (fun _ => False) wr W2) := by show Fr _ _ _; rw [hW2]; exact Fr.none_alloc _ _
     clear hW2 x1 k1
     refine (HFl.out _).mono ?_
     rintro r W3 ⟨rfl, rfl⟩
     go_wp2_with fail
     cases fb
     ·refine wp_region_held_drew (S := fun W_ => Fr (fun _ => False) wr W_) (by kernel_rfl) (HF2.out.drew) (fun hHeld => ?_)
      refine tl 0 ?v1 rfl ?q1 ?r1
      case q1 => intro W hSw; go_simp; try rfl
      refine tl 1 ?v2 rfl ?q2 ?r2
      case q2 => intro W hSw; go_simp; try rfl
      refine tl 2 ?v3 rfl ?q3 ?r3
      case q3 => intro W hSw; go_simp; try rfl
      refine tl 3 ?v4 rfl ?q4 ?r4
      case q4 => intro W hSw; (try obtain ⟨⟨q0, q1, q2, q3, q4, q5, q6, q7, q8⟩, q9, q10, q11, q12⟩ := HC.out W hSw); go_simp; try rfl
      refine tl 4 ?v5 rfl ?q5 ?r5
      case q5 => intro W hSw; go_simp; try rfl
      refine tl 5 ?v6 rfl ?q6 ?r6
      case q6 => intro W hSw; go_simp; try rfl
      refine tl 6 ?v7 rfl ?q7 ?r7
      case q7 => intro W hSw; go_simp; try rfl
      refine tl 7 ?v8 rfl ?q8 ?r8
      case q8 => intro W hSw; (try obtain ⟨⟨q0, q1, q2, q3, q4, q5, q6, q7, q8⟩, q9, q10, q11, q12⟩ := HC.out W hSw); go_simp; try rfl
      refine tl 8 ?v9 rfl ?q9 ?r9
      case q9 => intro W hSw; go_simp; try rfl
      refine tl 9 ?v10 rfl ?q10 ?r10
      case q10 => intro W hSw; go_simp; try rfl
      refine tl 10 ?v11 rfl ?q11 ?r11
      case q11 => intro W hSw; (try obtain ⟨⟨q0, q1, q2, q3, q4, q5, q6, q7, q8⟩, q9, q10, q11, q12⟩ := HC.out W hSw); go_simp; try rfl
      try simp only [Act.put, sA, sB, sC]
      refine rl 11 rfl (fun K hK => ?_)
      go_simp
      go_wp2_with (first | (go_at_call 234; refine (HFi1.out _ hHeld).mono ?_; rintro r w6 ⟨rfl, b6⟩))
      refine hK.out _ _ (hHeld.trans (Fr.b0 b6) (fun _ h => h.elim)) (fun hHeld => ?_)
      clear hK K
      refine tl 12 ?v12 rfl ?q12 ?r12
      case q12 => intro W hSw; go_simp; try rfl
      try simp only [Act.put, sA, sB, sC]
      refine tu 13 rfl ?_
      try simp only [Act.put, sA, sB, sC]
      refine tu 14 rfl ?_
      try simp only [Act.put, sA, sB, sC]
      refine tu 15 rfl ?_
      try simp only [Act.put, sA, sB, sC]
      refine tu 16 rfl ?_
      try simp only [Act.put, sA, sB, sC]
      refine tu 17 rfl ?_
      try simp only [Act.put, sA, sB, sC]
      refine tu 18 rfl ?_
      try simp only [Act.put, sA, sB, sC]
      refine tu 19 rfl ?_
      try simp only [Act.put, sA, sB, sC]
      refine tu 20 rfl ?_
      refine tl 21 ?v13 rfl ?q13 ?r13
      case q13 => intro W hSw; go_simp; try rfl
      try simp only [Act.put, sA, sB, sC]
      refine wpAnyH_done (by kernel_rfl) ?_ _
      have G7 := Lib.hid hHeld
      clear hHeld
      go_wp2_with fail
      go_roundw
      case rel =>
       refine ⟨j + 1, by omega, by go_num, ?_, Hfj.out.trans G7.out (fun _ h => h.elim)⟩
       rw [Hsame.out (by rw [Hfk.out]; rfl)]
       exact Hij.out.fr0 G7.out
      case measure => simp [intOf]; omega
     ·refine wp_region_held_drew (S := fun W_ => Fr (fun _ => False) wr W_) (by kernel_rfl) (HF2.out.drew) (fun hHeld => ?_)
      refine tl 0 ?v14 rfl ?q14 ?r14
      case q14 => intro W hSw; go_simp; try rfl
      refine tl 1 ?v15 rfl ?q15 ?r15
      case q15 => intro W hSw; go_simp; try rfl
      refine tl 2 ?v16 rfl ?q16 ?r16
      case q16 => intro W hSw; go_simp; try rfl
      refine tl 3 ?v17 rfl ?q17 ?r17
      case q17 => intro W hSw; (try obtain ⟨⟨q0, q1, q2, q3, q4, q5, q6, q7, q8⟩, q9, q10, q11, q12⟩ := HC.out W hSw); go_simp; try rfl
      refine tl 4 ?v18 rfl ?q18 ?r18
      case q18 => intro W hSw; go_simp; try rfl
      refine tl 5 ?v19 rfl ?q19 ?r19
      case q19 => intro W hSw; go_simp; try rfl
      refine tl 6 ?v20 rfl ?q20 ?r20
      case q20 => intro W hSw; go_simp; try rfl
      refine tl 7 ?v21 rfl ?q21 ?r21
      case q21 => intro W hSw; (try obtain ⟨⟨q0, q1, q2, q3, q4, q5, q6, q7, q8⟩, q9, q10, q11, q12⟩ := HC.out W hSw); go_simp; try rfl
      refine tl 8 ?v22 rfl ?q22 ?r22
      case q22 => intro W hSw; go_simp; try rfl
      refine tl 9 ?v23 rfl ?q23 ?r23
      case q23 => intro W hSw; go_simp; try rfl
      refine tl 10 ?v24 rfl ?q24 ?r24
      case q24 => intro W hSw; (try obtain ⟨⟨q0, q1, q2, q3, q4, q5, q6, q7, q8⟩, q9, q10, q11, q12⟩ := HC.out W hSw); go_simp; try rfl
      try simp only [Act.put, sA, sB, sC]
      refine rl 11 rfl (fun K hK => ?_)
      go_simp
      go_wp2_with (first | (go_at_call 234; refine (HFi1.out _ hHeld).mono ?_; rintro r w6 ⟨rfl, b6⟩))
      refine hK.out _ _ (hHeld.trans (Fr.b0 b6) (fun _ h => h.elim)) (fun hHeld => ?_)
      clear hK K
      refine tl 12 ?v25 rfl ?q25 ?r25
      case q25 => intro W hSw; go_simp; try rfl
      try simp only [Act.put, sA, sB, sC]
      refine tl 13 ?v26 rfl ?q26 ?r26
      case q26 => intro W hSw; go_simp; try rfl
      try simp only [Act.put, sA, sB, sC]
      refine tl 14 ?v27 rfl ?q27 ?r27
      case q27 => intro W hSw; go_simp; try rfl
      try simp only [Act.put, sA, sB, sC]
      refine tl 15 ?v28 rfl ?q28 ?r28
      case q28 => intro W hSw; go_simp; try rfl
      try simp only [Act.put, sA, sB, sC]
      refine tl 16 ?v29 rfl ?q29 ?r29
      case q29 => intro W hSw; go_simp; try rfl
      try simp only [Act.put, sA, sB, sC]
      refine tl 17 ?v30 rfl ?q30 ?r30
      case q30 => intro W hSw; (try obtain ⟨⟨q0, q1, q2, q3, q4, q5, q6, q7, q8⟩, q9, q10, q11, q12⟩ := HC.out W hSw); go_simp; try rfl
      try simp only [Act.put, sA, sB, sC]
      refine tl 18 ?v31 rfl ?q31 ?r31
      case q31 => intro W hSw; go_simp; try rfl
      try simp only [Act.put, sA, sB, sC]
      refine rl 19 rfl (fun K hK => ?_)
      go_simp
      go_wp2_with (first | (go_at_call 42; refine (HFr1.out _ hHeld).mono ?_; rintro r w7 ⟨rfl, b7⟩))
      refine hK.out _ _ (hHeld.trans (Fr.b0 b7) (fun _ h => h.elim)) (fun hHeld => ?_)
      clear hK K
      try simp only [Act.put, sA, sB, sC]
      refine tl 20 ?v32 rfl ?q32 ?r32
      case q32 => intro W hSw; (try obtain ⟨⟨q0, q1, q2, q3, q4, q5, q6, q7, q8⟩, q9, q10, q11, q12⟩ := HC.out W hSw); go_simp; try rfl
      refine tl 21 ?v33 rfl ?q33 ?r33
      case q33 => intro W hSw; go_simp; try rfl
      try simp only [Act.put, sA, sB, sC]
      refine wpAnyH_done (by kernel_rfl) ?_ _
      by_cases hge : fv ≤ sv
      ·have dg : decide (fv ≤ sv) = true := decide_eq_true hge
       have Hfk2 : Hid (ff j = addV y.every (gg j) ⟨zn, sv, aggOne zv⟩) := by show _ = _; rw [Hfk.out, dg]; rfl
       have G7 := Lib.hid hHeld
       have HTb := Lib.hid (HTb0.out.fr0 hHeld)
       have HC7 : Hid (∀ W_, Fr (fun i => i = b) w7 W_ → (W_.cell? ⟨s, 0, none⟩ = some (.string nm2) ∧ W_.cell? ⟨s, 1, none⟩ = some (.slice (some aA) n c) ∧ W_.cell? ⟨s, 2, none⟩ = some (.slice B n d) ∧ W_.cell? ⟨s, 4, none⟩ = some (.int .i64 S.done) ∧ W_.cell? ⟨s, 5, none⟩ = some (.slice (some ad) n ct) ∧ W_.cell? ⟨u, 0, none⟩ = some (.int .i64 Y.now) ∧ W_.cell? ⟨u, 1, none⟩ = some (.string nm2) ∧ W_.cell? ⟨u, 2, none⟩ = some (.slice tA n tc) ∧ W_.cell? ⟨u, 3, none⟩ = some (.slice tB mf td)) ∧ W_.cell? ⟨zb, 0, none⟩ = some (.string zn) ∧ W_.cell? ⟨zb, 1, none⟩ = some (.int .i64 zt) ∧ W_.cell? ⟨zb, 2, none⟩ = some (.int .i64 zv) ∧ W_.cell? (ad.add j) = some (.pointer (some ⟨g, 0, none⟩))) := fun W_ f => HCb.out W_ ((G7.out.mono (fun _ h => h.elim)).trans f (fun _ h => .inl h))
       clear hHeld
       have hagw := aggOne_wf Hzv.out
       have HOf : Hid (∀ W A c, Rd W 1 A 1 [.int .i64 zv] → Calls Tryz.prog 232 #[.slice A 1 c] W fun r w' => r = .returned (aggOne zv).val ∧ Below W.heap.size W w') := fun W A c hrd => ofone_any zv Hzv.out A c W hrd
       obtain ⟨ag, hag⟩ : ∃ ag, aggOne zv = ag := ⟨_, rfl⟩
       rw [hag] at hagw HOf Hfk2
       have HAd : Hid (∀ W A c, TabAt W g y.every b (gg j) → Rd W 7 A 1 [.string zn, .int .i64 sv, .int .i64 ag.count, .int .i64 ag.hi, .int .u64 ag.lo, .int .i64 ag.min, .int .i64 ag.max] → Calls Tryz.prog 231 #[.pointer (some ⟨g, 0, none⟩), .slice A 1 c] W fun r' w' => (∃ v, r' = .returned (.int .i64 v)) ∧ TabAt w' g y.every b (addV y.every (gg j) ⟨zn, sv, ag⟩) ∧ Fr (fun i => i = b) W w') := fun W A c ht hrd => by
        refine (add_any g y.every b (gg j) [⟨zn, sv, ag⟩] A 1 c W ht hrd (fun a ha => by rw [List.mem_singleton] at ha; rw [ha]; exact ⟨hsvi, hagw, hzs⟩) (by have := Hgl.out j; omega)).mono ?_
        rintro r' w' ⟨rfl, h1, h2⟩
        exact ⟨⟨_, rfl⟩, h1, h2⟩
       unfold AggV.val at HOf
       clear hagw hag
       go_wp2_with fail
       refine wp_region_held_drew (S := fun W_ => Fr (fun i => i = b) w7 W_) (by kernel_rfl) ((Fr.refl _ w7).drew) (fun hHeld => ?_)
       refine tl 0 ?v34 rfl ?q34 ?r34
       case q34 => intro W hSw; go_simp; try rfl
       refine tl 1 ?v35 rfl ?q35 ?r35
       case q35 => intro W hSw; go_simp; try rfl
       refine tl 2 ?v36 rfl ?q36 ?r36
       case q36 => intro W hSw; go_simp; try rfl
       refine tl 3 ?v37 rfl ?q37 ?r37
       case q37 => intro W hSw; (try obtain ⟨⟨q0, q1, q2, q3, q4, q5, q6, q7, q8⟩, q9, q10, q11, q12⟩ := HC7.out W hSw); go_simp; try rfl
       refine tl 4 ?v38 rfl ?q38 ?r38
       case q38 => intro W hSw; go_simp; try rfl
       refine tl 5 ?v39 rfl ?q39 ?r39
       case q39 => intro W hSw; (try obtain ⟨⟨q0, q1, q2, q3, q4, q5, q6, q7, q8⟩, q9, q10, q11, q12⟩ := HC7.out W hSw); go_simp; try rfl
       refine tl 6 ?v40 rfl ?q40 ?r40
       case q40 => intro W hSw; (try obtain ⟨⟨q0, q1, q2, q3, q4, q5, q6, q7, q8⟩, q9, q10, q11, q12⟩ := HC7.out W hSw); go_simp; try rfl
       refine tl 7 ?v41 rfl ?q41 ?r41
       case q41 => intro W hSw; go_simp; try rfl
       refine tl 8 ?v42 rfl ?q42 ?r42
       case q42 => intro W hSw; (try obtain ⟨⟨q0, q1, q2, q3, q4, q5, q6, q7, q8⟩, q9, q10, q11, q12⟩ := HC7.out W hSw); go_simp; try rfl
       refine tl 9 ?v43 rfl ?q43 ?r43
       case q43 => intro W hSw; go_simp; try rfl
       refine tl 10 ?v44 rfl ?q44 ?r44
       case q44 => intro W hSw; go_simp; try rfl
       refine tl 11 ?v45 rfl ?q45 ?r45
       case q45 => intro W hSw; (try obtain ⟨⟨q0, q1, q2, q3, q4, q5, q6, q7, q8⟩, q9, q10, q11, q12⟩ := HC7.out W hSw); go_simp; try rfl
       try simp only [Act.put, sA, sB, sC]
       refine rl 12 rfl (fun K hK => ?_)
       go_simp
       refine hK.out _ _ (((Fr.none_alloc w7 _).mono (fun _ h => h.elim)).drew) (fun hHeld => ?_)
       clear hK K
       try simp only [Act.put, sA, sB, sC]
       refine rl 13 rfl (fun K hK => ?_)
       go_simp
       go_wp2_with (first | (go_at_call 232; refine (HOf.out _ _ _ (Rd.newS (w := w7) (k := w7.heap.size) rfl _ _ 1 1 rfl).drew).mono ?_; rintro r w8 ⟨rfl, b8⟩))
       refine hK.out _ _ (hHeld.trans (Fr.b0 b8) (fun _ h => h.elim)) (fun hHeld => ?_)
       clear hK K
       refine tl 14 ?v46 rfl ?q46 ?r46
       case q46 => intro W hSw; (try obtain ⟨⟨q0, q1, q2, q3, q4, q5, q6, q7, q8⟩, q9, q10, q11, q12⟩ := HC7.out W hSw); go_simp; try rfl
       try simp only [Act.put, sA, sB, sC]
       refine rl 15 rfl (fun K hK => ?_)
       go_simp
       refine hK.out _ _ (hHeld.trans (Fr.none_alloc _ _) (fun _ h => h.elim)) (fun hHeld => ?_)
       clear hK K
       try simp only [Act.put, sA, sB, sC]
       refine rl 16 rfl (fun K hK => ?_)
       go_simp
       go_wp2_with (first | (go_at_call 231; refine (HAd.out _ _ _ ((((HTb.out.fr0 (Fr.refl _ w7).drew).fr0 (Fr.none_alloc _ _)).fr0 (Fr.b0 b8)).fr0 (Fr.none_alloc _ _)) (Rd.newS (w := w8) (k := w8.heap.size) rfl _ _ 1 7 rfl)).mono ?_; rintro r w9 ⟨⟨v9, rfl⟩, t9, f9⟩))
       refine hK.out _ _ (hHeld.trans f9 (fun i hi => .inl hi)) (fun hHeld => ?_)
       clear hK K
       try simp only [Act.put, sA, sB, sC]
       refine wpAnyH_done (by kernel_rfl) ?_ _
       have G9 := Lib.hid hHeld
       have T9 := Lib.hid t9
       clear hHeld t9 f9 b8
       go_wp2_with fail
       go_roundw
       case rel =>
        have h := Hij.out.set (k := j) H1.out H2.out T9.out ((G7.out.mono (fun _ h => h.elim)).trans G9.out (fun _ h => .inl h))
        simp only at h
        rw [← Hfk2.out, Hnx.out] at h
        exact ⟨j + 1, by omega, by go_num, h, (Hfj.out.trans G7.out (fun _ h => h.elim)).trans G9.out (fun i hi => .inl ⟨_, List.mem_of_getElem? H1.out, hi⟩)⟩
       case measure => simp [intOf]; omega
      ·have dg : decide (fv ≤ sv) = false := decide_eq_false hge
       have G7 := Lib.hid hHeld
       clear hHeld
       go_wp2_with fail
       go_roundw
       case rel =>
        refine ⟨j + 1, by omega, by go_num, ?_, Hfj.out.trans G7.out (fun _ h => h.elim)⟩
        rw [Hsame.out (by rw [Hfk.out, dg]; rfl)]
        exact Hij.out.fr0 G7.out
       case measure => simp [intOf]; omega
    ·obtain rfl : j = n := by omega
     have gj : decide ((j : Int) < (j : Int)) = false := decide_eq_false (by omega)
     rw [HeN.out] at Hij
     go_wp2_with fail
     go_roundw
     case rel => exact ⟨q + 1, by omega, by go_num, Hij.out, HF1.out.trans Hfj.out (fun _ h => .inl h)⟩
     case measure => simp [intOf]; omega
  ·obtain rfl : q = n1 := by omega
   have g0 : decide ((q : Int) < (q : Int)) = false := decide_eq_false (by omega)
   have hall : ls.take q = ls := take_all (by rw [Hlen.out]; exact Nat.le_refl _)
   rw [hall] at Hiq
   have FE : Hid (Fr (tF s tb) W wr) := (F1.out.mono (fun _ h => h.elim)).trans Hfq.out (fun i hi => .inl (.inr hi))
   clear hall
   go_wp2_with fail
   go_end0
   exact ⟨rfl, ⟨_, _, _, _, _, _, _, Hiq.out, rfl⟩, FE.out⟩
end Go.Proofs.YtaakghjbbkgbdaaGreatDoor
