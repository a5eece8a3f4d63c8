/- A shadow that is as it should be stays so: Note; what its tables hold; a shadow taken up again. -/
import Derived.Test.YtfhhepfkjndkgaaGreatShNote
import Derived.Test.YtfhhepfkjndkgaaGreatShChk
import Derived.Test.YtfhhepfkjndkgaaGreatTioA
import Derived.Test.YtfhhepfkjndkgaaGreatRollLaw
import Derived.Test.YtfhhepfkjndkgaaGreatShA
import Derived.Test.YtfhhepfkjndkgaaGreatTioR
import Derived.Test.YtfhhepfkjndkgaaGreatRTAdd
import Derived.Test.YtfhhepfkjndkgaaGreatGoodX
namespace Go.Proofs.YtfhhepfkjndkgaaGreat
set_option linter.all false
open Go.RowKit

section
variable {nm nm2 : ByteArray} {l lt : List TierV} {fl : List Int} {o : Int} {lo : Nat} {W : World} {t s base : Nat} {X : TiersX} {S : ShX} {Ft F : Nat → Prop} {cc : Nat}
theorem ShOk.tab (h : ShOk nm2 l lt fl o X S) (p : PolOk nm l) (p2 : PolOk nm2 lt) (hg : GoodX nm l fl X cc) (hfl : ∀ f ∈ fl, 0 ≤ f ∧ f ≤ 2199023255552) {j : Nat} {y : TierV} (hy : lt[j]? = some y) :
  Sorted (S.tabs.getD j []) ∧ ∀ r ∈ S.tabs.getD j [], rightR y.every r = true := by
 have hj := (List.getElem?_eq_some_iff.1 hy).1
 obtain ⟨h1, h2⟩ := build_right (o := o) p p2 hg hfl hy
 rw [h.tabs, shT_getD hj]
 unfold shL
 refine ⟨?_, fun r hr => (h2 r (List.mem_filter.1 hr).1).1⟩
 exact List.Pairwise.sublist List.filter_sublist h1.1
end
end Go.Proofs.YtfhhepfkjndkgaaGreat
namespace Go.Proofs.YtfhhepfkjndkgaaGreat
set_option linter.all false
open Go.RowKit

def dropN (ff gg : Nat → List RecV) : Nat → Int
 | 0 => 0
 | k + 1 => dropN ff gg k + (((gg k).length : Int) - ((ff k).length : Nat))
theorem dropN_in {ff gg : Nat → List RecV} (h : ∀ k, (ff k).length ≤ (gg k).length ∧ (gg k).length ≤ 1000000) : ∀ j, 0 ≤ dropN ff gg j ∧ dropN ff gg j ≤ j * 1000000
 | 0 => by simp [dropN]
 | k + 1 => by
  have h1 := dropN_in h k
  have h2 := h k
  unfold dropN
  push_cast
  omega
def trimX (Y : TiersX) (S : ShX) : ShX := { S with tabs := (List.range Y.tiers.length).map fun j => keepT (startBelow (fromV Y.now Y.tiers Y.floors j)) (S.tabs.getD j []) }
def trimN (Y : TiersX) (S : ShX) : Int := dropN (fun j => keepT (startBelow (fromV Y.now Y.tiers Y.floors j)) (S.tabs.getD j [])) (fun j => S.tabs.getD j []) Y.tiers.length
set_option maxRecDepth 100000 in
set_option maxHeartbeats 8000000 in
theorem strim_any {nm nm2 : ByteArray} {l lt : List TierV} {fl : List Int} {o : Int} {lo : Nat} {W : World} {t s base : Nat} {X : TiersX} {S : ShX} {Ft F : Nat → Prop} {cc : Nat} (p : PolOk nm l) (p2 : PolOk nm2 lt) (hnm2 : nm2.size ≤ maxLen) (h : Tio nm l fl lo W t X Ft cc) (hc : cc ≤ 1000000) (hfl : ∀ f ∈ fl, 0 ≤ f ∧ f ≤ 2199023255552) (hs : ShOn W s base S F) (h1 : S.name = nm2) (h2 : S.tiers = lt) (h3 : S.srcs = srcs o l fl lt) (hl : ∀ m ∈ S.tabs, m.length ≤ 1000000) :
  Calls Tryz.prog 28 #[.pointer (some ⟨s, 0, none⟩), .pointer (some ⟨t, 0, none⟩)] W fun r w' => r = .returned (.int .i64 (trimN (buildX X nm2 lt (srcs o l fl lt)) S)) ∧ ShOn w' s base (trimX (buildX X nm2 lt (srcs o l fl lt)) S) F ∧ Fr F W w' := by
 obtain ⟨A, c, B, d, T, ct, tb, hi, rfl⟩ := hs
 obtain ⟨n, hn0⟩ : ∃ n, lt.length = n := ⟨_, rfl⟩
 have hSn : S.tiers.length = n := by rw [h2, hn0]
 have hSm : S.srcs.length = n := by rw [h3]; unfold srcs; rw [List.length_map, hn0]
 have hfive := p2.five
 have hn5 : n ≤ 5 := by omega
 have hn1 : 0 < n := by have := p2.pos; omega
 have HI := Lib.hid hi
 have htc : n ≤ c := by have := (own_any hi.tiers).1; omega
 obtain ⟨ad, hadT, hcr⟩ := (own_any hi.row).2.2.1.2 (show 0 < S.tiers.length by omega)
 subst hadT
 have Hcr := Lib.hid hcr
 have hrdA := (own_any hi.tiers).2.2.1
 rw [hSn, h2] at hrdA
 obtain ⟨aA, haA, _⟩ := hrdA.2 hn1
 subst haA
 have HrdA := Lib.hid hrdA
 have HBu : Hid (Calls Tryz.prog 15 #[.agg #[.string nm2, .slice (some aA) n c, .slice B n d], .pointer (some ⟨t, 0, none⟩)] W fun r w' => (∃ t' F', r = .returned (.tuple #[.pointer (some ⟨t', 0, none⟩), .int .i64 0]) ∧ Tio nm2 lt (basesV X.now l fl (srcs o l fl lt) lt) W.heap.size w' t' (buildX X nm2 lt (srcs o l fl lt)) F' cc ∧ ∀ j, F' j → W.heap.size ≤ j) ∧ Below W.heap.size W w') := by
  have q2 := (own_any HI.out.srcs).2.2.1
  rw [hSm, h3] at q2
  exact tio_build p p2 hnm2 h hc hfl (some aA) n c B d HrdA.out htc q2 W.heap.size (Nat.le_refl _)
 obtain ⟨bs, hbs⟩ : ∃ v, basesV X.now l fl (srcs o l fl lt) lt = v := ⟨_, rfl⟩
 obtain ⟨Y, hY⟩ : ∃ v, buildX X nm2 lt (srcs o l fl lt) = v := ⟨_, rfl⟩
 have HYt : Hid (Y.tiers = lt) := by show _ = _; rw [← hY]; rfl
 rw [hbs, hY] at HBu
 rw [hY]
 have Hn0 := Lib.hid hn0
 have HSn := Lib.hid hSn
 have Ht := Lib.hid h2
 have Hl := Lib.hid hl
 have HCs : Hid (∀ {W' : World} {G : Nat → Prop}, Fr G W W' → ¬ G s → W'.cell? ⟨s, 0, none⟩ = some (.string nm2) ∧ W'.cell? ⟨s, 1, none⟩ = some (.slice (some aA) n c) ∧ W'.cell? ⟨s, 2, none⟩ = some (.slice B n d) ∧ W'.cell? ⟨s, 4, none⟩ = some (.int .i64 S.done) ∧ W'.cell? ⟨s, 5, none⟩ = some (.slice (some ad) n ct)) := fun f hg => by
  obtain ⟨c0, c1, c2, _, c4, c5⟩ := HI.out.cells f hg
  rw [h1] at c0
  rw [hSn] at c1 c5
  rw [hSm] at c2
  exact ⟨c0, c1, c2, c4, c5⟩
 have HMp : Hid (∀ j, tM tb j → ∃ es ck, W.heap[j]? = some (.map es ck)) := fun j hj => (HI.out.map_ hj).2.2
 have HMl : Hid (∀ j, tM tb j → j < W.heap.size) := fun j hj => (HI.out.map_ hj).2.1
 have HTl : Hid (S.tabs.length = n) := by show _ = _; rw [HI.out.tlen, HSn.out]
 obtain ⟨c0, c1, c2, c4, c5⟩ := HCs.out (Fr.refl (fun _ => False) W) (fun h => h)
 clear hi hn0 hSm hbs hY h1 h2 h3 h hl hSn hcr hrdA
 go_enter Tryz.func28, Tryz.ntmps28
 go_wp2_with fail
 refine HBu.out.mono ?_
 rintro r w1 ⟨⟨u, Fu, rfl, T1, hFu⟩, b1⟩
 have F1 : Hid (Fr (fun _ => False) W w1) := Fr.b0 b1
 have HT1 := Lib.hid T1
 have HFu := Lib.hid hFu
 obtain ⟨tA, tc, tB, td, hR⟩ := T1.reach
 have HR := Lib.hid hR
 obtain ⟨mf, hmf⟩ : ∃ m, bs.length = m := ⟨_, rfl⟩
 have hY0 := T1.good.now
 -- frames of the maps alone
 have HFm : Hid (∀ W', Fr (tM tb) w1 W' → Fr (fun j => tM tb j ∧ ∃ es ck, w1.heap[j]? = some (.map es ck)) w1 W') := fun W' f => f.mono (fun j hj => .inl ⟨hj, by obtain ⟨es, ck, h⟩ := HMp.out j hj; exact ⟨es, ck, by rw [F1.out.block j (HMl.out j hj) (fun h => h)]; exact h⟩⟩)
 have HCw : Hid (∀ W_, Fr (tM tb) w1 W_ → W_.cell? ⟨s, 0, none⟩ = some (.string nm2) ∧ W_.cell? ⟨s, 1, none⟩ = some (.slice (some aA) n c) ∧ W_.cell? ⟨s, 2, none⟩ = some (.slice B n d) ∧ W_.cell? ⟨s, 4, none⟩ = some (.int .i64 S.done) ∧ W_.cell? ⟨s, 5, none⟩ = some (.slice (some ad) n ct) ∧ W_.cell? ⟨u, 0, none⟩ = some (.int .i64 Y.now) ∧ W_.cell? ⟨u, 1, none⟩ = some (.string nm2) ∧ W_.cell? ⟨u, 2, none⟩ = some (.slice tA n tc) ∧ W_.cell? ⟨u, 3, none⟩ = some (.slice tB mf td)) := fun W_ f => by
  obtain ⟨k0, k1, k2, k3, k4⟩ := HCs.out F1.out (fun h => h)
  have r2 := HR.out.c2
  have r3 := HR.out.c3
  rw [Hn0.out] at r2
  rw [hmf] at r3
  have g := HFm.out W_ f
  exact ⟨mapcell g k0, mapcell g k1, mapcell g k2, mapcell g k3, mapcell g k4, mapcell g HR.out.c0, mapcell g HR.out.c1, mapcell g r2, mapcell g r3⟩
 have HRdm : Hid (∀ W_, Fr (tM tb) w1 W_ → Rd W_ 4 (some aA) n (tcells lt)) := fun W_ f => (HrdA.out.fr0 F1.out).mapfr (by decide) (HFm.out W_ f)
 have HFr : Hid (∀ W_ (j : Nat), Fr (tM tb) w1 W_ → j < n → Calls Tryz.prog 16 #[.agg #[.int .i64 Y.now, .string nm2, .slice tA n tc, .slice tB mf td], .int .i64 (j : Nat)] W_ fun r w' => r = .returned (.int .i64 (fromV Y.now lt bs j)) ∧ Below W_.heap.size W_ w') := fun W_ j f hj => by
  have g := HFm.out W_ f
  have hR' : ReachIn W_ u Y.now nm2 lt bs tA tc tB td := ⟨mapcell g HR.out.c0, mapcell g HR.out.c1, mapcell g HR.out.c2, mapcell g HR.out.c3, HR.out.rt.mapfr (by decide) g, HR.out.rf.mapfr (by decide) g, HR.out.le⟩
  have := reach_from p2 hR' hY0 j (by rw [Hn0.out]; exact hj)
  rw [Hn0.out, hmf] at this
  exact this
 have hYf : Y.floors = bs := T1.good.floors
 obtain ⟨gg, hgg⟩ : ∃ f : Nat → List RecV, (fun j => S.tabs.getD j []) = f := ⟨_, rfl⟩
 obtain ⟨ff, hff⟩ : ∃ f : Nat → List RecV, (fun j => keepT (startBelow (fromV Y.now lt bs j)) (gg j)) = f := ⟨_, rfl⟩
 have Hff : Hid (∀ j, ff j = keepT (startBelow (fromV Y.now lt bs j)) (gg j)) := fun j => by rw [← hff]
 have Hgl : Hid (∀ j, (gg j).length ≤ 1000000) := fun j => by
  rw [← hgg]
  exact getD_len Hl.out j
 have Hfl : Hid (∀ j, (ff j).length ≤ (gg j).length) := fun j => by
  rw [Hff.out j]
  unfold keepT
  exact List.length_filter_le _ _
 have HI1 : Hid (ShIn w1 s base { S with tabs := uptoL n ff gg 0 } (some aA) c B d (some ad) ct tb) := by
  have e : uptoL n ff gg 0 = S.tabs := by rw [uptoL_zero, ← hgg]; exact getD_all HTl.out
  rw [e]
  exact HI.out.fr0 F1.out
 have HTX : Hid ({ S with tabs := uptoL n ff gg n } = trimX Y S) := by
  show _ = _
  unfold trimX
  rw [uptoL_all, ← hff, ← hgg, HYt.out, hYf, Hn0.out]
 have HC0 : Hid (dropN ff gg n = trimN Y S) := by
  show _ = _
  unfold trimN
  rw [← hff, ← hgg, HYt.out, hYf, Hn0.out]
 have HDb : Hid (∀ j, 0 ≤ dropN ff gg j ∧ dropN ff gg j ≤ j * 1000000) := fun j => dropN_in (fun k => ⟨Hfl.out k, Hgl.out k⟩) j
 clear T1 b1 HBu c0 c1 c2 c4 c5 hR hFu hmf hYf hgg hff
 have k5 := (HCw.out w1 (Fr.refl _ _)).2.2.2.2.1
 go_wp2_with fail
 clear k5
 go_loopw [7, 28] (fun v i wr => ∃ j : Nat, j ≤ n ∧ i = .int .i64 j ∧ v = .int .i64 (dropN ff gg j) ∧ ShIn wr s base { S with tabs := uptoL n ff gg j } (some aA) c B d (some ad) ct tb ∧ Fr (tM tb) w1 wr) (fun _ i _ => n - (intOf i).toNat)
 case atStart => exact ⟨0, Nat.zero_le _, rfl, rfl, HI1.out, Fr.refl _ _⟩
 case round =>
  obtain ⟨j, hj, rfl, rfl, hij, hfj⟩ := hrel
  have Hij := Lib.hid hij
  have Hfw := Lib.hid hfj
  clear hij hfj
  obtain ⟨dv, hdv⟩ : ∃ v, dropN ff gg j = v := ⟨_, rfl⟩
  rw [hdv]
  by_cases hlj : j < n
  ·obtain ⟨g, b, y, m, h1, h2, h3, hTb⟩ := Hij.out.tabAt (k := j) (by show _ < S.tiers.length; rw [HSn.out]; exact hlj)
   have hy : lt[j]? = some y := by rw [← Ht.out]; exact h2
   have hmg : m = gg j := by
    have h4 : (uptoL n ff gg j)[j]? = some m := h3
    rw [uptoL_get hlj] at h4
    exact (Option.some.inj h4).symm
   subst hmg
   obtain ⟨ad', ea, hcr⟩ := (own_any Hij.out.row).2.2.1.2 (show 0 < S.tiers.length by rw [HSn.out]; omega)
   obtain rfl : ad = ad' := Option.some.inj ea
   have p0 := hcr j _ (ptrs_get h1)
   try simp only at p0
   have kj : 0 ≤ (j : Int) ∧ (j : Int) < (n : Int) := by omega
   have gj : decide ((j : Int) < (n : Int)) = true := decide_eq_true (by omega)
   have hjw : IntKind.i64.wrap ((j : Int) + 1) = (j : Int) + 1 := by simp [IntKind.wrap, IntKind.signed, IntKind.bits]; omega
   have HTb := Lib.hid hTb
   obtain ⟨fv, hfv⟩ : ∃ v, fromV Y.now lt bs j = v := ⟨_, rfl⟩
   have HFr1 : Hid (∀ W_, Fr (fun _ => False) wr W_ → Calls Tryz.prog 16 #[.agg #[.int .i64 Y.now, .string nm2, .slice tA n tc, .slice tB mf td], .int .i64 (j : Nat)] W_ fun r w' => r = .returned (.int .i64 fv) ∧ Below W_.heap.size W_ w') := fun W_ f => by
    rw [← hfv]
    exact HFr.out W_ j (Hfw.out.trans f (fun _ h => h.elim)) hlj
   have hfj : ff j = keepT (startBelow fv) (gg j) := by rw [Hff.out j, hfv]
   have hgl := Hgl.out j
   have hfl := Hfl.out j
   obtain ⟨lv, hlv⟩ : ∃ v, ((gg j).length : Int) - ((ff j).length : Nat) = v := ⟨_, rfl⟩
   have HDp : Hid (∀ W_, Fr (fun _ => False) wr W_ → Calls Tryz.prog 82 #[.pointer (some ⟨g, 0, none⟩), .int .i64 fv] W_ fun r w' => r = .returned (.int .i64 lv) ∧ TabAt w' g y.every b (ff j) ∧ Fr (fun i => i = b) W_ w') := fun W_ f => by
    have := tabdrop_any g y.every b (gg j) fv W_ (HTb.out.fr0 f) (by omega)
    rw [← hfj, hlv] at this
    exact this
   have hds : dropN ff gg (j + 1) = dv + lv := by show dropN ff gg j + _ = _; rw [hdv, hlv]
   have hdb := HDb.out j
   rw [hdv] at hdb
   have hw := wrap_id (x := dv + lv) (by omega)
   have Hds := Lib.hid hds
   have Hup : Hid (∀ W_, Fr (fun i => i = b) wr W_ → Fr (tM tb) w1 W_) := fun W_ f => Hfw.out.trans f (fun i hi => .inl ⟨_, List.mem_of_getElem? h1, hi⟩)
   have Hnx : Hid ((uptoL n ff gg j).set j (ff j) = uptoL n ff gg (j + 1)) := uptoL_set hlj
   have H1 := Lib.hid h1
   have H2 := Lib.hid h2
   obtain ⟨q0,q1,q2,q3,q4,q5,q6,q7,q8⟩ := HCw.out wr Hfw.out
   clear hcr h1 h2 h3 hTb hfv hlv hds hfj ea hdb hgl hfl hdv
   go_wp2_with fail
   refine (HFr1.out _ (Fr.refl _ _)).mono ?_
   rintro r w5 ⟨rfl, b5⟩
   have F5 : Hid (Fr (fun _ => False) wr w5) := Fr.b0 b5
   clear b5
   go_wp2_with fail
   refine (HDp.out _ F5.out).mono ?_
   rintro r w6 ⟨rfl, t6, f6⟩
   have T6 := Lib.hid t6
   have F6 : Hid (Fr (fun i => i = b) wr w6) := (F5.out.mono (fun _ h => h.elim)).trans f6 (fun i hi => .inl hi)
   clear t6 f6 q0 q1 q2 q3 q4 q5 q6 q7 q8 p0
   go_wp2_with fail
   go_roundw
   case rel =>
    refine ⟨j + 1, by omega, by go_num, by rw [Hds.out], ?_, Hup.out _ F6.out⟩
    rw [← Hnx.out]
    exact Hij.out.set H1.out H2.out T6.out F6.out
   case measure => simp [intOf]; omega
  ·obtain rfl : j = n := by omega
   have g0 : decide ((j : Int) < (j : Int)) = false := decide_eq_false (by omega)
   have FE : Hid (Fr (tF s tb) W wr) := (F1.out.mono (fun _ h => h.elim)).trans Hfw.out (fun i hi => .inl (.inr hi))
   have hdn : dv = trimN Y S := by rw [← hdv]; exact HC0.out
   clear hdv
   rw [HTX.out] at Hij
   have Hdn := Lib.hid hdn
   clear hdn
   go_wp2_with fail
   go_ret
   exact ⟨by rw [← Hdn.out]; rfl, ⟨_, _, _, _, _, _, _, Hij.out, rfl⟩, FE.out⟩
end Go.Proofs.YtfhhepfkjndkgaaGreat
namespace Go.Proofs.YtfhhepfkjndkgaaGreat
set_option linter.all false
open Go.RowKit

def sneedsX (X : ShX) : List Nat := List.zipWith (fun x l => needV (max x.shards 1) l) X.tiers X.tabs
def sneedX (X : ShX) : Nat := (sneedsX X).sum
set_option maxRecDepth 100000 in
set_option maxHeartbeats 4000000 in
theorem sneed_any (t base : Nat) (X : ShX) (w : World) (h : ShAt w t base X) (hn : X.tiers.length ≤ 1000) (hl : ∀ l ∈ X.tabs, l.length ≤ 1000000) (hsh : ∀ x ∈ X.tiers, x.shards ≤ 8) :
  Calls Tryz.prog 29 #[.pointer (some ⟨t, 0, none⟩)] w fun r w' => r = .returned (.int .i64 (sneedX X : Nat)) ∧ Below w.heap.size w w' := by
 obtain ⟨A, c, B, d, T, ct, tb, hi⟩ := h
 have c1 := hi.blk.cell 1
 have c5 := hi.blk.cell 5
 simp only [List.getElem?_toArray, List.getElem?_cons_succ, List.getElem?_cons_zero] at c1 c5
 have Hi := Lib.hid hi
 have Hrow := Lib.hid (own_any hi.row).2.2.1
 have Hti := Lib.hid (own_any hi.tiers).2.2.1
 have Hle := Lib.hid (fun k => sum_take_le (L := sneedsX X) (c := 9000000) (fun x hx => by
  unfold sneedsX at hx
  obtain ⟨i, hi1, rfl⟩ := List.mem_iff_getElem.1 hx
  have hi2 : i < X.tiers.length ∧ i < X.tabs.length := by rw [List.length_zipWith] at hi1; omega
  rw [List.getElem_zipWith]
  have h0' := hsh _ (List.getElem_mem hi2.1)
  have h1 := needV_le (max (X.tiers[i]'hi2.1).shards 1) (by omega) (X.tabs[i]'hi2.2)
  have h2 := hl _ (List.getElem_mem hi2.2)
  omega) k)
 have Htl := Lib.hid hi.tlen
 have Hl := Lib.hid hl
 have Hsh := Lib.hid hsh
 clear hi hl hsh
 go_enter Tryz.func29, Tryz.ntmps29
 go_wp2_with fail
 clear c1 c5
 go_loopw [3, 13] (fun s i wr => ∃ k : Nat, k ≤ X.tiers.length ∧ i = .int .i64 k ∧ s = .int .i64 (((sneedsX X).take k).sum : Nat) ∧ Fr (fun _ => False) w wr) (fun _ i _ => X.tiers.length - (intOf i).toNat)
 case atStart => exact ⟨0, Nat.zero_le _, rfl, rfl, Fr.refl _ _⟩
 case round =>
  obtain ⟨k, hk, rfl, rfl, hf⟩ := hrel
  have c1 := (Hi.out.blk.fr hf (fun h => h)).cell 1
  simp only [List.getElem?_toArray, List.getElem?_cons_succ, List.getElem?_cons_zero] at c1
  by_cases hlt : k < X.tiers.length
  ·obtain ⟨g, b, x, l, h1, h2, h3, hT⟩ := (Hi.out.fr0 hf).tabAt hlt
   obtain ⟨ad, e, hc⟩ := (Hrow.out.fr0 hf).2 (by omega)
   subst e
   have p0 := hc k _ (ptrs_get h1)
   obtain ⟨td, y, e, hy, e0, e1, e2, e3⟩ := (Hti.out.fr0 hf).tier hlt
   subst e
   rw [h2] at hy
   cases hy
   have hxs := Hsh.out x (mem_of_get h2)
   have hll := Hl.out l (mem_of_get h3)
   have HL := Lib.hid (tabneed_any g x.every b l x.shards hxs wr hT (by omega))
   have hs := sum_take_snoc (L := sneedsX X) (k := k) (x := needV (max x.shards 1) l) (by unfold sneedsX; rw [List.getElem?_zipWith, h2, h3])
   have hs2 := Hle.out (k + 1)
   rw [hs] at hs2
   obtain ⟨sv, hsv⟩ : ∃ sv, ((sneedsX X).take k).sum = sv := ⟨_, rfl⟩
   obtain ⟨nv, hnv⟩ : ∃ nv, needV (max x.shards 1) l = nv := ⟨_, rfl⟩
   rw [hsv, hnv] at hs hs2
   rw [hnv] at HL
   rw [hsv]
   have Hs := Lib.hid hs
   have hw := wrap_id (x := (sv : Int) + (nv : Int)) (by omega)
   have kn : 0 ≤ (k : Int) ∧ (k : Int) < (X.tiers.length : Int) := by omega
   have Hf := Lib.hid hf
   clear hc hT h1 h2 h3 hs hsv hnv hf e0 e1 e2
   go_wp2_with fail
   refine HL.out.mono ?_
   rintro r w' ⟨rfl, b5⟩
   have F5 := Lib.hid (Hf.out.trans (Fr.b0 b5) (fun _ h => h.elim))
   clear b5 c1 e3 p0
   go_wp2_with fail
   go_roundw
   case rel => exact ⟨k + 1, by omega, by go_num, by rw [Hs.out]; push_cast; rfl, F5.out⟩
   case measure => simp [intOf]; omega
  ·have hkl : k = X.tiers.length := by omega
   have hfin : ((sneedsX X).take k).sum = sneedX X := by
    unfold sneedX
    rw [List.take_of_length_le (by unfold sneedsX; rw [List.length_zipWith]; omega)]
   rw [hfin]
   have Hf := Lib.hid hf
   clear hfin hf
   go_wp2_with fail
   go_ret
   exact ⟨rfl, Hf.out.below (fun _ h => h.elim)⟩
end Go.Proofs.YtfhhepfkjndkgaaGreat
namespace Go.Proofs.YtfhhepfkjndkgaaGreat
set_option linter.all false
open Go.RowKit

section
variable {nm nm2 : ByteArray} {l lt : List TierV} {fl : List Int} {o : Int} {X : TiersX} {S : ShX} {c : Nat}
theorem noteT_eq {Y Z : TiersX} {done : Int} (h1 : Y.now = Z.now) (h2 : Y.tiers = Z.tiers) (h3 : Y.floors = Z.floors) : noteT Y done = noteT Z done := by
 funext tabs s
 unfold noteT noteL
 rw [h1, h2, h3]
theorem takes_pos {now : Int} {l : List TierV} {fl : List Int} {z : SampV} (h : takesV now l fl z = 0) : 0 ≤ z.time := by
 unfold takesV at h
 split at h
 ·rename_i h2; exact h2.2
 ·cases h
theorem putE_one {z : SampV} (h : takesV X.now X.tiers X.floors z = 0) : putE X [z] = 0 := by
 show firstE X [z] = 0
 exact firstE_zero (fun s hs => by rw [List.mem_singleton] at hs; rw [hs]; exact h)
theorem shT_notes (p : checkB nm l = true) (hfl : ∀ f ∈ fl, 0 ≤ f ∧ f ≤ 2199023255552) (p2 : checkB nm2 lt = true) (done : Int) : ∀ (s : List SampV) (X : TiersX) (c : Nat), GoodX nm l fl X c → (∀ a ∈ s, takesV X.now X.tiers X.floors a = 0) →
  notesT (buildX { X with tabs := putsT X X.tabs s } nm2 lt (srcs o l fl lt)) done (shT lt done (buildX X nm2 lt (srcs o l fl lt)).tabs) s = shT lt done (buildX { X with tabs := putsT X X.tabs s } nm2 lt (srcs o l fl lt)).tabs
 | [], X, c, _, _ => rfl
 | a :: s, X, c, hg, h => by
  have ha := h a (by simp)
  have hE := putE_one ha
  have hX : putX X [a] = { X with tabs := addT X X.tabs a } := by unfold putX; rw [if_pos hE]; rfl
  have hg2 := hg.put [a]
  have ih := shT_notes p hfl p2 done s (putX X [a]) (c + 8) hg2 (fun b hb => by rw [hX]; exact h b (List.mem_cons_of_mem _ hb))
  have e2 := shT_note (o := o) (done := done) p hg hfl p2 hE (takes_pos ha)
  have e3 : ({ putX X [a] with tabs := putsT (putX X [a]) (putX X [a]).tabs s } : TiersX) = { X with tabs := putsT X X.tabs (a :: s) } := by rw [hX]; rfl
  rw [e3] at ih
  have e4 : noteT (buildX { X with tabs := putsT X X.tabs (a :: s) } nm2 lt (srcs o l fl lt)) done = noteT (buildX (putX X [a]) nm2 lt (srcs o l fl lt)) done := noteT_eq (by rw [hX]; first | done | rfl) rfl (by rw [hX]; first | done | rfl)
  rw [← ih, ← e2]
  show notesT _ done (noteT _ done _ a) s = _
  rw [e4]
theorem shT_put (p : checkB nm l = true) (hg : GoodX nm l fl X c) (hfl : ∀ f ∈ fl, 0 ≤ f ∧ f ≤ 2199023255552) (p2 : checkB nm2 lt = true) {s : List SampV} (hE : putE X s = 0) (done : Int) :
  notesT (buildX (putX X s) nm2 lt (srcs o l fl lt)) done (shT lt done (buildX X nm2 lt (srcs o l fl lt)).tabs) s = shT lt done (buildX (putX X s) nm2 lt (srcs o l fl lt)).tabs := by
 have hX : putX X s = { X with tabs := putsT X X.tabs s } := by unfold putX; rw [if_pos hE]
 rw [hX]
 refine shT_notes p hfl p2 done s X c hg (fun a ha => ?_)
 have h : firstE X s = 0 := by
  unfold putE at hE
  split at hE
  ·cases hE
  ·split at hE
   ·cases hE
   ·exact hE
 unfold firstE at h
 split at h
 ·rename_i z hz
  have := List.find?_some hz
  simp only [decide_eq_true_eq] at this
  exact absurd h this
 ·rename_i hz
  have := List.find?_eq_none.1 hz a ha
  simpa using this
theorem roll_keep {e F F' G : Int} (he : 1 ≤ e) (hF : F ≤ F') (hG : G ≤ F') : ∀ {L acc : List RecV}, goodL acc → (∀ r ∈ L, 0 ≤ r.start) →
  keepT (startBelow F') (rollsR e F acc L) = rollsR e F' (keepT (startBelow F') acc) (keepT (startBelow G) L)
 | [], _, _, _ => rfl
 | r :: L, acc, hg, hr => by
  have h0 := hr r (by simp)
  obtain ⟨_, f2, _⟩ := floor_on h0 he
  show keepT (startBelow F') (rollsR e F (rollR e F acc r) L) = _
  rw [roll_keep he hF hG (rollR_good hg r) (fun y hy => hr y (List.mem_cons_of_mem _ hy))]
  have hcons : keepT (startBelow G) (r :: L) = if r.start < G then keepT (startBelow G) L else r :: keepT (startBelow G) L := by
   unfold keepT
   by_cases h : r.start < G
   ·rw [if_pos h, List.filter_cons_of_neg (by unfold startBelow; simp [h])]
   ·rw [if_neg h, List.filter_cons_of_pos (by unfold startBelow; simp [h])]
  have hlow : floorV r.start e < F' → keepT (startBelow F') (rollR e F acc r) = keepT (startBelow F') acc := fun h => by
   unfold rollR
   split
   ·exact keep_add_lo (startBelow_key F') hg.1 (by unfold startBelow; simpa using h)
   ·rfl
  rw [hcons]
  by_cases h1 : r.start < G
  ·rw [if_pos h1, hlow (by omega)]
  ·rw [if_neg h1]
   show _ = rollsR e F' (rollR e F' (keepT (startBelow F') acc) r) (keepT (startBelow G) L)
   congr 1
   by_cases h2 : F' ≤ floorV r.start e
   ·unfold rollR
    rw [if_pos h2, if_pos (by omega)]
    exact keep_add_hi (startBelow_key F') hg.1 (by unfold startBelow; simp; omega)
   ·rw [hlow (by omega)]
    unfold rollR
    rw [if_neg h2]
theorem ceil_mono {a b e : Int} (h0 : 0 ≤ a) (hab : a ≤ b) (h1 : b ≤ 4398046511104) (he : 1 ≤ e) (he2 : e ≤ 1000000) : ceilV a e ≤ ceilV b e := by
 obtain ⟨a1, a2, a3, a4, _⟩ := ceil_law (t := a) (e := e) h0 (by omega) he he2
 obtain ⟨b1, b2, b3, b4, _⟩ := ceil_law (t := b) (e := e) (by omega) h1 he he2
 rw [Int.tmod_eq_emod_of_nonneg a4] at a1
 rw [Int.tmod_eq_emod_of_nonneg b4] at b1
 obtain ⟨x, hx⟩ := Int.dvd_of_emod_eq_zero a1
 obtain ⟨y, hy⟩ := Int.dvd_of_emod_eq_zero b1
 rw [hx] at a3
 rw [hy] at b2
 rw [hx, hy]
 rcases Int.lt_or_le y x with h | h
 ·have h4 : e * (y + 1) ≤ e * x := Int.mul_le_mul_of_nonneg_left (by omega) (by omega)
  rw [Int.mul_add] at h4
  omega
 ·exact Int.mul_le_mul_of_nonneg_left h (by omega)
theorem from_mono2 {a b : Int} {l : List TierV} {fl fl' : List Int} {k : Nat} {f f' : Int} (hl : ∀ t ∈ l, t.keep ≤ 1000000 ∧ t.every ≤ 1000000) (ha : 0 ≤ a) (hab : a ≤ b) (hf : fl[k]? = some f) (hf' : fl'[k]? = some f') (hff : f ≤ f') : fromV a l fl k ≤ fromV b l fl' k := by
 unfold fromV
 rw [hf, hf']
 split
 ·rename_i x y hx hy
  have hb := back_mono (keep := x.keep) (e := y.every) ha (hl x (mem_of_get hx)).1 (hl y (mem_of_get hy)).2 hab
  simp only
  omega
 ·exact Int.le_refl _
theorem build_tick (p : checkB nm l = true) (hg : GoodX nm l fl X c) (hfl : ∀ f ∈ fl, 0 ≤ f ∧ f ≤ 2199023255552) (p2 : checkB nm2 lt = true) {n : Int} (hE : tickE X n = 0) {j : Nat} (hj : j < lt.length) :
  (buildX (tickX X n) nm2 lt (srcs o l fl lt)).tabs.getD j [] = keepT (startBelow (fromV (tickX X n).now lt (basesV (tickX X n).now l fl (srcs o l fl lt) lt) j)) ((buildX X nm2 lt (srcs o l fl lt)).tabs.getD j []) := by
 have hg2 := hg.tick n
 have hX := tickX_ok hE
 have hn0 : 0 ≤ n := by unfold tickE at hE; split at hE <;> omega
 have hy : lt[j]? = some lt[j] := List.getElem?_eq_getElem hj
 obtain ⟨i, x, hx, hs, hd, hf, hb⟩ := build_src (o := o) (X := X) p hg.now hfl p2 hy
 obtain ⟨i2, x2, hx2, hs2, hd2, hf2, hb2⟩ := build_src (o := o) (X := tickX X n) p hg2.now hfl p2 hy
 rw [hs] at hs2
 have hi2 : i2 = i := by injection hs2 with h; omega
 subst hi2
 have hi := (List.getElem?_eq_some_iff.1 hx).1
 have hxX : X.tiers[i2]? = some x := by rw [hg.tiers]; exact hx
 have hxX2 : (tickX X n).tiers[i2]? = some x := by rw [hg2.tiers]; exact hx
 have hy1 := check_mem p2 (mem_of_get hy)
 have hnow : (tickX X n).now = X.now + n := by rw [hX]
 have hle : ∀ {l : List TierV} {nm : ByteArray}, checkB nm l = true → ∀ t ∈ l, t.keep ≤ 1000000 ∧ t.every ≤ 1000000 := fun h t ht => by have := check_mem h ht; omega
 have hm1 := from_mono (a := X.now) (b := (tickX X n).now) (l := l) (fl := fl) (hle p) hg.now.1 (by omega) i2
 have hbd := from_bd p hg.now.1 hg.now.2 hfl i2
 have hbd2 := from_bd p hg2.now.1 hg2.now.2 hfl i2
 have hm2 := from_mono2 (hle p2) hg.now.1 (show X.now ≤ (tickX X n).now by omega) hb hb2 (ceil_mono hbd.1 hm1 (by omega) hy1.1 hy1.2.1)
 rw [build_tab hj, build_tab hj]
 unfold buildL
 rw [hs, hy]
 simp only [Int.toNat_natCast]
 rw [hxX, hxX2]
 simp only
 rw [hg.tiers, hg.floors, hg2.tiers, hg2.floors]
 unfold rollV
 simp only [if_pos hd, rolls_eq]
 have ht : (tickX X n).tabs.getD i2 [] = keepT (startBelow (fromV (X.now + n) l fl i2)) (X.tabs.getD i2 []) := by
  rw [hX]
  show (dropL (X.now + n) X).getD i2 [] = _
  rw [dropL_getD _ _ _ (by rw [hg.tiers]; exact hi), hg.tiers, hg.floors]
 rw [ht]
 rw [hnow] at hm2 hf2 ⊢
 exact (roll_keep hy1.1 hm2 hf2 good_nil (fun r hr => (hg.grid i2 x hx r hr).2.1)).symm
theorem shT_tick (p : checkB nm l = true) (hg : GoodX nm l fl X c) (hfl : ∀ f ∈ fl, 0 ≤ f ∧ f ≤ 2199023255552) (p2 : checkB nm2 lt = true) {n : Int} (hE : tickE X n = 0) (done : Int) :
  (List.range lt.length).map (fun j => keepT (startBelow (fromV (tickX X n).now lt (basesV (tickX X n).now l fl (srcs o l fl lt) lt) j)) ((shT lt done (buildX X nm2 lt (srcs o l fl lt)).tabs).getD j [])) = shT lt done (buildX (tickX X n) nm2 lt (srcs o l fl lt)).tabs := by
 conv => rhs; unfold shT
 refine List.map_congr_left (fun j hj => ?_)
 have hj := List.mem_range.1 hj
 rw [shT_getD hj]
 unfold shL
 rw [build_tick p hg hfl p2 hE hj]
 unfold keepT
 rw [List.filter_filter, List.filter_filter]
 refine List.filter_congr fun r _ => ?_
 rw [Bool.and_comm]
theorem sum_le_sum : ∀ {a b : List Nat}, a.length = b.length → (∀ (i : Nat) x y, a[i]? = some x → b[i]? = some y → x ≤ y) → a.sum ≤ b.sum
 | [], [], _, _ => Nat.le_refl _
 | x :: a, y :: b, hl, h => by
  have h1 := h 0 x y rfl rfl
  have h2 := sum_le_sum (a := a) (b := b) (by simpa using hl) (fun i x y hx hy => h (i + 1) x y hx hy)
  simp only [List.sum_cons]
  omega
 | [], _ :: _, hl, _ => by simp at hl
 | _ :: _, [], hl, _ => by simp at hl
theorem needV_keep (M : Int) (so : RecV → Bool) (m : List RecV) : needV M (keepT so m) ≤ needV M m := by
 unfold needV
 refine sum_le_sum (by simp) (fun i x y hx hy => ?_)
 rw [List.getElem?_map] at hx hy
 cases hr : (List.range M.toNat)[i]? with
 | none => rw [hr] at hx; cases hx
 | some k =>
  rw [hr] at hx hy
  simp only [Option.map_some, Option.some.injEq] at hx hy
  subst hx
  subst hy
  have h : cntS M (keepT so m) k ≤ cntS M m k := by
   unfold cntS keepT
   rw [List.filter_filter, ← List.countP_eq_length_filter, ← List.countP_eq_length_filter]
   exact List.countP_mono_left (fun r _ h => by simp only [Bool.and_eq_true] at h; exact h.1)
  omega
theorem sneed_le (hg : GoodX nm l fl X c) (h : ShOk nm2 l lt fl o X S) : sneedX S ≤ needX (buildX X nm2 lt (srcs o l fl lt)) := by
 unfold sneedX sneedsX needX needsX
 rw [h.tiers, h.tabs]
 show (List.zipWith _ lt _).sum ≤ (List.zipWith _ lt _).sum
 have hl : (buildX X nm2 lt (srcs o l fl lt)).tabs.length = lt.length := by unfold buildX; simp
 refine sum_le_sum (by simp [shT_len, hl]) (fun i x y hx hy => ?_)
 by_cases hi : i < lt.length
 ·have ht : lt[i]? = some lt[i] := List.getElem?_eq_getElem hi
  have e2 : (buildX X nm2 lt (srcs o l fl lt)).tabs[i]? = some ((buildX X nm2 lt (srcs o l fl lt)).tabs.getD i []) := by
   rw [List.getD_eq_getElem?_getD, List.getElem?_eq_getElem (by omega)]; rfl
  rw [List.getElem?_zipWith, ht, shT_get hi] at hx
  rw [List.getElem?_zipWith, ht, e2] at hy
  simp only [Option.some.injEq] at hx hy
  subst hx
  subst hy
  exact needV_keep _ _ _
 ·rw [List.getElem?_eq_none (by simp; omega)] at hx
  cases hx
theorem ShOk.put (h : ShOk nm2 l lt fl o X S) (p : checkB nm l = true) (hg : GoodX nm l fl X c) (hfl : ∀ f ∈ fl, 0 ≤ f ∧ f ≤ 2199023255552) (p2 : checkB nm2 lt = true) {s : List SampV} (hE : putE X s = 0) :
  ShOk nm2 l lt fl o (putX X s) { S with tabs := notesT (buildX (putX X s) nm2 lt (srcs o l fl lt)) S.done S.tabs s } :=
 ⟨h.name, h.tiers, h.src, by show notesT _ S.done S.tabs s = _; rw [h.tabs]; exact shT_put p hg hfl p2 hE S.done, h.d0, h.d1⟩
theorem ShOk.tick (h : ShOk nm2 l lt fl o X S) (p : checkB nm l = true) (hg : GoodX nm l fl X c) (hfl : ∀ f ∈ fl, 0 ≤ f ∧ f ≤ 2199023255552) (p2 : checkB nm2 lt = true) {n : Int} (hE : tickE X n = 0) :
  ShOk nm2 l lt fl o (tickX X n) (trimX (buildX (tickX X n) nm2 lt (srcs o l fl lt)) S) := by
 have hg2 := hg.tick n
 refine ⟨h.name, h.tiers, h.src, ?_, h.d0, h.d1⟩
 have := shT_tick (o := o) p hg hfl p2 hE S.done
 show _ = shT lt S.done (buildX (tickX X n) nm2 lt (srcs o l fl lt)).tabs
 rw [← this, ← h.tabs]
 show (List.range lt.length).map (fun j => keepT (startBelow (fromV (tickX X n).now lt (basesV (tickX X n).now (tickX X n).tiers (tickX X n).floors (srcs o l fl lt) lt) j)) (S.tabs.getD j [])) = _
 rw [hg2.tiers, hg2.floors]
theorem ShOk.unputs (h : ShOk nm2 l lt fl o X S) {s : List SampV} (hE : putE X s ≠ 0) : ShOk nm2 l lt fl o (putX X s) S := by
 have hX : putX X s = X := by unfold putX; rw [if_neg hE]
 rw [hX]
 exact h
theorem ShOk.untick (h : ShOk nm2 l lt fl o X S) {n : Int} (hE : tickE X n ≠ 0) : ShOk nm2 l lt fl o (tickX X n) S := by
 have hX : tickX X n = X := by unfold tickX; rw [if_neg hE]
 rw [hX]
 exact h
end
section
variable {nm nm2 : ByteArray} {l lt : List TierV} {fl : List Int} {o : Int} {lo : Nat} {W : World} {t s base : Nat} {X : TiersX} {S : ShX} {Ft F : Nat → Prop} {cc c0 : Nat}
theorem snotes_ok (p : PolOk nm l) (p2 : PolOk nm2 lt) (hnm2 : nm2.size ≤ maxLen) (hg : GoodX nm l fl X c0) {sl : List SampV} (hE : putE X sl = 0) (hz : ∀ z ∈ sl, z.wf) (h : Tio nm l fl lo W t (putX X sl) Ft cc) (hc : cc ≤ 1000000) (hc0 : c0 ≤ 1000000) (hfl : ∀ f ∈ fl, 0 ≤ f ∧ f ≤ 2199023255552) (hs : ShOn W s base S F) (hk : ShOk nm2 l lt fl o X S) (A1 : Option Addr) (n1 c1 : Nat) (hr : Rd W 3 A1 n1 (scells sl)) (hn1 : n1 ≤ 1000) (hA : ∀ j, adF A1 n1 j → ¬ F j) :
  Calls Tryz.prog 25 #[.pointer (some ⟨s, 0, none⟩), .pointer (some ⟨t, 0, none⟩), .slice A1 n1 c1] W fun r w' => r = .returned (.tuple #[]) ∧ ShOn w' s base { S with tabs := notesT (buildX (putX X sl) nm2 lt (srcs o l fl lt)) S.done S.tabs sl } F ∧ ShOk nm2 l lt fl o (putX X sl) { S with tabs := notesT (buildX (putX X sl) nm2 lt (srcs o l fl lt)) S.done S.tabs sl } ∧ Fr F W w' := by
 have hst := steps_in p2
 refine (snote_any p p2 hnm2 h hc hfl hs hk.name hk.tiers hk.src ⟨hk.d0, by have := hk.d1; omega⟩ (fun m hm => Nat.le_trans (hk.lens p p2 hg hfl m hm) hc0) sl A1 n1 c1 hr hz hn1 hA).mono ?_
 rintro r w' ⟨rfl, h3, h4⟩
 exact ⟨rfl, h3, hk.put p.ck hg hfl p2.ck hE, h4⟩
theorem strim_ok (p : PolOk nm l) (p2 : PolOk nm2 lt) (hnm2 : nm2.size ≤ maxLen) (hg : GoodX nm l fl X c0) {n : Int} (hE : tickE X n = 0) (h : Tio nm l fl lo W t (tickX X n) Ft cc) (hc : cc ≤ 1000000) (hc0 : c0 ≤ 1000000) (hfl : ∀ f ∈ fl, 0 ≤ f ∧ f ≤ 2199023255552) (hs : ShOn W s base S F) (hk : ShOk nm2 l lt fl o X S) :
  Calls Tryz.prog 28 #[.pointer (some ⟨s, 0, none⟩), .pointer (some ⟨t, 0, none⟩)] W fun r w' => (∃ v, r = .returned (.int .i64 v)) ∧ ShOn w' s base (trimX (buildX (tickX X n) nm2 lt (srcs o l fl lt)) S) F ∧ ShOk nm2 l lt fl o (tickX X n) (trimX (buildX (tickX X n) nm2 lt (srcs o l fl lt)) S) ∧ Fr F W w' := by
 refine (strim_any p p2 hnm2 h hc hfl hs hk.name hk.tiers hk.src (fun m hm => Nat.le_trans (hk.lens p p2 hg hfl m hm) hc0)).mono ?_
 rintro r w' ⟨rfl, h3, h4⟩
 exact ⟨⟨_, rfl⟩, h3, hk.tick p.ck hg hfl p2.ck hE, h4⟩
end
end Go.Proofs.YtfhhepfkjndkgaaGreat
