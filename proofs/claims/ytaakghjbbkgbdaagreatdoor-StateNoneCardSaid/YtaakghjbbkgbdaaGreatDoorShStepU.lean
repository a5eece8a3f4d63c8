/- Walk of shadow: Step that checks. -/
import Derived.Test.YtaakghjbbkgbdaaGreatDoorShStep
import Derived.Test.YtaakghjbbkgbdaaGreatDoorShA
import Derived.Test.YtaakghjbbkgbdaaGreatDoorTiersLoad
import Derived.Test.YtaakghjbbkgbdaaGreatDoorTk
namespace Go.Proofs.YtaakghjbbkgbdaaGreatDoor
set_option linter.all false
open Go.RowKit

set_option maxRecDepth 100000 in
set_option maxHeartbeats 8000000 in
theorem sstep_check {nm nm2 : ByteArray} {l lt : List TierV} {fl : List Int} {o : Int} {lo : Nat} {W : World} {t s base : Nat} {X : TiersX} {S : ShX} {Ft F : Nat → Prop} {cc : Nat} (p : PolOk nm l) (p2 : PolOk nm2 lt) (hnm2 : nm2.size ≤ maxLen) (h : Tio nm l fl lo W t X Ft cc) (hc : cc ≤ 1000000) (hfl : ∀ f ∈ fl, 0 ≤ f ∧ f ≤ 2199023255552) (hs : ShOn W s base S F) (h1 : S.name = nm2) (h2 : S.tiers = lt) (h3 : S.srcs = srcs o l fl lt) (hd : i64 S.done) (hl : ∀ m ∈ S.tabs, m.length ≤ 1000000) (hat : atV lt S.done = ((2, 0, 0), true)) :
  Calls Tryz.prog 145 #[.pointer (some ⟨s, 0, none⟩), .pointer (some ⟨t, 0, none⟩)] W fun r w' => ((agreesB S (buildX X nm2 lt (srcs o l fl lt)) = true → r = .returned (.tuple #[stepVal (2, 0, 0), .pointer none, .int .i64 0]) ∧ ShOn w' s base { S with done := S.done + 1 } F) ∧ (agreesB S (buildX X nm2 lt (srcs o l fl lt)) = false → r = .returned (.tuple #[stepVal (0, 0, 0), .pointer none, .int .i64 7]) ∧ ShOn w' s base S F)) ∧ Fr F W w' := by
 obtain ⟨A, c, B, d, T, ct, tb, hi, rfl⟩ := hs
 obtain ⟨n, hn0⟩ : ∃ n, lt.length = n := ⟨_, rfl⟩
 have hSn : S.tiers.length = n := by rw [h2, hn0]
 have hSm : S.srcs.length = n := by rw [h3]; unfold srcs; rw [List.length_map, hn0]
 have hfive := p2.five
 have HI := Lib.hid hi
 have htc : n ≤ c := by have := (own_any hi.tiers).1; omega
 have HBu : Hid (∀ W', Fr (fun _ => False) W W' → Calls Tryz.prog 173 #[.agg #[.string nm2, .slice A n c, .slice B n d], .pointer (some ⟨t, 0, none⟩)] W' fun r w' => (∃ t' F', r = .returned (.tuple #[.pointer (some ⟨t', 0, none⟩), .int .i64 0]) ∧ Tio nm2 lt (basesV X.now l fl (srcs o l fl lt) lt) W.heap.size w' t' (buildX X nm2 lt (srcs o l fl lt)) F' cc ∧ ∀ j, F' j → W'.heap.size ≤ j) ∧ Below W'.heap.size W' w') := fun W' f => by
  have q1 := (own_any (HI.out.fr0 f).tiers).2.2.1
  have q2 := (own_any (HI.out.fr0 f).srcs).2.2.1
  rw [hSn, h2] at q1
  rw [hSm, h3] at q2
  exact tio_build p p2 hnm2 (h.fr0 f) hc hfl A n c B d q1 htc q2 W.heap.size f.size
 have HNx : Hid (∀ W', Fr (fun _ => False) W W' → Calls Tryz.prog 236 #[.pointer (some ⟨s, 0, none⟩)] W' fun r w' => r = .returned (.tuple #[.agg #[.int .i64 2, .int .i64 0, .int .i64 0], .bool true]) ∧ Below W'.heap.size W' w') := fun W' f =>
  snext_any s base S ((2, 0, 0), true) W' ⟨A, c, B, d, T, ct, tb, HI.out.fr0 f⟩ hd (by rw [h2]; exact fun x hx => (check_mem p2.ck hx).2.2.2.2.2) (by omega) (by rw [h2]; exact hat)
 have HCs : Hid (∀ {W' : World} {G : Nat → Prop}, Fr G W W' → ¬ G s → W'.cell? ⟨s, 0, none⟩ = some (.string nm2) ∧ W'.cell? ⟨s, 1, none⟩ = some (.slice A n c) ∧ W'.cell? ⟨s, 2, none⟩ = some (.slice B n d) ∧ W'.cell? ⟨s, 4, none⟩ = some (.int .i64 S.done) ∧ W'.cell? ⟨s, 5, none⟩ = some (.slice T n ct)) := fun f hg => by
  obtain ⟨c0, c1, c2, _, c4, c5⟩ := HI.out.cells f hg
  rw [h1] at c0
  rw [hSn] at c1 c5
  rw [hSm] at c2
  exact ⟨c0, c1, c2, c4, c5⟩
 obtain ⟨rb, hrb⟩ : ∃ v, W.heap.size = v := ⟨_, rfl⟩
 obtain ⟨W0, hW0⟩ : ∃ W0, W0 = W.alloc (.cells #[.int .i64 0, .int .i64 0, .int .i64 0] 76) := ⟨_, rfl⟩
 have HW0 := Lib.hid hW0
 have F0 : Hid (Fr (fun _ => False) W W0) := by show Fr _ _ _; rw [hW0]; exact Fr.none_alloc _ _
 have B0 : Hid (Blk W0 rb 76 #[.int .i64 0, .int .i64 0, .int .i64 0]) := by show Blk _ _ _ _; rw [hW0, ← hrb]; exact Blk.new _ _ _
 obtain ⟨bs, hbs⟩ : ∃ v, basesV X.now l fl (srcs o l fl lt) lt = v := ⟨_, rfl⟩
 obtain ⟨Y, hY⟩ : ∃ v, buildX X nm2 lt (srcs o l fl lt) = v := ⟨_, rfl⟩
 have HYt : Hid (Y.tiers = lt) := by show _ = _; rw [← hY]; rfl
 rw [hbs, hY] at HBu
 rw [hY]
 have Hrb := Lib.hid hrb
 have Hn0 := Lib.hid hn0
 have HSn := Lib.hid hSn
 have Ht := Lib.hid h2
 have Hl := Lib.hid hl
 have hsW : s < W.heap.size := hi.blk.lt
 rw [hrb] at hsW HBu
 have c0 := fun o => (HCs.out (Fr.none_alloc W o) (fun h => h)).1
 have c1 := fun o => (HCs.out (Fr.none_alloc W o) (fun h => h)).2.1
 have c2 := fun o => (HCs.out (Fr.none_alloc W o) (fun h => h)).2.2.1
 have HBb : Hid (buildX X nm2 lt (srcs o l fl lt) = Y) := hY
 clear hi hn0 hSm hW0 hbs hY hrb h1 h2 h3 h hl hSn
 go_enter Tryz.func145, Tryz.ntmps145
 go_wp2_with fail
 rw [← HW0.out]
 try rw [Hrb.out]
 refine (HBu.out _ F0.out).mono ?_
 rintro r w1 ⟨⟨u, Fu, rfl, T1, _⟩, b1⟩
 have F1 := Lib.hid (F0.out.trans (Fr.b0 b1) (fun _ h => h.elim))
 have B1 := Lib.hid (B0.out.below b1)
 have HT1 := Lib.hid T1
 clear T1 b1 HBu c0 c1 c2
 go_wp2_with fail
 refine (HNx.out _ F1.out).mono ?_
 rintro r w2 ⟨rfl, b2⟩
 have F2 := Lib.hid (F1.out.trans (Fr.b0 b2) (fun _ h => h.elim))
 have B2 := Lib.hid (B1.out.below b2)
 have HT2 := Lib.hid (HT1.out.fr0 (Fr.b0 b2))
 clear b2 HNx
 obtain ⟨vb, hvb⟩ : ∃ v, w2.heap.size = v := ⟨_, rfl⟩
 obtain ⟨w8, hw8⟩ : ∃ v, v = w2.alloc (.cells #[.int .i64 2, .int .i64 0, .int .i64 0] 76) := ⟨_, rfl⟩
 have B8 : Hid (Blk w8 rb 76 #[.int .i64 0, .int .i64 0, .int .i64 0]) := by show Blk _ _ _ _; rw [hw8]; exact B2.out.alloc _
 have V8 : Hid (Blk w8 vb 76 #[.int .i64 2, .int .i64 0, .int .i64 0]) := by show Blk _ _ _ _; rw [hw8, ← hvb]; exact Blk.new _ _ _
 have F8 : Hid (Fr (fun _ => False) W w8) := by show Fr _ _ _; rw [hw8]; exact F2.out.trans (Fr.none_alloc _ _) (fun _ h => h.elim)
 have HT8 : Hid (Tio nm2 lt bs rb w8 u Y Fu cc) := by show Tio _ _ _ _ _ _ _ _ _; rw [hw8]; exact HT2.out.fr0 (Fr.none_alloc _ _)
 have hrv : rb < vb := by rw [← hvb]; exact B2.out.lt
 have HW8 := Lib.hid hw8
 clear hw8 HT1 HT2 B1 B2 B0
 go_wp2_with fail
 rw [← HW8.out]
 try rw [hvb]
 have v0 := V8.out.cell 0
 simp only [List.getElem?_toArray, List.getElem?_cons_succ, List.getElem?_cons_zero] at v0
 have hdn : 0 ≤ S.done ∧ S.done < 100 := by
  have h8 : ∀ t ∈ lt, t.shards ≤ 8 := fun x hx => (check_mem p2.ck hx).2.2.2.2.2
  have hf := fillsV_in h8
  have hst : stepsV lt ≤ fillsV lt + 2 := by unfold stepsV; split <;> omega
  unfold atV at hat
  split at hat
  ·simp at hat
  ·omega
 have hdw : IntKind.i64.wrap (S.done + 1) = S.done + 1 := by simp [IntKind.wrap, IntKind.signed, IntKind.bits]; omega
 have HAg : Hid (Calls Tryz.prog 239 #[.pointer (some ⟨s, 0, none⟩), .pointer (some ⟨u, 0, none⟩)] w8 fun r w' => r = .returned (.bool (agreesB S Y)) ∧ Below w8.heap.size w8 w') := sagrees_any p2 s base S u rb Y Fu cc w8 ⟨_, _, _, _, _, _, _, HI.out.fr0 F8.out⟩ Ht.out Hl.out HT8.out hc
 obtain ⟨ab, hab⟩ : ∃ v, agreesB S Y = v := ⟨_, rfl⟩
 have Hab := Lib.hid hab
 rw [hab] at HAg
 clear hat hab
 go_wp2_with fail
 refine HAg.out.mono ?_
 rintro r w14 ⟨rfl, b14⟩
 have G14 : Hid (Fr (fun _ => False) w8 w14) := Fr.b0 b14
 have I14 := Lib.hid ((HI.out.fr0 F8.out).fr0 G14.out)
 have B14 := Lib.hid (B8.out.below b14)
 have V14 := Lib.hid (V8.out.below b14)
 clear b14
 cases ab with
 | false =>
  have BD := B14.out
  have y0 := BD.cell 0
  have y1 := BD.cell 1
  have y2 := BD.cell 2
  have z0 := BD.frozen 0
  have z1 := BD.frozen 1
  have z2 := BD.frozen 2
  simp only [List.getElem?_toArray, List.getElem?_cons_succ, List.getElem?_cons_zero] at y0 y1 y2
  have BE := Lib.hid (BD.set3 (a := .int .i64 0) (b := .int .i64 0) (c := .int .i64 0))
  have FE : Hid (Fr (fun i => i = rb) w14 (((w14.setCell ⟨rb, 0, none⟩ (.int .i64 0)).setCell ⟨rb, 1, none⟩ (.int .i64 0)).setCell ⟨rb, 2, none⟩ (.int .i64 0))) := (Fr.refl (fun i => i = rb) w14).set3 (.inl rfl) _ _ _
  have IE : Hid (ShOn (((w14.setCell ⟨rb, 0, none⟩ (.int .i64 0)).setCell ⟨rb, 1, none⟩ (.int .i64 0)).setCell ⟨rb, 2, none⟩ (.int .i64 0)) s base S (tF s tb)) :=
   ShOn.fr ⟨_, _, _, _, _, _, _, I14.out, rfl⟩ FE.out (fun i hi => by subst hi; exact .inr ⟨_, (0, 0), 76, BD, by decide, by decide, by decide, by decide⟩) (fun i hi e => by
    have hK := ShOn.ge (F := tF s tb) (w := W) ⟨_, _, _, _, _, _, _, HI.out, rfl⟩ i hi
    rw [Hrb.out] at hK
    omega)
  have FALL : Hid (Fr (tF s tb) W (((w14.setCell ⟨rb, 0, none⟩ (.int .i64 0)).setCell ⟨rb, 1, none⟩ (.int .i64 0)).setCell ⟨rb, 2, none⟩ (.int .i64 0))) :=
   (((F8.out.trans G14.out (fun _ h => h.elim)).mono (fun _ h => h.elim))).trans FE.out (fun i hi => .inr (by rw [hi, Hrb.out]; exact Nat.le_refl _))
  have e0 := BE.out.cell 0
  have e1 := BE.out.cell 1
  have e2 := BE.out.cell 2
  simp only [List.getElem?_toArray, List.getElem?_cons_succ, List.getElem?_cons_zero] at e0 e1 e2
  clear I14 B14 V14 BD
  go_wp2_with fail
  refine bodyPost_ret (v := .tuple #[stepVal (0, 0, 0), .pointer none, .int .i64 7]) ?_ rfl ⟨⟨fun h => absurd h (by rw [Hab.out]; simp), fun _ => ⟨rfl, IE.out⟩⟩, FALL.out⟩
  simp [results, Tryz.results145, go_sem, stepVal, e0, e1, e2]
 | true =>
 obtain ⟨_, _, _, _, z4, _⟩ := I14.out.cells (Fr.refl (fun _ => False) w14) (fun h => h)
 have zf := I14.out.blk.frozen 4
 have fD : Fr (fun i => i = s) w14 (w14.setCell ⟨s, 4, none⟩ (.int .i64 (S.done + 1))) := (Fr.refl (fun i => i = s) w14).setCell (p := ⟨s, 4, none⟩) (.inl rfl) _
 have ID : Hid (ShIn (w14.setCell ⟨s, 4, none⟩ (.int .i64 (S.done + 1))) s base { S with done := S.done + 1 } A c B d T ct tb) := I14.out.setDone (S.done + 1)
 have BD := B14.out.fr fD (by omega)
 have VD := V14.out.fr fD (by omega)
 have BE := Lib.hid (BD.set3 (a := .int .i64 2) (b := .int .i64 0) (c := .int .i64 0))
 have FE : Hid (Fr (fun i => i = rb) (w14.setCell ⟨s, 4, none⟩ (.int .i64 (S.done + 1))) (((((w14.setCell ⟨s, 4, none⟩ (.int .i64 (S.done + 1)))).setCell ⟨rb, 0, none⟩ (.int .i64 2)).setCell ⟨rb, 1, none⟩ (.int .i64 0)).setCell ⟨rb, 2, none⟩ (.int .i64 0))) := (Fr.refl (fun i => i = rb) (w14.setCell ⟨s, 4, none⟩ (.int .i64 (S.done + 1)))).set3 (.inl rfl) _ _ _
 have IE : Hid (ShOn (((((w14.setCell ⟨s, 4, none⟩ (.int .i64 (S.done + 1)))).setCell ⟨rb, 0, none⟩ (.int .i64 2)).setCell ⟨rb, 1, none⟩ (.int .i64 0)).setCell ⟨rb, 2, none⟩ (.int .i64 0)) s base { S with done := S.done + 1 } (tF s tb)) :=
  ShOn.fr ⟨_, _, _, _, _, _, _, ID.out, rfl⟩ FE.out (fun i hi => by subst hi; exact .inr ⟨_, (0, 0), 76, BD, by decide, by decide, by decide, by decide⟩) (fun i hi e => by
   have hK := ShOn.ge (F := tF s tb) (w := W) ⟨_, _, _, _, _, _, _, HI.out, rfl⟩ i hi
   rw [Hrb.out] at hK
   omega)
 have FALL : Hid (Fr (tF s tb) W (((((w14.setCell ⟨s, 4, none⟩ (.int .i64 (S.done + 1)))).setCell ⟨rb, 0, none⟩ (.int .i64 2)).setCell ⟨rb, 1, none⟩ (.int .i64 0)).setCell ⟨rb, 2, none⟩ (.int .i64 0))) :=
  (((F8.out.mono (fun _ h => h.elim)).trans G14.out (fun _ h => h.elim)).trans fD (fun i hi => .inl (.inl hi))).trans FE.out (fun i hi => .inr (by rw [hi, Hrb.out]; exact Nat.le_refl _))
 have x0 := VD.cell 0
 have x1 := VD.cell 1
 have x2 := VD.cell 2
 have y0 := BD.cell 0
 have y1 := BD.cell 1
 have y2 := BD.cell 2
 have z0 := BD.frozen 0
 have z1 := BD.frozen 1
 have z2 := BD.frozen 2
 simp only [List.getElem?_toArray, List.getElem?_cons_succ, List.getElem?_cons_zero] at x0 x1 x2 y0 y1 y2
 have e0 := BE.out.cell 0
 have e1 := BE.out.cell 1
 have e2 := BE.out.cell 2
 simp only [List.getElem?_toArray, List.getElem?_cons_succ, List.getElem?_cons_zero] at e0 e1 e2
 clear I14 B14 V14 fD BD VD
 go_wp2_with fail
 refine bodyPost_ret (v := .tuple #[stepVal (2, 0, 0), .pointer none, .int .i64 0]) ?_ rfl ⟨⟨fun _ => ⟨rfl, IE.out⟩, fun h => absurd h (by rw [Hab.out]; simp)⟩, FALL.out⟩
 simp [results, Tryz.results145, go_sem, stepVal, e0, e1, e2]
end Go.Proofs.YtaakghjbbkgbdaaGreatDoor
namespace Go.Proofs.YtaakghjbbkgbdaaGreatDoor
set_option linter.all false
open Go.RowKit

def cutK (S : ShX) (Y : TiersX) (k : Nat) : TiersX := (List.range k).foldl (fun Z i => loadX Z i (S.tabs.getD i [])) (newX Y.name Y.tiers Y.now Y.floors)
theorem cutK_succ (S : ShX) (Y : TiersX) (k : Nat) : cutK S Y (k + 1) = loadX (cutK S Y k) k (S.tabs.getD k []) := by
 unfold cutK
 rw [List.range_succ, List.foldl_append]
 rfl
section
variable {nm : ByteArray} {l : List TierV} {fl : List Int} {o : Int} {lo lo2 : Nat} {W W' : World} {t : Nat} {X : TiersX} {F G : Nat → Prop} {c : Nat}
theorem Tio.frK (h : Tio nm l fl lo W t X F c) (hf : Fr G W W') (hG : ∀ j, G j → (∃ es ck, W.heap[j]? = some (.map es ck)) ∨ (∃ cs fz ty, W.heap[j]? = some (.cells cs ty fz) ∧ ty ≠ 157 ∧ ty ≠ 3 ∧ ty ≠ 209 ∧ ty ≠ 305)) (hd : ∀ j, F j → ¬ G j) : Tio nm l fl lo W' t X F c := by
 obtain ⟨b, hb, ho⟩ := h.on
 exact ⟨⟨b, hb, ho.frSh hf hG hd⟩, h.good⟩
theorem Tio.lower (h : Tio nm l fl lo W t X F c) (hl : lo2 ≤ lo) : Tio nm l fl lo2 W t X F c := by
 obtain ⟨b, hb, ho⟩ := h.on
 exact ⟨⟨b, Nat.le_trans hl hb, ho⟩, h.good⟩
theorem tio_load (p : PolOk nm l) (h : Tio nm l fl lo W t X F c) (hc : c ≤ 100000000) (k : Nat) (hk : k < l.length) (rs : List RecV) (D : Option Addr) (n e : Nat) (hr : Rd W 7 D n (rcells rs)) (hrw : ∀ r ∈ rs, r.wf) (hn : n ≤ 100000000) :
  Calls Tryz.prog 170 #[.pointer (some ⟨t, 0, none⟩), .int .i64 k, .slice D n e] W fun r w' => r = .returned (.int .i64 (loadN X k rs : Nat)) ∧ Tio nm l fl lo w' t (loadX X k rs) F (c + rs.length) ∧ Fr F W w' := by
 obtain ⟨base, hb, ho⟩ := h.on
 refine (tload_in t base X F k rs D n e W ho (by rw [h.good.tiers]; exact hk) (h.five p) (h.short hc) hn h.good.now (h.wf p) hr hrw).mono ?_
 rintro r w' ⟨rfl, h1, h2⟩
 exact ⟨rfl, ⟨⟨base, hb, h1⟩, h.good.load k rs⟩, h2.mono (fun _ h => .inl h.1)⟩
end
set_option maxRecDepth 100000 in
set_option maxHeartbeats 8000000 in
theorem sstep_cut {nm nm2 : ByteArray} {l lt : List TierV} {fl : List Int} {o : Int} {lo : Nat} {W : World} {t s base : Nat} {X : TiersX} {S : ShX} {Ft F : Nat → Prop} {cc : Nat} (p : PolOk nm l) (p2 : PolOk nm2 lt) (hnm2 : nm2.size ≤ maxLen) (h : Tio nm l fl lo W t X Ft cc) (hc : cc ≤ 1000000) (hfl : ∀ f ∈ fl, 0 ≤ f ∧ f ≤ 2199023255552) (hs : ShOn W s base S F) (h1 : S.name = nm2) (h2 : S.tiers = lt) (h3 : S.srcs = srcs o l fl lt) (hd : i64 S.done) (hl : ∀ m ∈ S.tabs, m.length ≤ 1000000) (hat : atV lt S.done = ((3, 0, 0), true)) :
  Calls Tryz.prog 145 #[.pointer (some ⟨s, 0, none⟩), .pointer (some ⟨t, 0, none⟩)] W fun r w' => (∃ ot Fo, r = .returned (.tuple #[stepVal (3, 0, 0), .pointer (some ⟨ot, 0, none⟩), .int .i64 0]) ∧ Tio nm2 lt (basesV X.now l fl (srcs o l fl lt) lt) W.heap.size w' ot (cutK S (buildX X nm2 lt (srcs o l fl lt)) lt.length) Fo (lt.length * 1000000) ∧ ∀ i, Fo i → W.heap.size ≤ i) ∧ ShOn w' s base { S with done := S.done + 1 } F ∧ Fr F W w' := by
 obtain ⟨A, c, B, d, T, ct, tb, hi, rfl⟩ := hs
 obtain ⟨n, hn0⟩ : ∃ n, lt.length = n := ⟨_, rfl⟩
 have hSn : S.tiers.length = n := by rw [h2, hn0]
 have hSm : S.srcs.length = n := by rw [h3]; unfold srcs; rw [List.length_map, hn0]
 have hfive := p2.five
 have HI := Lib.hid hi
 have htc : n ≤ c := by have := (own_any hi.tiers).1; omega
 have HBu : Hid (∀ W', Fr (fun _ => False) W W' → Calls Tryz.prog 173 #[.agg #[.string nm2, .slice A n c, .slice B n d], .pointer (some ⟨t, 0, none⟩)] W' fun r w' => (∃ t' F', r = .returned (.tuple #[.pointer (some ⟨t', 0, none⟩), .int .i64 0]) ∧ Tio nm2 lt (basesV X.now l fl (srcs o l fl lt) lt) W.heap.size w' t' (buildX X nm2 lt (srcs o l fl lt)) F' cc ∧ ∀ j, F' j → W'.heap.size ≤ j) ∧ Below W'.heap.size W' w') := fun W' f => by
  have q1 := (own_any (HI.out.fr0 f).tiers).2.2.1
  have q2 := (own_any (HI.out.fr0 f).srcs).2.2.1
  rw [hSn, h2] at q1
  rw [hSm, h3] at q2
  exact tio_build p p2 hnm2 (h.fr0 f) hc hfl A n c B d q1 htc q2 W.heap.size f.size
 have HNx : Hid (∀ W', Fr (fun _ => False) W W' → Calls Tryz.prog 236 #[.pointer (some ⟨s, 0, none⟩)] W' fun r w' => r = .returned (.tuple #[.agg #[.int .i64 3, .int .i64 0, .int .i64 0], .bool true]) ∧ Below W'.heap.size W' w') := fun W' f =>
  snext_any s base S ((3, 0, 0), true) W' ⟨A, c, B, d, T, ct, tb, HI.out.fr0 f⟩ hd (by rw [h2]; exact fun x hx => (check_mem p2.ck hx).2.2.2.2.2) (by omega) (by rw [h2]; exact hat)
 have HCs : Hid (∀ {W' : World} {G : Nat → Prop}, Fr G W W' → ¬ G s → W'.cell? ⟨s, 0, none⟩ = some (.string nm2) ∧ W'.cell? ⟨s, 1, none⟩ = some (.slice A n c) ∧ W'.cell? ⟨s, 2, none⟩ = some (.slice B n d) ∧ W'.cell? ⟨s, 4, none⟩ = some (.int .i64 S.done) ∧ W'.cell? ⟨s, 5, none⟩ = some (.slice T n ct)) := fun f hg => by
  obtain ⟨c0, c1, c2, _, c4, c5⟩ := HI.out.cells f hg
  rw [h1] at c0
  rw [hSn] at c1 c5
  rw [hSm] at c2
  exact ⟨c0, c1, c2, c4, c5⟩
 obtain ⟨rb, hrb⟩ : ∃ v, W.heap.size = v := ⟨_, rfl⟩
 obtain ⟨W0, hW0⟩ : ∃ W0, W0 = W.alloc (.cells #[.int .i64 0, .int .i64 0, .int .i64 0] 76) := ⟨_, rfl⟩
 have HW0 := Lib.hid hW0
 have F0 : Hid (Fr (fun _ => False) W W0) := by show Fr _ _ _; rw [hW0]; exact Fr.none_alloc _ _
 have B0 : Hid (Blk W0 rb 76 #[.int .i64 0, .int .i64 0, .int .i64 0]) := by show Blk _ _ _ _; rw [hW0, ← hrb]; exact Blk.new _ _ _
 obtain ⟨bs, hbs⟩ : ∃ v, basesV X.now l fl (srcs o l fl lt) lt = v := ⟨_, rfl⟩
 obtain ⟨Y, hY⟩ : ∃ v, buildX X nm2 lt (srcs o l fl lt) = v := ⟨_, rfl⟩
 have HYt : Hid (Y.tiers = lt) := by show _ = _; rw [← hY]; rfl
 rw [hbs, hY] at HBu
 rw [hY]
 have Hrb := Lib.hid hrb
 have Hn0 := Lib.hid hn0
 have HSn := Lib.hid hSn
 have Ht := Lib.hid h2
 have Hl := Lib.hid hl
 have hsW : s < W.heap.size := hi.blk.lt
 rw [hrb] at hsW HBu
 have c0 := fun o => (HCs.out (Fr.none_alloc W o) (fun h => h)).1
 have c1 := fun o => (HCs.out (Fr.none_alloc W o) (fun h => h)).2.1
 have c2 := fun o => (HCs.out (Fr.none_alloc W o) (fun h => h)).2.2.1
 have HBb : Hid (buildX X nm2 lt (srcs o l fl lt) = Y) := hY
 rw [hbs]
 have HBl : Hid (bs.length ≤ n) := by show _ ≤ _; rw [← hbs]; unfold basesV; rw [List.length_zipWith, hn0]; exact Nat.min_le_right _ _
 have HNz : Hid (newE nm2 lt Y.now bs = 0) := by
  have hq := build_ok (o := o) p.ck h.good hfl p2.ck
  unfold buildE at hq
  rw [if_pos (by rw [h.good.tiers]; exact build_fits p.ck h.good.now hfl p2.ck)] at hq
  rw [h.good.tiers, h.good.floors, hbs] at hq
  show newE nm2 lt Y.now bs = 0
  rw [← hY]
  exact hq
 clear hi hn0 hSm hW0 hbs hY hrb h1 h2 h3 h hl hSn
 go_enter Tryz.func145, Tryz.ntmps145
 go_wp2_with fail
 rw [← HW0.out]
 try rw [Hrb.out]
 refine (HBu.out _ F0.out).mono ?_
 rintro r w1 ⟨⟨u, Fu, rfl, T1, _⟩, b1⟩
 have F1 := Lib.hid (F0.out.trans (Fr.b0 b1) (fun _ h => h.elim))
 have B1 := Lib.hid (B0.out.below b1)
 have HT1 := Lib.hid T1
 clear T1 b1 HBu c0 c1 c2
 go_wp2_with fail
 refine (HNx.out _ F1.out).mono ?_
 rintro r w2 ⟨rfl, b2⟩
 have F2 := Lib.hid (F1.out.trans (Fr.b0 b2) (fun _ h => h.elim))
 have B2 := Lib.hid (B1.out.below b2)
 have HT2 := Lib.hid (HT1.out.fr0 (Fr.b0 b2))
 clear b2 HNx
 obtain ⟨vb, hvb⟩ : ∃ v, w2.heap.size = v := ⟨_, rfl⟩
 obtain ⟨w8, hw8⟩ : ∃ v, v = w2.alloc (.cells #[.int .i64 3, .int .i64 0, .int .i64 0] 76) := ⟨_, rfl⟩
 have B8 : Hid (Blk w8 rb 76 #[.int .i64 0, .int .i64 0, .int .i64 0]) := by show Blk _ _ _ _; rw [hw8]; exact B2.out.alloc _
 have V8 : Hid (Blk w8 vb 76 #[.int .i64 3, .int .i64 0, .int .i64 0]) := by show Blk _ _ _ _; rw [hw8, ← hvb]; exact Blk.new _ _ _
 have F8 : Hid (Fr (fun _ => False) W w8) := by show Fr _ _ _; rw [hw8]; exact F2.out.trans (Fr.none_alloc _ _) (fun _ h => h.elim)
 have HT8 : Hid (Tio nm2 lt bs rb w8 u Y Fu cc) := by show Tio _ _ _ _ _ _ _ _ _; rw [hw8]; exact HT2.out.fr0 (Fr.none_alloc _ _)
 have hrv : rb < vb := by rw [← hvb]; exact B2.out.lt
 have HW8 := Lib.hid hw8
 clear hw8 HT1 HT2 B1 B2 B0
 go_wp2_with fail
 rw [← HW8.out]
 try rw [hvb]
 have v0 := V8.out.cell 0
 simp only [List.getElem?_toArray, List.getElem?_cons_succ, List.getElem?_cons_zero] at v0
 have hdn : 0 ≤ S.done ∧ S.done < 100 := by
  have h8 : ∀ t ∈ lt, t.shards ≤ 8 := fun x hx => (check_mem p2.ck hx).2.2.2.2.2
  have hf := fillsV_in h8
  have hst : stepsV lt ≤ fillsV lt + 2 := by unfold stepsV; split <;> omega
  unfold atV at hat
  split at hat
  ·simp at hat
  ·omega
 have hdw : IntKind.i64.wrap (S.done + 1) = S.done + 1 := by simp [IntKind.wrap, IntKind.signed, IntKind.bits]; omega
 obtain ⟨tA, tc, tB, td, hR⟩ := HT8.out.reach
 obtain ⟨mf, hmf⟩ : ∃ n, bs.length = n := ⟨_, rfl⟩
 have hmfn : mf ≤ n := by rw [← hmf]; exact HBl.out
 have hn5 : n ≤ 5 := by have := Hn0.out; omega
 have HCu : Hid (∀ {W9 : World}, Fr (fun _ => False) w8 W9 → W9.cell? ⟨u, 0, none⟩ = some (.int .i64 Y.now) ∧ W9.cell? ⟨u, 1, none⟩ = some (.string nm2) ∧ W9.cell? ⟨u, 2, none⟩ = some (.slice tA n tc) ∧ W9.cell? ⟨u, 3, none⟩ = some (.slice tB mf td)) := fun f => by
  have h := hR.fr0 f
  have h2 := h.c2
  have h3 := h.c3
  rw [Hn0.out] at h2
  rw [hmf] at h3
  exact ⟨h.c0, h.c1, h2, h3⟩
 have hYg := HT8.out.good
 have HNw : Hid (∀ W9, Fr (fun _ => False) w8 W9 → Calls Tryz.prog 134 #[.agg #[.string nm2, .slice tA n tc], .int .i64 Y.now, .slice tB mf td] W9 fun r w' => (∃ t' Fo, r = .returned (.tuple #[.pointer (some ⟨t', 0, none⟩), .int .i64 0]) ∧ Tio nm2 lt bs W9.heap.size w' t' (cutK S Y 0) Fo 0) ∧ Below W9.heap.size W9 w') := fun W9 f => by
  have h := hR.fr0 f
  have h1 := h.rt
  have h2 := h.rf
  rw [Hn0.out] at h1
  rw [hmf] at h2
  have htc2 : n ≤ tc := by have := h.le; rw [Hn0.out] at this; exact this
  refine (tnew_any nm2 hnm2 lt tA n tc Y.now (by have := hYg.now; unfold i64; omega) bs tB mf td W9 h1 htc2 p2.wf (by omega) h2 (by omega)).mono ?_
  rintro r w' ⟨⟨h3, _⟩, hb⟩
  obtain ⟨t', h4, h5⟩ := h3 HNz.out
  obtain ⟨Fo, h6⟩ := h5.on
  have e : newX nm2 lt Y.now bs = cutK S Y 0 := by
   show newX nm2 lt Y.now bs = newX Y.name Y.tiers Y.now Y.floors
   rw [hYg.name, hYg.tiers, hYg.floors]
  have hg := GoodX.new HNz.out
  rw [e] at h6 hg
  exact ⟨⟨t', Fo, h4, ⟨⟨_, Nat.le_refl _, h6⟩, hg⟩⟩, hb⟩
 have HSo8 : Hid (ShOn w8 s base S (tF s tb)) := ⟨_, _, _, _, _, _, _, HI.out.fr0 F8.out, rfl⟩
 have hFlt : Hid (∀ i, tF s tb i → i < rb) := fun i hi => by
  have hK := ShOn.ge (F := tF s tb) (w := W) ⟨_, _, _, _, _, _, _, HI.out, rfl⟩ i hi
  rw [Hrb.out] at hK
  exact hK.2
 have hYtl : Hid (S.tabs.length = n) := by show _ = _; rw [HI.out.tlen, HSn.out]
 obtain ⟨nw, hnw⟩ : ∃ v, Y.now = v := ⟨_, rfl⟩
 rw [hnw] at HNw HCu
 have hv8 : rb < w8.heap.size := B8.out.lt
 clear hat hR hnw hYg HNz
 go_wp2_with fail
 refine wp_region_held_drew (S := fun W_ => Fr (fun _ => False) w8 W_) (by kernel_rfl) ((Fr.refl _ w8).drew) (fun hHeld => ?_)
 refine tl 0 ?v38 rfl ?q38 ?r38
 case q38 => intro W hSw; go_simp; try rfl
 refine tl 1 ?v39 rfl ?q39 ?r39
 case q39 => intro W hSw; go_simp; try rfl
 refine tl 2 ?v40 rfl ?q40 ?r40
 case q40 => intro W hSw; go_simp; try rfl
 refine tl 3 ?v41 rfl ?q41 ?r41
 case q41 => intro W hSw; go_simp; try rfl
 refine tl 4 ?v42 rfl ?q42 ?r42
 case q42 => intro W hSw; (try obtain ⟨q0, q1, q2, q3⟩ := HCu.out hSw); go_simp; try rfl
 refine tl 5 ?v43 rfl ?q43 ?r43
 case q43 => intro W hSw; go_simp; try rfl
 refine tl 6 ?v44 rfl ?q44 ?r44
 case q44 => intro W hSw; go_simp; try rfl
 refine tl 7 ?v45 rfl ?q45 ?r45
 case q45 => intro W hSw; go_simp; try rfl
 refine tl 8 ?v46 rfl ?q46 ?r46
 case q46 => intro W hSw; go_simp; try rfl
 refine tl 9 ?v47 rfl ?q47 ?r47
 case q47 => intro W hSw; (try obtain ⟨q0, q1, q2, q3⟩ := HCu.out hSw); go_simp; try rfl
 refine tl 10 ?v48 rfl ?q48 ?r48
 case q48 => intro W hSw; go_simp; try rfl
 refine tl 11 ?v49 rfl ?q49 ?r49
 case q49 => intro W hSw; go_simp; try rfl
 refine tl 12 ?v50 rfl ?q50 ?r50
 case q50 => intro W hSw; go_simp; try rfl
 refine tl 13 ?v51 rfl ?q51 ?r51
 case q51 => intro W hSw; go_simp; try rfl
 refine tl 14 ?v52 rfl ?q52 ?r52
 case q52 => intro W hSw; (try obtain ⟨q0, q1, q2, q3⟩ := HCu.out hSw); go_simp; try rfl
 try simp only [Act.put, sA, sB, sC]
 refine rl 15 rfl (fun K hK => ?_)
 go_simp
 go_wp2_with (first | (go_at_call 134; refine (HNw.out _ hHeld).mono ?_; rintro r w9 ⟨⟨ot, Fo, rfl, To⟩, b9⟩))
 have To := Lib.hid To
 refine hK.out _ _ (hHeld.trans (Fr.b0 b9) (fun _ h => h.elim)) (fun hHeld => ?_)
 clear hK K
 refine tl 16 ?v53 rfl ?q53 ?r53
 case q53 => intro W hSw; go_simp; try rfl
 refine tl 17 ?v54 rfl ?q54 ?r54
 case q54 => intro W hSw; (try obtain ⟨q0, q1, q2, q3⟩ := HCu.out hSw); go_simp; try rfl
 refine tl 18 ?v55 rfl ?q55 ?r55
 case q55 => intro W hSw; (try obtain ⟨q0, q1, q2, q3⟩ := HCu.out hSw); go_simp; try rfl
 refine tl 19 ?v56 rfl ?q56 ?r56
 case q56 => intro W hSw; (try obtain ⟨q0, q1, q2, q3⟩ := HCu.out hSw); go_simp; try rfl
 try simp only [Act.put, sA, sB, sC]
 refine wpAnyH_done (by kernel_rfl) ?_ _
 have G9 := Lib.hid hHeld
 clear hHeld b9
 have To9 : Hid (Tio nm2 lt bs w8.heap.size w9 ot (cutK S Y 0) Fo 0) := To.out
 have HFo : Hid (∀ i, Fo i → w8.heap.size ≤ i) := fun i hi => (To.out.ge i hi).1
 obtain ⟨ad, rfl, hcr⟩ := (own_any HI.out.row).2.2.1.2 (show 0 < S.tiers.length by rw [HSn.out]; have := p2.pos; rw [Hn0.out] at this; exact this)
 have Hcr := Lib.hid hcr
 have hrW : W.heap.size = rb := Hrb.out
 have y5 := (HCs.out (F8.out.trans G9.out (fun _ h => h.elim)) (fun h => h)).2.2.2.2
 clear To hcr
 go_wp2_with fail
 go_loopw [115, 13] (fun i _ wr => ∃ k : Nat, k ≤ n ∧ i = .int .i64 k ∧ Fr Fo w9 wr ∧ Tio nm2 lt bs w8.heap.size wr ot (cutK S Y k) Fo (k * 1000000)) (fun i _ _ => n - (intOf i).toNat)
 case atStart => exact ⟨0, Nat.zero_le _, rfl, Fr.refl _ _, To9.out.more (by omega)⟩
 case round =>
  obtain ⟨k, hk, rfl, hf, hT⟩ := hrel
  have Hf := Lib.hid hf
  have HT := Lib.hid hT
  have FN : Hid (Fr (fun _ => False) W wr) := (F8.out.trans G9.out (fun _ h => h.elim)).trans hf (fun i hi => .inr (by have := HFo.out i hi; omega))
  have z5 := (HCs.out FN.out (fun h => h)).2.2.2.2
  clear hf hT
  by_cases hlt : k < n
  ·obtain ⟨g, b, x, L, t1, t2, t3, hT⟩ := (HI.out.fr0 FN.out).tabAt (k := k) (by rw [HSn.out]; exact hlt)
   have hLk : S.tabs.getD k [] = L := by rw [List.getD_eq_getElem?_getD, t3]; rfl
   have hLl := Hl.out L (mem_of_get t3)
   have pk := FN.out.cell (Hcr.out k _ (ptrs_get t1)) (fun h => h)
   try simp only at pk
   have HA := Lib.hid (taball_any g x.every b L wr hT (by omega))
   have hLw := hT.own.wf
   have kn : 0 ≤ (k : Int) ∧ (k : Int) < (n : Int) := by omega
   have g0 : decide ((k : Int) < (n : Int)) = true := decide_eq_true (by omega)
   have hqw : IntKind.i64.wrap ((k : Int) + 1) = (k : Int) + 1 := by simp [IntKind.wrap, IntKind.signed, IntKind.bits]; omega
   have hcK : loadX (cutK S Y k) k L = cutK S Y (k + 1) := by rw [← hLk]; exact (cutK_succ S Y k).symm
   have HLd : Hid (∀ w10 A c, Fr (fun _ => False) wr w10 → Rd w10 7 A L.length (rcells L) → Calls Tryz.prog 170 #[.pointer (some ⟨ot, 0, none⟩), .int .i64 (k : Nat), .slice A L.length c] w10 fun r w' => (∃ v, r = .returned (.int .i64 v)) ∧ Tio nm2 lt bs w8.heap.size w' ot (cutK S Y (k + 1)) Fo ((k + 1) * 1000000) ∧ Fr Fo w10 w') := fun w10 A c f hr => by
    refine (tio_load p2 (HT.out.fr0 f) (by omega) k (by have := Hn0.out; omega) L A L.length c hr hLw (by omega)).mono ?_
    rintro r w' ⟨rfl, h1, h2⟩
    rw [hcK] at h1
    exact ⟨⟨_, rfl⟩, h1.more (by omega), h2⟩
   obtain ⟨nL, hnL⟩ : ∃ v, L.length = v := ⟨_, rfl⟩
   rw [hnL] at HA HLd
   clear t1 t2 t3 hT hLk hcK hLl hnL hLw
   go_wp2_with fail
   refine HA.out.mono ?_
   rintro r w10 ⟨⟨Aa, ca, rfl, oa⟩, b10⟩
   have HL2 := Lib.hid (HLd.out w10 Aa ca (Fr.b0 b10) (own_any oa).2.2.1)
   have F10 : Hid (Fr Fo w9 w10) := Hf.out.trans (Fr.b0 b10) (fun _ h => h.elim)
   clear oa b10 HA HLd
   go_wp2_with fail
   refine HL2.out.mono ?_
   rintro r w11 ⟨⟨v11, rfl⟩, T11, f11⟩
   have HT11 := Lib.hid T11
   have F11 : Hid (Fr Fo w9 w11) := F10.out.trans f11 (fun _ h => .inl h)
   clear T11 f11 HL2
   go_wp2_with fail
   go_roundw
   case rel => exact ⟨k + 1, by omega, by go_num, F11.out, HT11.out⟩
   case measure => simp [intOf]; omega
  ·obtain rfl : k = n := by omega
   have g0 : decide ((k : Int) < (k : Int)) = false := decide_eq_false (by omega)
   have G14 : Hid (Fr Fo w8 wr) := (G9.out.mono (fun _ h => h.elim)).trans Hf.out (fun _ h => .inl h)
   have I14 : Hid (ShIn wr s base S A c B d (some ad) ct tb) := HI.out.fr0 FN.out
   have B14 := Lib.hid (B8.out.fr G14.out (fun hh => by have := HFo.out _ hh; omega))
   have V14 := Lib.hid (V8.out.fr G14.out (fun hh => by have := HFo.out _ hh; have := V8.out.lt; omega))
   have HTk := Lib.hid HT.out
   obtain ⟨_, _, _, _, z4, _⟩ := I14.out.cells (Fr.refl (fun _ => False) wr) (fun h => h)
   have zf := I14.out.blk.frozen 4
   have fD : Fr (fun i => i = s) wr (wr.setCell ⟨s, 4, none⟩ (.int .i64 (S.done + 1))) := (Fr.refl (fun i => i = s) wr).setCell (p := ⟨s, 4, none⟩) (.inl rfl) _
   have ID : Hid (ShIn (wr.setCell ⟨s, 4, none⟩ (.int .i64 (S.done + 1))) s base { S with done := S.done + 1 } A c B d (some ad) ct tb) := I14.out.setDone (S.done + 1)
   have BD := B14.out.fr fD (by omega)
   have VD := V14.out.fr fD (by omega)
   have BE := Lib.hid (BD.set3 (a := .int .i64 3) (b := .int .i64 0) (c := .int .i64 0))
   have FE : Hid (Fr (fun i => i = rb) (wr.setCell ⟨s, 4, none⟩ (.int .i64 (S.done + 1))) (((((wr.setCell ⟨s, 4, none⟩ (.int .i64 (S.done + 1)))).setCell ⟨rb, 0, none⟩ (.int .i64 3)).setCell ⟨rb, 1, none⟩ (.int .i64 0)).setCell ⟨rb, 2, none⟩ (.int .i64 0))) := (Fr.refl (fun i => i = rb) (wr.setCell ⟨s, 4, none⟩ (.int .i64 (S.done + 1)))).set3 (.inl rfl) _ _ _
   have IE : Hid (ShOn (((((wr.setCell ⟨s, 4, none⟩ (.int .i64 (S.done + 1)))).setCell ⟨rb, 0, none⟩ (.int .i64 3)).setCell ⟨rb, 1, none⟩ (.int .i64 0)).setCell ⟨rb, 2, none⟩ (.int .i64 0)) s base { S with done := S.done + 1 } (tF s tb)) :=
    ShOn.fr ⟨_, _, _, _, _, _, _, ID.out, rfl⟩ FE.out (fun i hi => by subst hi; exact .inr ⟨_, (0, 0), 76, BD, by decide, by decide, by decide, by decide⟩) (fun i hi e => by
     have hK := ShOn.ge (F := tF s tb) (w := W) ⟨_, _, _, _, _, _, _, HI.out, rfl⟩ i hi
     rw [Hrb.out] at hK
     omega)
   have FALL : Hid (Fr (tF s tb) W (((((wr.setCell ⟨s, 4, none⟩ (.int .i64 (S.done + 1)))).setCell ⟨rb, 0, none⟩ (.int .i64 3)).setCell ⟨rb, 1, none⟩ (.int .i64 0)).setCell ⟨rb, 2, none⟩ (.int .i64 0))) :=
    (((F8.out.mono (fun _ h => h.elim)).trans G14.out (fun i hi => .inr (by have := HFo.out i hi; omega))).trans fD (fun i hi => .inl (.inl hi))).trans FE.out (fun i hi => .inr (by rw [hi, Hrb.out]; exact Nat.le_refl _))
   have ToE : Hid (Tio nm2 lt bs w8.heap.size (((wr.setCell ⟨s, 4, none⟩ (.int .i64 (S.done + 1))).setCell ⟨rb, 0, none⟩ (.int .i64 3)).setCell ⟨rb, 1, none⟩ (.int .i64 0) |>.setCell ⟨rb, 2, none⟩ (.int .i64 0)) ot (cutK S Y k) Fo (k * 1000000)) :=
    (HTk.out.frK fD (fun i hi => by subst hi; exact .inr ⟨_, (0, 0), 107, I14.out.blk, by decide, by decide, by decide, by decide⟩) (fun i hi e => by have := HFo.out i hi; omega)).frK FE.out (fun i hi => by subst hi; exact .inr ⟨_, (0, 0), 76, BD, by decide, by decide, by decide, by decide⟩) (fun i hi e => by have := HFo.out i hi; omega)
   clear HTk
   have x0 := VD.cell 0
   have x1 := VD.cell 1
   have x2 := VD.cell 2
   have y0 := BD.cell 0
   have y1 := BD.cell 1
   have y2 := BD.cell 2
   have z0 := BD.frozen 0
   have z1 := BD.frozen 1
   have z2 := BD.frozen 2
   simp only [List.getElem?_toArray, List.getElem?_cons_succ, List.getElem?_cons_zero] at x0 x1 x2 y0 y1 y2
   have e0 := BE.out.cell 0
   have e1 := BE.out.cell 1
   have e2 := BE.out.cell 2
   simp only [List.getElem?_toArray, List.getElem?_cons_succ, List.getElem?_cons_zero] at e0 e1 e2
   clear I14 B14 V14 fD BD VD
   go_wp2_with fail
   refine bodyPost_ret (v := .tuple #[stepVal (3, 0, 0), .pointer (some ⟨ot, 0, none⟩), .int .i64 0]) ?_ rfl ⟨⟨ot, Fo, rfl, (by rw [Hn0.out]; exact ToE.out.lower F8.out.size), fun i hi => Nat.le_trans F8.out.size (HFo.out i hi)⟩, IE.out, FALL.out⟩
   simp [results, Tryz.results145, go_sem, stepVal, e0, e1, e2]
end Go.Proofs.YtaakghjbbkgbdaaGreatDoor
