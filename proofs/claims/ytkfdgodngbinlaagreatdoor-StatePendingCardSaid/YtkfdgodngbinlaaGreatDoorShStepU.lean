/- Walk of shadow: Step that checks. -/
import Derived.Test.YtkfdgodngbinlaaGreatDoorShNext
import Derived.Test.YtkfdgodngbinlaaGreatDoorShA
import Derived.Test.YtkfdgodngbinlaaGreatDoorTiersLoad
import Derived.Test.YtkfdgodngbinlaaGreatDoorPlanBuild
import Derived.Test.YtkfdgodngbinlaaGreatDoorRollLaw
import Derived.Test.YtkfdgodngbinlaaGreatDoorFills
import Derived.Test.YtkfdgodngbinlaaGreatDoorTk
namespace Go.Proofs.YtkfdgodngbinlaaGreatDoor
set_option linter.all false
open Go.RowKit

set_option maxRecDepth 100000 in
set_option maxHeartbeats 8000000 in
theorem sstep_check {nm nm2 : ByteArray} {l lt : List TierV} {fl : List Int} {o : Int} {lo : Nat} {W : World} {t s base : Nat} {X : TiersX} {S : ShX} {Ft F : Nat → Prop} {cc : Nat} (p : PolOk nm l) (p2 : PolOk nm2 lt) (hnm2 : nm2.size ≤ maxLen) (h : Tio nm l fl lo W t X Ft cc) (hc : cc ≤ 1000000) (hfl : ∀ f ∈ fl, 0 ≤ f ∧ f ≤ 2199023255552) (hs : ShOn W s base S F) (h1 : S.name = nm2) (h2 : S.tiers = lt) (h3 : S.srcs = srcs o l fl lt) (hd : i64 S.done) (hl : ∀ m ∈ S.tabs, m.length ≤ 1000000) (hat : atV lt S.done = ((2, 0, 0), true)) :
  Calls Tryz.prog 57 #[.pointer (some ⟨s, 0, none⟩), .pointer (some ⟨t, 0, none⟩)] W fun r w' => ((agreesB S (buildX X nm2 lt (srcs o l fl lt)) = true → r = .returned (.tuple #[stepVal (2, 0, 0), .pointer none, .int .i64 0]) ∧ ShOn w' s base { S with done := S.done + 1 } F) ∧ (agreesB S (buildX X nm2 lt (srcs o l fl lt)) = false → r = .returned (.tuple #[stepVal (0, 0, 0), .pointer none, .int .i64 7]) ∧ ShOn w' s base S F)) ∧ Fr F W w' := by
 obtain ⟨A, c, B, d, T, ct, tb, hi, rfl⟩ := hs
 obtain ⟨n, hn0⟩ : ∃ n, lt.length = n := ⟨_, rfl⟩
 have hSn : S.tiers.length = n := by rw [h2, hn0]
 have hSm : S.srcs.length = n := by rw [h3]; unfold srcs; rw [List.length_map, hn0]
 have hfive := p2.five
 have HI := Lib.hid hi
 have htc : n ≤ c := by have := (own_any hi.tiers).1; omega
 have HBu : Hid (∀ W', Fr (fun _ => False) W W' → Calls Tryz.prog 86 #[.agg #[.string nm2, .slice A n c, .slice B n d], .pointer (some ⟨t, 0, none⟩)] W' fun r w' => (∃ t' F', r = .returned (.tuple #[.pointer (some ⟨t', 0, none⟩), .int .i64 0]) ∧ Tio nm2 lt (basesV X.now l fl (srcs o l fl lt) lt) W.heap.size w' t' (buildX X nm2 lt (srcs o l fl lt)) F' cc ∧ ∀ j, F' j → W'.heap.size ≤ j) ∧ Below W'.heap.size W' w') := fun W' f => by
  have q1 := (own_any (HI.out.fr0 f).tiers).2.2.1
  have q2 := (own_any (HI.out.fr0 f).srcs).2.2.1
  rw [hSn, h2] at q1
  rw [hSm, h3] at q2
  exact tio_build p p2 hnm2 (h.fr0 f) hc hfl A n c B d q1 htc q2 W.heap.size f.size
 have HNx : Hid (∀ W', Fr (fun _ => False) W W' → Calls Tryz.prog 99 #[.pointer (some ⟨s, 0, none⟩)] W' fun r w' => r = .returned (.tuple #[.agg #[.int .i64 2, .int .i64 0, .int .i64 0], .bool true]) ∧ Below W'.heap.size W' w') := fun W' f =>
  snext_any s base S ((2, 0, 0), true) W' ⟨A, c, B, d, T, ct, tb, HI.out.fr0 f⟩ hd (by rw [h2]; exact fun x hx => (check_mem p2.ck hx).2.2.2.2.2) (by omega) (by rw [h2]; exact hat)
 have HCs : Hid (∀ {W' : World} {G : Nat → Prop}, Fr G W W' → ¬ G s → W'.cell? ⟨s, 0, none⟩ = some (.string nm2) ∧ W'.cell? ⟨s, 1, none⟩ = some (.slice A n c) ∧ W'.cell? ⟨s, 2, none⟩ = some (.slice B n d) ∧ W'.cell? ⟨s, 4, none⟩ = some (.int .i64 S.done) ∧ W'.cell? ⟨s, 5, none⟩ = some (.slice T n ct)) := fun f hg => by
  obtain ⟨c0, c1, c2, _, c4, c5⟩ := HI.out.cells f hg
  rw [h1] at c0
  rw [hSn] at c1 c5
  rw [hSm] at c2
  exact ⟨c0, c1, c2, c4, c5⟩
 obtain ⟨rb, hrb⟩ : ∃ v, W.heap.size = v := ⟨_, rfl⟩
 obtain ⟨W0, hW0⟩ : ∃ W0, W0 = W.alloc (.cells #[.int .i64 0, .int .i64 0, .int .i64 0] 54) := ⟨_, rfl⟩
 have HW0 := Lib.hid hW0
 have F0 : Hid (Fr (fun _ => False) W W0) := by show Fr _ _ _; rw [hW0]; exact Fr.none_alloc _ _
 have B0 : Hid (Blk W0 rb 54 #[.int .i64 0, .int .i64 0, .int .i64 0]) := by show Blk _ _ _ _; rw [hW0, ← hrb]; exact Blk.new _ _ _
 obtain ⟨bs, hbs⟩ : ∃ v, basesV X.now l fl (srcs o l fl lt) lt = v := ⟨_, rfl⟩
 obtain ⟨Y, hY⟩ : ∃ v, buildX X nm2 lt (srcs o l fl lt) = v := ⟨_, rfl⟩
 have HYt : Hid (Y.tiers = lt) := by show _ = _; rw [← hY]; rfl
 rw [hbs, hY] at HBu
 rw [hY]
 have Hrb := Lib.hid hrb
 have Hn0 := Lib.hid hn0
 have HSn := Lib.hid hSn
 have Ht := Lib.hid h2
 have Hl := Lib.hid hl
 have hsW : s < W.heap.size := hi.blk.lt
 rw [hrb] at hsW HBu
 have c0 := fun o => (HCs.out (Fr.none_alloc W o) (fun h => h)).1
 have c1 := fun o => (HCs.out (Fr.none_alloc W o) (fun h => h)).2.1
 have c2 := fun o => (HCs.out (Fr.none_alloc W o) (fun h => h)).2.2.1
 have HBb : Hid (buildX X nm2 lt (srcs o l fl lt) = Y) := hY
 clear hi hn0 hSm hW0 hbs hY hrb h1 h2 h3 h hl hSn
 go_enter Tryz.func57, Tryz.ntmps57
 go_wp2_with fail
 rw [← HW0.out]
 try rw [Hrb.out]
 refine (HBu.out _ F0.out).mono ?_
 rintro r w1 ⟨⟨u, Fu, rfl, T1, _⟩, b1⟩
 have F1 := Lib.hid (F0.out.trans (Fr.b0 b1) (fun _ h => h.elim))
 have B1 := Lib.hid (B0.out.below b1)
 have HT1 := Lib.hid T1
 clear T1 b1 HBu c0 c1 c2
 go_wp2_with fail
 refine (HNx.out _ F1.out).mono ?_
 rintro r w2 ⟨rfl, b2⟩
 have F2 := Lib.hid (F1.out.trans (Fr.b0 b2) (fun _ h => h.elim))
 have B2 := Lib.hid (B1.out.below b2)
 have HT2 := Lib.hid (HT1.out.fr0 (Fr.b0 b2))
 clear b2 HNx
 obtain ⟨vb, hvb⟩ : ∃ v, w2.heap.size = v := ⟨_, rfl⟩
 obtain ⟨w8, hw8⟩ : ∃ v, v = w2.alloc (.cells #[.int .i64 2, .int .i64 0, .int .i64 0] 54) := ⟨_, rfl⟩
 have B8 : Hid (Blk w8 rb 54 #[.int .i64 0, .int .i64 0, .int .i64 0]) := by show Blk _ _ _ _; rw [hw8]; exact B2.out.alloc _
 have V8 : Hid (Blk w8 vb 54 #[.int .i64 2, .int .i64 0, .int .i64 0]) := by show Blk _ _ _ _; rw [hw8, ← hvb]; exact Blk.new _ _ _
 have F8 : Hid (Fr (fun _ => False) W w8) := by show Fr _ _ _; rw [hw8]; exact F2.out.trans (Fr.none_alloc _ _) (fun _ h => h.elim)
 have HT8 : Hid (Tio nm2 lt bs rb w8 u Y Fu cc) := by show Tio _ _ _ _ _ _ _ _ _; rw [hw8]; exact HT2.out.fr0 (Fr.none_alloc _ _)
 have hrv : rb < vb := by rw [← hvb]; exact B2.out.lt
 have HW8 := Lib.hid hw8
 clear hw8 HT1 HT2 B1 B2 B0
 go_wp2_with fail
 rw [← HW8.out]
 try rw [hvb]
 have v0 := V8.out.cell 0
 simp only [List.getElem?_toArray, List.getElem?_cons_succ, List.getElem?_cons_zero] at v0
 have hdn : 0 ≤ S.done ∧ S.done < 100 := by
  have h8 : ∀ t ∈ lt, t.shards ≤ 8 := fun x hx => (check_mem p2.ck hx).2.2.2.2.2
  have hf := fillsV_in h8
  have hst : stepsV lt ≤ fillsV lt + 2 := by unfold stepsV; split <;> omega
  unfold atV at hat
  split at hat
  ·simp at hat
  ·omega
 have hdw : IntKind.i64.wrap (S.done + 1) = S.done + 1 := by simp [IntKind.wrap, IntKind.signed, IntKind.bits]; omega
 have HAg : Hid (Calls Tryz.prog 103 #[.pointer (some ⟨s, 0, none⟩), .pointer (some ⟨u, 0, none⟩)] w8 fun r w' => r = .returned (.bool (agreesB S Y)) ∧ Below w8.heap.size w8 w') := sagrees_any p2 s base S u rb Y Fu cc w8 ⟨_, _, _, _, _, _, _, HI.out.fr0 F8.out⟩ Ht.out Hl.out HT8.out hc
 obtain ⟨ab, hab⟩ : ∃ v, agreesB S Y = v := ⟨_, rfl⟩
 have Hab := Lib.hid hab
 rw [hab] at HAg
 clear hat hab
 go_wp2_with fail
 refine HAg.out.mono ?_
 rintro r w14 ⟨rfl, b14⟩
 have G14 : Hid (Fr (fun _ => False) w8 w14) := Fr.b0 b14
 have I14 := Lib.hid ((HI.out.fr0 F8.out).fr0 G14.out)
 have B14 := Lib.hid (B8.out.below b14)
 have V14 := Lib.hid (V8.out.below b14)
 clear b14
 cases ab with
 | false =>
  have BD := B14.out
  have y0 := BD.cell 0
  have y1 := BD.cell 1
  have y2 := BD.cell 2
  have z0 := BD.frozen 0
  have z1 := BD.frozen 1
  have z2 := BD.frozen 2
  simp only [List.getElem?_toArray, List.getElem?_cons_succ, List.getElem?_cons_zero] at y0 y1 y2
  have BE := Lib.hid (BD.set3 (a := .int .i64 0) (b := .int .i64 0) (c := .int .i64 0))
  have FE : Hid (Fr (fun i => i = rb) w14 (((w14.setCell ⟨rb, 0, none⟩ (.int .i64 0)).setCell ⟨rb, 1, none⟩ (.int .i64 0)).setCell ⟨rb, 2, none⟩ (.int .i64 0))) := (Fr.refl (fun i => i = rb) w14).set3 (.inl rfl) _ _ _
  have IE : Hid (ShOn (((w14.setCell ⟨rb, 0, none⟩ (.int .i64 0)).setCell ⟨rb, 1, none⟩ (.int .i64 0)).setCell ⟨rb, 2, none⟩ (.int .i64 0)) s base S (tF s tb)) :=
   ShOn.fr ⟨_, _, _, _, _, _, _, I14.out, rfl⟩ FE.out (fun i hi => by subst hi; exact .inr ⟨_, (0, 0), 54, BD, by decide, by decide, by decide, by decide⟩) (fun i hi e => by
    have hK := ShOn.ge (F := tF s tb) (w := W) ⟨_, _, _, _, _, _, _, HI.out, rfl⟩ i hi
    rw [Hrb.out] at hK
    omega)
  have FALL : Hid (Fr (tF s tb) W (((w14.setCell ⟨rb, 0, none⟩ (.int .i64 0)).setCell ⟨rb, 1, none⟩ (.int .i64 0)).setCell ⟨rb, 2, none⟩ (.int .i64 0))) :=
   (((F8.out.trans G14.out (fun _ h => h.elim)).mono (fun _ h => h.elim))).trans FE.out (fun i hi => .inr (by rw [hi, Hrb.out]; exact Nat.le_refl _))
  have e0 := BE.out.cell 0
  have e1 := BE.out.cell 1
  have e2 := BE.out.cell 2
  simp only [List.getElem?_toArray, List.getElem?_cons_succ, List.getElem?_cons_zero] at e0 e1 e2
  clear I14 B14 V14 BD
  go_wp2_with fail
  refine bodyPost_ret (v := .tuple #[stepVal (0, 0, 0), .pointer none, .int .i64 7]) ?_ rfl ⟨⟨fun h => absurd h (by rw [Hab.out]; simp), fun _ => ⟨rfl, IE.out⟩⟩, FALL.out⟩
  simp [results, Tryz.results57, go_sem, stepVal, e0, e1, e2]
 | true =>
 obtain ⟨_, _, _, _, z4, _⟩ := I14.out.cells (Fr.refl (fun _ => False) w14) (fun h => h)
 have zf := I14.out.blk.frozen 4
 have fD : Fr (fun i => i = s) w14 (w14.setCell ⟨s, 4, none⟩ (.int .i64 (S.done + 1))) := (Fr.refl (fun i => i = s) w14).setCell (p := ⟨s, 4, none⟩) (.inl rfl) _
 have ID : Hid (ShIn (w14.setCell ⟨s, 4, none⟩ (.int .i64 (S.done + 1))) s base { S with done := S.done + 1 } A c B d T ct tb) := I14.out.setDone (S.done + 1)
 have BD := B14.out.fr fD (by omega)
 have VD := V14.out.fr fD (by omega)
 have BE := Lib.hid (BD.set3 (a := .int .i64 2) (b := .int .i64 0) (c := .int .i64 0))
 have FE : Hid (Fr (fun i => i = rb) (w14.setCell ⟨s, 4, none⟩ (.int .i64 (S.done + 1))) (((((w14.setCell ⟨s, 4, none⟩ (.int .i64 (S.done + 1)))).setCell ⟨rb, 0, none⟩ (.int .i64 2)).setCell ⟨rb, 1, none⟩ (.int .i64 0)).setCell ⟨rb, 2, none⟩ (.int .i64 0))) := (Fr.refl (fun i => i = rb) (w14.setCell ⟨s, 4, none⟩ (.int .i64 (S.done + 1)))).set3 (.inl rfl) _ _ _
 have IE : Hid (ShOn (((((w14.setCell ⟨s, 4, none⟩ (.int .i64 (S.done + 1)))).setCell ⟨rb, 0, none⟩ (.int .i64 2)).setCell ⟨rb, 1, none⟩ (.int .i64 0)).setCell ⟨rb, 2, none⟩ (.int .i64 0)) s base { S with done := S.done + 1 } (tF s tb)) :=
  ShOn.fr ⟨_, _, _, _, _, _, _, ID.out, rfl⟩ FE.out (fun i hi => by subst hi; exact .inr ⟨_, (0, 0), 54, BD, by decide, by decide, by decide, by decide⟩) (fun i hi e => by
   have hK := ShOn.ge (F := tF s tb) (w := W) ⟨_, _, _, _, _, _, _, HI.out, rfl⟩ i hi
   rw [Hrb.out] at hK
   omega)
 have FALL : Hid (Fr (tF s tb) W (((((w14.setCell ⟨s, 4, none⟩ (.int .i64 (S.done + 1)))).setCell ⟨rb, 0, none⟩ (.int .i64 2)).setCell ⟨rb, 1, none⟩ (.int .i64 0)).setCell ⟨rb, 2, none⟩ (.int .i64 0))) :=
  (((F8.out.mono (fun _ h => h.elim)).trans G14.out (fun _ h => h.elim)).trans fD (fun i hi => .inl (.inl hi))).trans FE.out (fun i hi => .inr (by rw [hi, Hrb.out]; exact Nat.le_refl _))
 have x0 := VD.cell 0
 have x1 := VD.cell 1
 have x2 := VD.cell 2
 have y0 := BD.cell 0
 have y1 := BD.cell 1
 have y2 := BD.cell 2
 have z0 := BD.frozen 0
 have z1 := BD.frozen 1
 have z2 := BD.frozen 2
 simp only [List.getElem?_toArray, List.getElem?_cons_succ, List.getElem?_cons_zero] at x0 x1 x2 y0 y1 y2
 have e0 := BE.out.cell 0
 have e1 := BE.out.cell 1
 have e2 := BE.out.cell 2
 simp only [List.getElem?_toArray, List.getElem?_cons_succ, List.getElem?_cons_zero] at e0 e1 e2
 clear I14 B14 V14 fD BD VD
 go_wp2_with fail
 refine bodyPost_ret (v := .tuple #[stepVal (2, 0, 0), .pointer none, .int .i64 0]) ?_ rfl ⟨⟨fun _ => ⟨rfl, IE.out⟩, fun h => absurd h (by rw [Hab.out]; simp)⟩, FALL.out⟩
 simp [results, Tryz.results57, go_sem, stepVal, e0, e1, e2]
end Go.Proofs.YtkfdgodngbinlaaGreatDoor
namespace Go.Proofs.YtkfdgodngbinlaaGreatDoor
set_option linter.all false
open Go.RowKit

def cutK (S : ShX) (Y : TiersX) (k : Nat) : TiersX := (List.range k).foldl (fun Z i => loadX Z i (S.tabs.getD i [])) (newX Y.name Y.tiers Y.now Y.floors)
theorem cutK_succ (S : ShX) (Y : TiersX) (k : Nat) : cutK S Y (k + 1) = loadX (cutK S Y k) k (S.tabs.getD k []) := by
 unfold cutK
 rw [List.range_succ, List.foldl_append]
 rfl
section
variable {nm : ByteArray} {l : List TierV} {fl : List Int} {o : Int} {lo lo2 : Nat} {W W' : World} {t : Nat} {X : TiersX} {F G : Nat → Prop} {c : Nat}
theorem Tio.frK (h : Tio nm l fl lo W t X F c) (hf : Fr G W W') (hG : ∀ j, G j → (∃ es ck, W.heap[j]? = some (.map es ck)) ∨ (∃ cs fz ty, W.heap[j]? = some (.cells cs ty fz) ∧ ty ≠ 109 ∧ ty ≠ 3 ∧ ty ≠ 107 ∧ ty ≠ 189)) (hd : ∀ j, F j → ¬ G j) : Tio nm l fl lo W' t X F c := by
 obtain ⟨b, hb, ho⟩ := h.on
 exact ⟨⟨b, hb, ho.frSh hf hG hd⟩, h.good⟩
theorem Tio.lower (h : Tio nm l fl lo W t X F c) (hl : lo2 ≤ lo) : Tio nm l fl lo2 W t X F c := by
 obtain ⟨b, hb, ho⟩ := h.on
 exact ⟨⟨b, Nat.le_trans hl hb, ho⟩, h.good⟩
theorem tio_load (p : PolOk nm l) (h : Tio nm l fl lo W t X F c) (hc : c ≤ 100000000) (k : Nat) (hk : k < l.length) (rs : List RecV) (D : Option Addr) (n e : Nat) (hr : Rd W 7 D n (rcells rs)) (hrw : ∀ r ∈ rs, r.wf) (hn : n ≤ 100000000) :
  Calls Tryz.prog 104 #[.pointer (some ⟨t, 0, none⟩), .int .i64 k, .slice D n e] W fun r w' => r = .returned (.int .i64 (loadN X k rs : Nat)) ∧ Tio nm l fl lo w' t (loadX X k rs) F (c + rs.length) ∧ Fr F W w' := by
 obtain ⟨base, hb, ho⟩ := h.on
 refine (tload_in t base X F k rs D n e W ho (by rw [h.good.tiers]; exact hk) (h.five p) (h.short hc) hn h.good.now (h.wf p) hr hrw).mono ?_
 rintro r w' ⟨rfl, h1, h2⟩
 exact ⟨rfl, ⟨⟨base, hb, h1⟩, h.good.load k rs⟩, h2.mono (fun _ h => .inl h.1)⟩
end
set_option maxRecDepth 100000 in
set_option maxHeartbeats 8000000 in
theorem sstep_cut {nm nm2 : ByteArray} {l lt : List TierV} {fl : List Int} {o : Int} {lo : Nat} {W : World} {t s base : Nat} {X : TiersX} {S : ShX} {Ft F : Nat → Prop} {cc : Nat} (p : PolOk nm l) (p2 : PolOk nm2 lt) (hnm2 : nm2.size ≤ maxLen) (h : Tio nm l fl lo W t X Ft cc) (hc : cc ≤ 1000000) (hfl : ∀ f ∈ fl, 0 ≤ f ∧ f ≤ 2199023255552) (hs : ShOn W s base S F) (h1 : S.name = nm2) (h2 : S.tiers = lt) (h3 : S.srcs = srcs o l fl lt) (hd : i64 S.done) (hl : ∀ m ∈ S.tabs, m.length ≤ 1000000) (hat : atV lt S.done = ((3, 0, 0), true)) :
  Calls Tryz.prog 57 #[.pointer (some ⟨s, 0, none⟩), .pointer (some ⟨t, 0, none⟩)] W fun r w' => (∃ ot Fo, r = .returned (.tuple #[stepVal (3, 0, 0), .pointer (some ⟨ot, 0, none⟩), .int .i64 0]) ∧ Tio nm2 lt (basesV X.now l fl (srcs o l fl lt) lt) W.heap.size w' ot (cutK S (buildX X nm2 lt (srcs o l fl lt)) lt.length) Fo (lt.length * 1000000) ∧ ∀ i, Fo i → W.heap.size ≤ i) ∧ ShOn w' s base { S with done := S.done + 1 } F ∧ Fr F W w' := by
 obtain ⟨A, c, B, d, T, ct, tb, hi, rfl⟩ := hs
 obtain ⟨n, hn0⟩ : ∃ n, lt.length = n := ⟨_, rfl⟩
 have hSn : S.tiers.length = n := by rw [h2, hn0]
 have hSm : S.srcs.length = n := by rw [h3]; unfold srcs; rw [List.length_map, hn0]
 have hfive := p2.five
 have HI := Lib.hid hi
 have htc : n ≤ c := by have := (own_any hi.tiers).1; omega
 have HBu : Hid (∀ W', Fr (fun _ => False) W W' → Calls Tryz.prog 86 #[.agg #[.string nm2, .slice A n c, .slice B n d], .pointer (some ⟨t, 0, none⟩)] W' fun r w' => (∃ t' F', r = .returned (.tuple #[.pointer (some ⟨t', 0, none⟩), .int .i64 0]) ∧ Tio nm2 lt (basesV X.now l fl (srcs o l fl lt) lt) W.heap.size w' t' (buildX X nm2 lt (srcs o l fl lt)) F' cc ∧ ∀ j, F' j → W'.heap.size ≤ j) ∧ Below W'.heap.size W' w') := fun W' f => by
  have q1 := (own_any (HI.out.fr0 f).tiers).2.2.1
  have q2 := (own_any (HI.out.fr0 f).srcs).2.2.1
  rw [hSn, h2] at q1
  rw [hSm, h3] at q2
  exact tio_build p p2 hnm2 (h.fr0 f) hc hfl A n c B d q1 htc q2 W.heap.size f.size
 have HNx : Hid (∀ W', Fr (fun _ => False) W W' → Calls Tryz.prog 99 #[.pointer (some ⟨s, 0, none⟩)] W' fun r w' => r = .returned (.tuple #[.agg #[.int .i64 3, .int .i64 0, .int .i64 0], .bool true]) ∧ Below W'.heap.size W' w') := fun W' f =>
  snext_any s base S ((3, 0, 0), true) W' ⟨A, c, B, d, T, ct, tb, HI.out.fr0 f⟩ hd (by rw [h2]; exact fun x hx => (check_mem p2.ck hx).2.2.2.2.2) (by omega) (by rw [h2]; exact hat)
 have HCs : Hid (∀ {W' : World} {G : Nat → Prop}, Fr G W W' → ¬ G s → W'.cell? ⟨s, 0, none⟩ = some (.string nm2) ∧ W'.cell? ⟨s, 1, none⟩ = some (.slice A n c) ∧ W'.cell? ⟨s, 2, none⟩ = some (.slice B n d) ∧ W'.cell? ⟨s, 4, none⟩ = some (.int .i64 S.done) ∧ W'.cell? ⟨s, 5, none⟩ = some (.slice T n ct)) := fun f hg => by
  obtain ⟨c0, c1, c2, _, c4, c5⟩ := HI.out.cells f hg
  rw [h1] at c0
  rw [hSn] at c1 c5
  rw [hSm] at c2
  exact ⟨c0, c1, c2, c4, c5⟩
 obtain ⟨rb, hrb⟩ : ∃ v, W.heap.size = v := ⟨_, rfl⟩
 obtain ⟨W0, hW0⟩ : ∃ W0, W0 = W.alloc (.cells #[.int .i64 0, .int .i64 0, .int .i64 0] 54) := ⟨_, rfl⟩
 have HW0 := Lib.hid hW0
 have F0 : Hid (Fr (fun _ => False) W W0) := by show Fr _ _ _; rw [hW0]; exact Fr.none_alloc _ _
 have B0 : Hid (Blk W0 rb 54 #[.int .i64 0, .int .i64 0, .int .i64 0]) := by show Blk _ _ _ _; rw [hW0, ← hrb]; exact Blk.new _ _ _
 obtain ⟨bs, hbs⟩ : ∃ v, basesV X.now l fl (srcs o l fl lt) lt = v := ⟨_, rfl⟩
 obtain ⟨Y, hY⟩ : ∃ v, buildX X nm2 lt (srcs o l fl lt) = v := ⟨_, rfl⟩
 have HYt : Hid (Y.tiers = lt) := by show _ = _; rw [← hY]; rfl
 rw [hbs, hY] at HBu
 rw [hY]
 have Hrb := Lib.hid hrb
 have Hn0 := Lib.hid hn0
 have HSn := Lib.hid hSn
 have Ht := Lib.hid h2
 have Hl := Lib.hid hl
 have hsW : s < W.heap.size := hi.blk.lt
 rw [hrb] at hsW HBu
 have c0 := fun o => (HCs.out (Fr.none_alloc W o) (fun h => h)).1
 have c1 := fun o => (HCs.out (Fr.none_alloc W o) (fun h => h)).2.1
 have c2 := fun o => (HCs.out (Fr.none_alloc W o) (fun h => h)).2.2.1
 have HBb : Hid (buildX X nm2 lt (srcs o l fl lt) = Y) := hY
 rw [hbs]
 have HBl : Hid (bs.length ≤ n) := by show _ ≤ _; rw [← hbs]; unfold basesV; rw [List.length_zipWith, hn0]; exact Nat.min_le_right _ _
 have HNz : Hid (newE nm2 lt Y.now bs = 0) := by
  have hq := build_ok (o := o) p.ck h.good hfl p2.ck
  unfold buildE at hq
  rw [if_pos (by rw [h.good.tiers]; exact build_fits p.ck h.good.now hfl p2.ck)] at hq
  rw [h.good.tiers, h.good.floors, hbs] at hq
  show newE nm2 lt Y.now bs = 0
  rw [← hY]
  exact hq
 clear hi hn0 hSm hW0 hbs hY hrb h1 h2 h3 h hl hSn
 go_enter Tryz.func57, Tryz.ntmps57
 go_wp2_with fail
 rw [← HW0.out]
 try rw [Hrb.out]
 refine (HBu.out _ F0.out).mono ?_
 rintro r w1 ⟨⟨u, Fu, rfl, T1, _⟩, b1⟩
 have F1 := Lib.hid (F0.out.trans (Fr.b0 b1) (fun _ h => h.elim))
 have B1 := Lib.hid (B0.out.below b1)
 have HT1 := Lib.hid T1
 clear T1 b1 HBu c0 c1 c2
 go_wp2_with fail
 refine (HNx.out _ F1.out).mono ?_
 rintro r w2 ⟨rfl, b2⟩
 have F2 := Lib.hid (F1.out.trans (Fr.b0 b2) (fun _ h => h.elim))
 have B2 := Lib.hid (B1.out.below b2)
 have HT2 := Lib.hid (HT1.out.fr0 (Fr.b0 b2))
 clear b2 HNx
 obtain ⟨vb, hvb⟩ : ∃ v, w2.heap.size = v := ⟨_, rfl⟩
 obtain ⟨w8, hw8⟩ : ∃ v, v = w2.alloc (.cells #[.int .i64 3, .int .i64 0, .int .i64 0] 54) := ⟨_, rfl⟩
 have B8 : Hid (Blk w8 rb 54 #[.int .i64 0, .int .i64 0, .int .i64 0]) := by show Blk _ _ _ _; rw [hw8]; exact B2.out.alloc _
 have V8 : Hid (Blk w8 vb 54 #[.int .i64 3, .int .i64 0, .int .i64 0]) := by show Blk _ _ _ _; rw [hw8, ← hvb]; exact Blk.new _ _ _
 have F8 : Hid (Fr (fun _ => False) W w8) := by show Fr _ _ _; rw [hw8]; exact F2.out.trans (Fr.none_alloc _ _) (fun _ h => h.elim)
 have HT8 : Hid (Tio nm2 lt bs rb w8 u Y Fu cc) := by show Tio _ _ _ _ _ _ _ _ _; rw [hw8]; exact HT2.out.fr0 (Fr.none_alloc _ _)
 have hrv : rb < vb := by rw [← hvb]; exact B2.out.lt
 have HW8 := Lib.hid hw8
 clear hw8 HT1 HT2 B1 B2 B0
 go_wp2_with fail
 rw [← HW8.out]
 try rw [hvb]
 have v0 := V8.out.cell 0
 simp only [List.getElem?_toArray, List.getElem?_cons_succ, List.getElem?_cons_zero] at v0
 have hdn : 0 ≤ S.done ∧ S.done < 100 := by
  have h8 : ∀ t ∈ lt, t.shards ≤ 8 := fun x hx => (check_mem p2.ck hx).2.2.2.2.2
  have hf := fillsV_in h8
  have hst : stepsV lt ≤ fillsV lt + 2 := by unfold stepsV; split <;> omega
  unfold atV at hat
  split at hat
  ·simp at hat
  ·omega
 have hdw : IntKind.i64.wrap (S.done + 1) = S.done + 1 := by simp [IntKind.wrap, IntKind.signed, IntKind.bits]; omega
 obtain ⟨tA, tc, tB, td, hR⟩ := HT8.out.reach
 obtain ⟨mf, hmf⟩ : ∃ n, bs.length = n := ⟨_, rfl⟩
 have hmfn : mf ≤ n := by rw [← hmf]; exact HBl.out
 have hn5 : n ≤ 5 := by have := Hn0.out; omega
 have HCu : Hid (∀ {W9 : World}, Fr (fun _ => False) w8 W9 → W9.cell? ⟨u, 0, none⟩ = some (.int .i64 Y.now) ∧ W9.cell? ⟨u, 1, none⟩ = some (.string nm2) ∧ W9.cell? ⟨u, 2, none⟩ = some (.slice tA n tc) ∧ W9.cell? ⟨u, 3, none⟩ = some (.slice tB mf td)) := fun f => by
  have h := hR.fr0 f
  have h2 := h.c2
  have h3 := h.c3
  rw [Hn0.out] at h2
  rw [hmf] at h3
  exact ⟨h.c0, h.c1, h2, h3⟩
 have hYg := HT8.out.good
 have HNw : Hid (∀ W9, Fr (fun _ => False) w8 W9 → Calls Tryz.prog 42 #[.agg #[.string nm2, .slice tA n tc], .int .i64 Y.now, .slice tB mf td] W9 fun r w' => (∃ t' Fo, r = .returned (.tuple #[.pointer (some ⟨t', 0, none⟩), .int .i64 0]) ∧ Tio nm2 lt bs W9.heap.size w' t' (cutK S Y 0) Fo 0) ∧ Below W9.heap.size W9 w') := fun W9 f => by
  have h := hR.fr0 f
  have h1 := h.rt
  have h2 := h.rf
  rw [Hn0.out] at h1
  rw [hmf] at h2
  have htc2 : n ≤ tc := by have := h.le; rw [Hn0.out] at this; exact this
  refine (tnew_any nm2 hnm2 lt tA n tc Y.now (by have := hYg.now; unfold i64; omega) bs tB mf td W9 h1 htc2 p2.wf (by omega) h2 (by omega)).mono ?_
  rintro r w' ⟨⟨h3, _⟩, hb⟩
  obtain ⟨t', h4, h5⟩ := h3 HNz.out
  obtain ⟨Fo, h6⟩ := h5.on
  have e : newX nm2 lt Y.now bs = cutK S Y 0 := by
   show newX nm2 lt Y.now bs = newX Y.name Y.tiers Y.now Y.floors
   rw [hYg.name, hYg.tiers, hYg.floors]
  have hg := GoodX.new HNz.out
  rw [e] at h6 hg
  exact ⟨⟨t', Fo, h4, ⟨⟨_, Nat.le_refl _, h6⟩, hg⟩⟩, hb⟩
 have HSo8 : Hid (ShOn w8 s base S (tF s tb)) := ⟨_, _, _, _, _, _, _, HI.out.fr0 F8.out, rfl⟩
 have hFlt : Hid (∀ i, tF s tb i → i < rb) := fun i hi => by
  have hK := ShOn.ge (F := tF s tb) (w := W) ⟨_, _, _, _, _, _, _, HI.out, rfl⟩ i hi
  rw [Hrb.out] at hK
  exact hK.2
 have hYtl : Hid (S.tabs.length = n) := by show _ = _; rw [HI.out.tlen, HSn.out]
 obtain ⟨nw, hnw⟩ : ∃ v, Y.now = v := ⟨_, rfl⟩
 rw [hnw] at HNw HCu
 have hv8 : rb < w8.heap.size := B8.out.lt
 clear hat hR hnw hYg HNz
 go_wp2_with fail
 refine wp_region_held_drew (S := fun W_ => Fr (fun _ => False) w8 W_) (by kernel_rfl) ((Fr.refl _ w8).drew) (fun hHeld => ?_)
 refine tq 15 [0,1,2,3,4,5,6,7,8,9,10,11,12,13,14] ?_
 iterate 14 refine sf (fun W hSw => HCu.out hSw) ?_
 refine sf (fun W hSw => HCu.out hSw) ?_
 try simp only [Act.put, sA, sB, sC]
 refine sz ?_
 try simp only [Act.put, sA, sB, sC]
 refine rl 15 rfl (fun K hK => ?_)
 go_simp
 go_wp2_with (first | (go_at_call 42; refine (HNw.out _ hHeld).mono ?_; rintro r w9 ⟨⟨ot, Fo, rfl, To⟩, b9⟩))
 have To := Lib.hid To
 refine hK.out _ _ (hHeld.trans (Fr.b0 b9) (fun _ h => h.elim)) (fun hHeld => ?_)
 clear hK K
 refine tq 4 [16,17,18,19] ?_
 iterate 3 refine sf (fun W hSw => HCu.out hSw) ?_
 refine sf (fun W hSw => HCu.out hSw) ?_
 try simp only [Act.put, sA, sB, sC]
 refine sz ?_
 try simp only [Act.put, sA, sB, sC]
 refine wpAnyH_done (by kernel_rfl) ?_ _
 have G9 := Lib.hid hHeld
 clear hHeld b9
 have To9 : Hid (Tio nm2 lt bs w8.heap.size w9 ot (cutK S Y 0) Fo 0) := To.out
 have HFo : Hid (∀ i, Fo i → w8.heap.size ≤ i) := fun i hi => (To.out.ge i hi).1
 obtain ⟨ad, rfl, hcr⟩ := (own_any HI.out.row).2.2.1.2 (show 0 < S.tiers.length by rw [HSn.out]; have := p2.pos; rw [Hn0.out] at this; exact this)
 have Hcr := Lib.hid hcr
 have hrW : W.heap.size = rb := Hrb.out
 have y5 := (HCs.out (F8.out.trans G9.out (fun _ h => h.elim)) (fun h => h)).2.2.2.2
 clear To hcr
 go_wp2_with fail
 go_loopw [115, 13] (fun i _ wr => ∃ k : Nat, k ≤ n ∧ i = .int .i64 k ∧ Fr Fo w9 wr ∧ Tio nm2 lt bs w8.heap.size wr ot (cutK S Y k) Fo (k * 1000000)) (fun i _ _ => n - (intOf i).toNat)
 case atStart => exact ⟨0, Nat.zero_le _, rfl, Fr.refl _ _, To9.out.more (by omega)⟩
 case round =>
  obtain ⟨k, hk, rfl, hf, hT⟩ := hrel
  have Hf := Lib.hid hf
  have HT := Lib.hid hT
  have FN : Hid (Fr (fun _ => False) W wr) := (F8.out.trans G9.out (fun _ h => h.elim)).trans hf (fun i hi => .inr (by have := HFo.out i hi; omega))
  have z5 := (HCs.out FN.out (fun h => h)).2.2.2.2
  clear hf hT
  by_cases hlt : k < n
  ·obtain ⟨g, b, x, L, t1, t2, t3, hT⟩ := (HI.out.fr0 FN.out).tabAt (k := k) (by rw [HSn.out]; exact hlt)
   have hLk : S.tabs.getD k [] = L := by rw [List.getD_eq_getElem?_getD, t3]; rfl
   have hLl := Hl.out L (mem_of_get t3)
   have pk := FN.out.cell (Hcr.out k _ (ptrs_get t1)) (fun h => h)
   try simp only at pk
   have HA := Lib.hid (taball_any g x.every b L wr hT (by omega))
   have hLw := hT.own.wf
   have kn : 0 ≤ (k : Int) ∧ (k : Int) < (n : Int) := by omega
   have g0 : decide ((k : Int) < (n : Int)) = true := decide_eq_true (by omega)
   have hqw : IntKind.i64.wrap ((k : Int) + 1) = (k : Int) + 1 := by simp [IntKind.wrap, IntKind.signed, IntKind.bits]; omega
   have hcK : loadX (cutK S Y k) k L = cutK S Y (k + 1) := by rw [← hLk]; exact (cutK_succ S Y k).symm
   have HLd : Hid (∀ w10 A c, Fr (fun _ => False) wr w10 → Rd w10 7 A L.length (rcells L) → Calls Tryz.prog 104 #[.pointer (some ⟨ot, 0, none⟩), .int .i64 (k : Nat), .slice A L.length c] w10 fun r w' => (∃ v, r = .returned (.int .i64 v)) ∧ Tio nm2 lt bs w8.heap.size w' ot (cutK S Y (k + 1)) Fo ((k + 1) * 1000000) ∧ Fr Fo w10 w') := fun w10 A c f hr => by
    refine (tio_load p2 (HT.out.fr0 f) (by omega) k (by have := Hn0.out; omega) L A L.length c hr hLw (by omega)).mono ?_
    rintro r w' ⟨rfl, h1, h2⟩
    rw [hcK] at h1
    exact ⟨⟨_, rfl⟩, h1.more (by omega), h2⟩
   obtain ⟨nL, hnL⟩ : ∃ v, L.length = v := ⟨_, rfl⟩
   rw [hnL] at HA HLd
   clear t1 t2 t3 hT hLk hcK hLl hnL hLw
   go_wp2_with fail
   refine HA.out.mono ?_
   rintro r w10 ⟨⟨Aa, ca, rfl, oa⟩, b10⟩
   have HL2 := Lib.hid (HLd.out w10 Aa ca (Fr.b0 b10) (own_any oa).2.2.1)
   have F10 : Hid (Fr Fo w9 w10) := Hf.out.trans (Fr.b0 b10) (fun _ h => h.elim)
   clear oa b10 HA HLd
   go_wp2_with fail
   refine HL2.out.mono ?_
   rintro r w11 ⟨⟨v11, rfl⟩, T11, f11⟩
   have HT11 := Lib.hid T11
   have F11 : Hid (Fr Fo w9 w11) := F10.out.trans f11 (fun _ h => .inl h)
   clear T11 f11 HL2
   go_wp2_with fail
   go_roundw
   case rel => exact ⟨k + 1, by omega, by go_num, F11.out, HT11.out⟩
   case measure => simp [intOf]; omega
  ·obtain rfl : k = n := by omega
   have g0 : decide ((k : Int) < (k : Int)) = false := decide_eq_false (by omega)
   have G14 : Hid (Fr Fo w8 wr) := (G9.out.mono (fun _ h => h.elim)).trans Hf.out (fun _ h => .inl h)
   have I14 : Hid (ShIn wr s base S A c B d (some ad) ct tb) := HI.out.fr0 FN.out
   have B14 := Lib.hid (B8.out.fr G14.out (fun hh => by have := HFo.out _ hh; omega))
   have V14 := Lib.hid (V8.out.fr G14.out (fun hh => by have := HFo.out _ hh; have := V8.out.lt; omega))
   have HTk := Lib.hid HT.out
   obtain ⟨_, _, _, _, z4, _⟩ := I14.out.cells (Fr.refl (fun _ => False) wr) (fun h => h)
   have zf := I14.out.blk.frozen 4
   have fD : Fr (fun i => i = s) wr (wr.setCell ⟨s, 4, none⟩ (.int .i64 (S.done + 1))) := (Fr.refl (fun i => i = s) wr).setCell (p := ⟨s, 4, none⟩) (.inl rfl) _
   have ID : Hid (ShIn (wr.setCell ⟨s, 4, none⟩ (.int .i64 (S.done + 1))) s base { S with done := S.done + 1 } A c B d (some ad) ct tb) := I14.out.setDone (S.done + 1)
   have BD := B14.out.fr fD (by omega)
   have VD := V14.out.fr fD (by omega)
   have BE := Lib.hid (BD.set3 (a := .int .i64 3) (b := .int .i64 0) (c := .int .i64 0))
   have FE : Hid (Fr (fun i => i = rb) (wr.setCell ⟨s, 4, none⟩ (.int .i64 (S.done + 1))) (((((wr.setCell ⟨s, 4, none⟩ (.int .i64 (S.done + 1)))).setCell ⟨rb, 0, none⟩ (.int .i64 3)).setCell ⟨rb, 1, none⟩ (.int .i64 0)).setCell ⟨rb, 2, none⟩ (.int .i64 0))) := (Fr.refl (fun i => i = rb) (wr.setCell ⟨s, 4, none⟩ (.int .i64 (S.done + 1)))).set3 (.inl rfl) _ _ _
   have IE : Hid (ShOn (((((wr.setCell ⟨s, 4, none⟩ (.int .i64 (S.done + 1)))).setCell ⟨rb, 0, none⟩ (.int .i64 3)).setCell ⟨rb, 1, none⟩ (.int .i64 0)).setCell ⟨rb, 2, none⟩ (.int .i64 0)) s base { S with done := S.done + 1 } (tF s tb)) :=
    ShOn.fr ⟨_, _, _, _, _, _, _, ID.out, rfl⟩ FE.out (fun i hi => by subst hi; exact .inr ⟨_, (0, 0), 54, BD, by decide, by decide, by decide, by decide⟩) (fun i hi e => by
     have hK := ShOn.ge (F := tF s tb) (w := W) ⟨_, _, _, _, _, _, _, HI.out, rfl⟩ i hi
     rw [Hrb.out] at hK
     omega)
   have FALL : Hid (Fr (tF s tb) W (((((wr.setCell ⟨s, 4, none⟩ (.int .i64 (S.done + 1)))).setCell ⟨rb, 0, none⟩ (.int .i64 3)).setCell ⟨rb, 1, none⟩ (.int .i64 0)).setCell ⟨rb, 2, none⟩ (.int .i64 0))) :=
    (((F8.out.mono (fun _ h => h.elim)).trans G14.out (fun i hi => .inr (by have := HFo.out i hi; omega))).trans fD (fun i hi => .inl (.inl hi))).trans FE.out (fun i hi => .inr (by rw [hi, Hrb.out]; exact Nat.le_refl _))
   have ToE : Hid (Tio nm2 lt bs w8.heap.size (((wr.setCell ⟨s, 4, none⟩ (.int .i64 (S.done + 1))).setCell ⟨rb, 0, none⟩ (.int .i64 3)).setCell ⟨rb, 1, none⟩ (.int .i64 0) |>.setCell ⟨rb, 2, none⟩ (.int .i64 0)) ot (cutK S Y k) Fo (k * 1000000)) :=
    (HTk.out.frK fD (fun i hi => by subst hi; exact .inr ⟨_, (0, 0), 63, I14.out.blk, by decide, by decide, by decide, by decide⟩) (fun i hi e => by have := HFo.out i hi; omega)).frK FE.out (fun i hi => by subst hi; exact .inr ⟨_, (0, 0), 54, BD, by decide, by decide, by decide, by decide⟩) (fun i hi e => by have := HFo.out i hi; omega)
   clear HTk
   have x0 := VD.cell 0
   have x1 := VD.cell 1
   have x2 := VD.cell 2
   have y0 := BD.cell 0
   have y1 := BD.cell 1
   have y2 := BD.cell 2
   have z0 := BD.frozen 0
   have z1 := BD.frozen 1
   have z2 := BD.frozen 2
   simp only [List.getElem?_toArray, List.getElem?_cons_succ, List.getElem?_cons_zero] at x0 x1 x2 y0 y1 y2
   have e0 := BE.out.cell 0
   have e1 := BE.out.cell 1
   have e2 := BE.out.cell 2
   simp only [List.getElem?_toArray, List.getElem?_cons_succ, List.getElem?_cons_zero] at e0 e1 e2
   clear I14 B14 V14 fD BD VD
   go_wp2_with fail
   refine bodyPost_ret (v := .tuple #[stepVal (3, 0, 0), .pointer (some ⟨ot, 0, none⟩), .int .i64 0]) ?_ rfl ⟨⟨ot, Fo, rfl, (by rw [Hn0.out]; exact ToE.out.lower F8.out.size), fun i hi => Nat.le_trans F8.out.size (HFo.out i hi)⟩, IE.out, FALL.out⟩
   simp [results, Tryz.results57, go_sem, stepVal, e0, e1, e2]
end Go.Proofs.YtkfdgodngbinlaaGreatDoor
namespace Go.Proofs.YtkfdgodngbinlaaGreatDoor
set_option linter.all false
open Go.RowKit

def filB (lt : List TierV) (done : Int) (j : Nat) (s : ByteArray) : Bool :=
 match lt[j]? with
 | some y => decide (shardV s y.shards + fillsV (lt.take j) < done)
 | none => false
def unf (lt : List TierV) (done : Int) (j : Nat) (r : RecV) : Bool := !filB lt done j r.name
theorem unf_key (lt : List TierV) (done : Int) (j : Nat) : ∀ x y, skey x y → unf lt done j x = unf lt done j y := fun x y h => by unfold unf; rw [h.1]
def shL (lt : List TierV) (done : Int) (Y : List (List RecV)) (j : Nat) : List RecV := keepT (unf lt done j) (Y.getD j [])
def shT (lt : List TierV) (done : Int) (Y : List (List RecV)) : List (List RecV) := (List.range lt.length).map (shL lt done Y)
theorem shT_len (lt : List TierV) (done : Int) (Y : List (List RecV)) : (shT lt done Y).length = lt.length := by unfold shT; simp
theorem shT_get {lt : List TierV} {done : Int} {Y : List (List RecV)} {j : Nat} (hj : j < lt.length) : (shT lt done Y)[j]? = some (shL lt done Y j) := by unfold shT; rw [List.getElem?_map, List.getElem?_range hj]; rfl
theorem shT_getD {lt : List TierV} {done : Int} {Y : List (List RecV)} {j : Nat} (hj : j < lt.length) : (shT lt done Y).getD j [] = shL lt done Y j := by rw [List.getD_eq_getElem?_getD, shT_get hj]; rfl
theorem mem_keepT {so : RecV → Bool} {l : List RecV} {r : RecV} : r ∈ keepT so l ↔ r ∈ l ∧ so r = false := by unfold keepT; rw [List.mem_filter]; simp
theorem fills_le {lt : List TierV} (j : Nat) : 0 ≤ fillsV (lt.take j) ∧ fillsV (lt.take j) ≤ fillsV lt := by
 constructor
 ·have := fills_mono (l := lt) 0 j (Nat.zero_le _)
  simpa [fillsV] using this
 ·have h := fills_mono (l := lt) j (max j lt.length) (by omega)
  rwa [List.take_of_length_le (by omega : lt.length ≤ max j lt.length)] at h
theorem shard_lt {s : ByteArray} {M : Int} (h : 1 ≤ M) : 0 ≤ shardV s M ∧ shardV s M < M := by
 obtain ⟨j, e, hj⟩ := shardV_in2 s M h
 omega
theorem adds_mem {e : Int} : ∀ {l acc : List RecV}, goodL acc → Sorted l → (∀ r ∈ l, rightR e r = true) → (∀ r ∈ l, ∀ x ∈ acc, ¬ skey x r) → ∀ y, y ∈ addsV e acc l ↔ y ∈ acc ∨ y ∈ l
 | [], acc, _, _, _, _, y => by simp [addsV]
 | r :: l, acc, hg, hs, hr, hd, y => by
  have h1 := hr r (by simp)
  have ha : aggOk r.agg = true := by unfold rightR at h1; simp only [Bool.and_eq_true] at h1; exact h1.2
  have hm : ∀ z, z ∈ addV e acc r ↔ z = r ∨ z ∈ acc := fun z => by
   unfold addV
   rw [if_pos h1, mem_insR mgM hg.1]
   have hf : findA acc r = none := findA_none (hd r (by simp))
   have hn : newR mgM acc r = r := by
    unfold newR
    rw [hf, mgM_none ha]
   rw [hn]
   constructor
   ·rintro (h | h)
    ·exact .inl h
    ·exact .inr h.1
   ·rintro (h | h)
    ·exact .inl h
    ·exact .inr ⟨h, hd r (by simp) z h⟩
  show y ∈ addsV e (addV e acc r) l ↔ _
  rw [adds_mem (addV_good hg r) hs.tail (fun z hz => hr z (List.mem_cons_of_mem _ hz)) (fun z hz x hx hk => by
   rcases (hm x).1 hx with rfl | hx
   ·have hlt := (List.pairwise_cons.1 hs).1 z hz
    exact absurd hk (klt_ne hlt)
   ·exact hd z (List.mem_cons_of_mem _ hz) x hx hk), hm]
  simp only [List.mem_cons]
  constructor
  ·rintro ((h | h) | h)
   ·exact .inr (.inl h)
   ·exact .inl h
   ·exact .inr (.inr h)
  ·rintro (h | h | h)
   ·exact .inl (.inr h)
   ·exact .inl (.inl h)
   ·exact .inr h
section
variable {nm2 : ByteArray} {lt : List TierV} {Y : List (List RecV)} {done : Int}
theorem shT_zero : shT lt 0 Y = lt.map fun _ => [] := by
 unfold shT
 apply List.ext_getElem?
 intro j
 rw [List.getElem?_map, List.getElem?_map]
 by_cases hj : j < lt.length
 ·rw [List.getElem?_range hj, List.getElem?_eq_getElem hj]
  simp only [Option.map_some]
  congr 1
  unfold shL keepT
  rw [List.filter_eq_nil_iff]
  intro r _
  unfold unf filB
  have h1 := (shardV_in r.name lt[j].shards).1
  have h2 := (fills_le (lt := lt) j).1
  simp only [List.getElem?_eq_getElem hj]
  rw [decide_eq_false (by omega)]
  simp
 ·rw [List.getElem?_eq_none (by simpa using hj), List.getElem?_eq_none (by omega)]
  rfl
theorem shT_full (p2 : checkB nm2 lt = true) (hl : Y.length = lt.length) (hd : fillsV lt ≤ done) : shT lt done Y = Y := by
 unfold shT
 apply List.ext_getElem?
 intro j
 rw [List.getElem?_map]
 by_cases hj : j < lt.length
 ·rw [List.getElem?_range hj]
  simp only [Option.map_some]
  rw [List.getElem?_eq_getElem (by omega : j < Y.length)]
  congr 1
  unfold shL
  have e : Y.getD j [] = Y[j] := by rw [List.getD_eq_getElem?_getD, List.getElem?_eq_getElem (by omega : j < Y.length)]; rfl
  rw [e]
  unfold keepT
  rw [List.filter_eq_self]
  intro r _
  unfold unf filB
  simp only [List.getElem?_eq_getElem hj]
  have hm := check_mem p2 (List.getElem_mem hj)
  have h1 := shard_lt (s := r.name) hm.2.2.2.2.1
  have h2 := fills_snoc (l := lt) (List.getElem?_eq_getElem hj)
  have h3 := (fills_le (lt := lt) (j + 1)).2
  simp only [Bool.not_not, decide_eq_true_eq]
  omega
 ·rw [List.getElem?_eq_none (by simpa using hj), List.getElem?_eq_none (by omega)]
  rfl
theorem shT_fill (p2 : checkB nm2 lt = true) {j : Nat} {y : TierV} {k : Int} (hy : lt[j]? = some y) (hk : 0 ≤ k ∧ k < y.shards) (hd : done = fillsV (lt.take j) + k) (hg : goodL (Y.getD j [])) (hr : ∀ r ∈ Y.getD j [], rightR y.every r = true) :
  (shT lt done Y).set j (addsV y.every (keepT (inS k y.shards) (shL lt done Y j)) (keepT (notS k y.shards) (Y.getD j []))) = shT lt (done + 1) Y := by
 have hj : j < lt.length := (List.getElem?_eq_some_iff.1 hy).1
 apply List.ext_getElem?
 intro i
 by_cases e : j = i
 ·subst e
  rw [List.getElem?_set_self (by rw [shT_len]; exact hj), shT_get hj]
  congr 1
  have hacc : goodL (keepT (inS k y.shards) (shL lt done Y j)) := ⟨(hg.1.filter _).filter _, fun r h => hg.2 r (List.mem_filter.1 (List.mem_filter.1 h).1).1⟩
  refine Sorted.ext (addsV_sorted _ hacc.1) (hg.1.filter _) (fun r => ?_)
  rw [adds_mem (l := keepT (notS k y.shards) (Y.getD j [])) hacc (hg.1.filter _) (fun z hz => hr z (List.mem_filter.1 hz).1) (fun z hz x hx hkk => by
   have h1 := (mem_keepT.1 hx).2
   have h2 := (mem_keepT.1 hz).2
   unfold inS at h1
   unfold notS at h2
   rw [hkk.1] at h1
   rw [h1] at h2
   cases h2)]
  show _ ↔ r ∈ shL lt (done + 1) Y j
  unfold shL
  simp only [mem_keepT]
  unfold inS notS unf filB
  simp only [hy, decide_eq_false_iff_not, Bool.not_eq_false', decide_eq_true_eq]
  constructor
  ·rintro (⟨⟨h1, h2⟩, h3⟩ | ⟨h1, h2⟩)
   ·exact ⟨h1, by omega⟩
   ·exact ⟨h1, by omega⟩
  ·rintro ⟨h1, h2⟩
   by_cases h3 : shardV r.name y.shards = k
   ·exact .inr ⟨h1, h3⟩
   ·exact .inl ⟨⟨h1, by omega⟩, h3⟩
 ·rw [List.getElem?_set_ne e]
  by_cases hi : i < lt.length
  ·rw [shT_get hi, shT_get hi]
   congr 1
   unfold shL keepT
   refine List.filter_congr (fun r _ => ?_)
   unfold unf filB
   simp only [List.getElem?_eq_getElem hi]
   have hm := check_mem p2 (List.getElem_mem hi)
   have h1 := shard_lt (s := r.name) hm.2.2.2.2.1
   have h2 := fills_snoc (l := lt) (List.getElem?_eq_getElem hi)
   have h3 := fills_snoc hy
   congr 2
   rw [decide_eq_decide]
   rcases Nat.lt_or_gt_of_ne e with h4 | h4
   ·have h5 := fills_mono (l := lt) (j + 1) i h4
    omega
   ·have h5 := fills_mono (l := lt) (i + 1) j h4
    omega
  ·rw [List.getElem?_eq_none (by rw [shT_len]; omega), List.getElem?_eq_none (by rw [shT_len]; omega)]
theorem at_what (p2 : checkB nm2 lt = true) (h0 : 0 ≤ done) (h1 : done < stepsV lt) :
  (∃ (j : Nat) (y : TierV) (k : Int), lt[j]? = some y ∧ atV lt done = ((1, (j : Int), k), true) ∧ 0 ≤ k ∧ k < y.shards ∧ done = fillsV (lt.take j) + k ∧ done < fillsV lt) ∨
  (atV lt done = ((2, 0, 0), true) ∧ done = fillsV lt) ∨ (atV lt done = ((3, 0, 0), true) ∧ done = fillsV lt + 1) := by
 have hne : lt ≠ [] := by rintro rfl; have := check_len p2; simp at this
 have hst : stepsV lt = fillsV lt + 2 := by simp [stepsV, hne]
 have hl : ∀ t ∈ lt, 0 ≤ t.shards := fun t ht => by have := check_mem p2 ht; omega
 by_cases hlt : done < fillsV lt
 ·obtain ⟨j, y, hy, e, e0, e1⟩ := atGo_spec lt hl 0 done h0 hlt
  refine .inl ⟨j, y, done - fillsV (lt.take j), hy, ?_, e0, e1, by omega, hlt⟩
  unfold atV
  rw [if_neg (by omega), e]
  simp
 ·have hge : ∀ (l : List TierV) (i : Nat) (k : Int), (∀ t ∈ l, 0 ≤ t.shards) → fillsV l ≤ k → atGo k i l = if k - fillsV l = 0 then (2, 0, 0) else (3, 0, 0) := by
   intro l
   induction l with
   | nil => intro i k _ _; simp [atGo, fillsV]
   | cons a t ih =>
    intro i k hh hk
    have hf : fillsV (a :: t) = max a.shards 0 + fillsV t := by simp [fillsV]
    have ha := hh a (by simp)
    have ht0 : 0 ≤ fillsV t := by have := (fills_le (lt := t) t.length).1; rwa [List.take_length] at this
    unfold atGo
    rw [if_neg (by omega), ih (i + 1) (k - max a.shards 0) (fun x hx => hh x (List.mem_cons_of_mem _ hx)) (by omega), hf]
    have : k - max a.shards 0 - fillsV t = k - (max a.shards 0 + fillsV t) := by omega
    rw [this]
  have hg := hge lt 0 done hl (by omega)
  by_cases hz : done - fillsV lt = 0
  ·refine .inr (.inl ⟨?_, by omega⟩)
   unfold atV
   rw [if_neg (by omega), hg, if_pos hz]
  ·refine .inr (.inr ⟨?_, by omega⟩)
   unfold atV
   rw [if_neg (by omega), hg, if_neg hz]
end
section
variable {nm nm2 : ByteArray} {l lt : List TierV} {X : TiersX} {fl : List Int} {o : Int} {c : Nat}
def noteL (Y : TiersX) (done : Int) (s : SampV) (j : Nat) (m : List RecV) : List RecV :=
 match Y.tiers[j]? with
 | some y => if filB Y.tiers done j s.name && decide (fromV Y.now Y.tiers Y.floors j ≤ floorV s.time y.every) then addV y.every m ⟨s.name, floorV s.time y.every, aggOne s.value⟩ else m
 | none => m
def noteT (Y : TiersX) (done : Int) (tabs : List (List RecV)) (s : SampV) : List (List RecV) := (List.range Y.tiers.length).map fun j => noteL Y done s j (tabs.getD j [])
theorem noteL_step {Y : TiersX} {done : Int} {s : SampV} {j : Nat} {m : List RecV} (h0 : 0 ≤ s.time) (hj : j < Y.tiers.length) : noteL Y done s j m = if filB Y.tiers done j s.name then stepL Y s j m else m := by
 unfold noteL stepL startV
 rw [if_pos (⟨by omega, by omega, h0⟩ : 0 ≤ (j : Int) ∧ (j : Int) < (Y.tiers.length : Int) ∧ 0 ≤ s.time)]
 simp only [Int.toNat_natCast, fromI_nat hj, List.getElem?_eq_getElem hj]
 cases filB Y.tiers done j s.name <;> simp
theorem build_put (p : checkB nm l = true) (hg : GoodX nm l fl X c) (hfl : ∀ f ∈ fl, 0 ≤ f ∧ f ≤ 2199023255552) (p2 : checkB nm2 lt = true) {s : SampV} (hE : putE X [s] = 0) {j : Nat} (hj : j < lt.length) :
  (buildX (putX X [s]) nm2 lt (srcs o l fl lt)).tabs.getD j [] = stepL (buildX X nm2 lt (srcs o l fl lt)) s j ((buildX X nm2 lt (srcs o l fl lt)).tabs.getD j []) := by
 have hn := hg.now
 have hX : putX X [s] = { X with tabs := addT X X.tabs s } := by unfold putX; rw [if_pos hE]; rfl
 rw [hX, build_tab hj, build_tab hj]
 have hy : lt[j]? = some lt[j] := List.getElem?_eq_getElem hj
 obtain ⟨i, x, hx, hs, hd, hf, _⟩ := build_src (o := o) (X := X) p hn hfl p2 hy
 have hi := (List.getElem?_eq_some_iff.1 hx).1
 have hxX : X.tiers[i]? = some x := by rw [hg.tiers]; exact hx
 have hy1 := check_mem p2 (mem_of_get hy)
 unfold buildL
 rw [hs, hy]
 simp only [Int.toNat_natCast]
 rw [hxX]
 simp only
 rw [addT_getD, if_pos (by rw [hg.tiers]; exact hi)]
 unfold rollV
 simp only [if_pos hd, rolls_eq]
 exact roll_step (X := X) (Y := buildX X nm2 lt (srcs o l fl lt)) hxX hy (divides_dvd hd).1 hy1.1 (divides_dvd hd).2 (by rw [hg.tiers, hg.floors]; show _ ≤ fromV X.now lt (basesV X.now X.tiers X.floors _ lt) j; rw [hg.tiers, hg.floors]; exact hf) (hg.good i) s
theorem shT_note (p : checkB nm l = true) (hg : GoodX nm l fl X c) (hfl : ∀ f ∈ fl, 0 ≤ f ∧ f ≤ 2199023255552) (p2 : checkB nm2 lt = true) {s : SampV} (hE : putE X [s] = 0) (h0 : 0 ≤ s.time) (done : Int) :
  noteT (buildX (putX X [s]) nm2 lt (srcs o l fl lt)) done (shT lt done (buildX X nm2 lt (srcs o l fl lt)).tabs) s = shT lt done (buildX (putX X [s]) nm2 lt (srcs o l fl lt)).tabs := by
 have hX : putX X [s] = { X with tabs := addT X X.tabs s } := by unfold putX; rw [if_pos hE]; rfl
 unfold noteT
 rw [show (buildX (putX X [s]) nm2 lt (srcs o l fl lt)).tiers = lt from rfl]
 conv => rhs; unfold shT
 refine List.map_congr_left (fun j hj => ?_)
 have hj := List.mem_range.1 hj
 rw [shT_getD hj]
 unfold shL
 rw [build_put p hg hfl p2 hE hj]
 have hgY : goodL ((buildX X nm2 lt (srcs o l fl lt)).tabs.getD j []) := (build_goodX p hg hfl p2).good j
 have e1 : noteL (buildX (putX X [s]) nm2 lt (srcs o l fl lt)) done s j (keepT (unf lt done j) ((buildX X nm2 lt (srcs o l fl lt)).tabs.getD j [])) = noteL (buildX X nm2 lt (srcs o l fl lt)) done s j (keepT (unf lt done j) ((buildX X nm2 lt (srcs o l fl lt)).tabs.getD j [])) := by rw [hX]; rfl
 rw [e1, noteL_step h0 hj]
 show (if filB lt done j s.name then _ else _) = _
 generalize (buildX X nm2 lt (srcs o l fl lt)).tabs.getD j [] = m at hgY ⊢
 generalize buildX X nm2 lt (srcs o l fl lt) = Y
 have hk : ∀ (e t : Int) (a : AggV), unf lt done j ⟨s.name, t, a⟩ = !filB lt done j s.name := fun e t a => rfl
 cases hb : filB lt done j s.name
 ·rw [if_neg (by simp)]
  unfold stepL
  split
  ·split
   ·rw [keep_add_lo (unf_key lt done j) hgY.1 (by rw [hk 0, hb]; rfl)]
   ·rfl
  ·rfl
 ·rw [if_pos rfl]
  unfold stepL
  split
  ·split
   ·rw [keep_add_hi (unf_key lt done j) hgY.1 (by rw [hk 0, hb]; rfl)]
   ·rfl
  ·rfl
end
end Go.Proofs.YtkfdgodngbinlaaGreatDoor
namespace Go.Proofs.YtkfdgodngbinlaaGreatDoor
set_option linter.all false
open Go.RowKit

structure ShOk (nm2 : ByteArray) (l lt : List TierV) (fl : List Int) (o : Int) (X : TiersX) (S : ShX) : Prop where
 name : S.name = nm2
 tiers : S.tiers = lt
 src : S.srcs = Proofs.YtkfdgodngbinlaaGreatDoor.srcs o l fl lt
 tabs : S.tabs = shT lt S.done (buildX X nm2 lt (Proofs.YtkfdgodngbinlaaGreatDoor.srcs o l fl lt)).tabs
 d0 : 0 ≤ S.done
 d1 : S.done ≤ stepsV lt
section
variable {nm nm2 : ByteArray} {l lt : List TierV} {fl : List Int} {o : Int} {lo : Nat} {W : World} {t s base : Nat} {X : TiersX} {S : ShX} {Ft F : Nat → Prop} {cc : Nat}
theorem steps_in (p2 : PolOk nm2 lt) : 0 ≤ fillsV lt ∧ stepsV lt = fillsV lt + 2 ∧ stepsV lt ≤ 42 := by
 have h8 : ∀ t ∈ lt, t.shards ≤ 8 := fun x hx => (check_mem p2.ck hx).2.2.2.2.2
 have hf := fillsV_in h8
 have h5 := p2.five
 have hne : lt ≠ [] := by rintro rfl; have := p2.pos; simp at this
 have : stepsV lt = fillsV lt + 2 := by simp [stepsV, hne]
 omega
theorem build_right (p : PolOk nm l) (p2 : PolOk nm2 lt) (hg : GoodX nm l fl X cc) (hfl : ∀ f ∈ fl, 0 ≤ f ∧ f ≤ 2199023255552) {j : Nat} {y : TierV} (hy : lt[j]? = some y) :
  goodL ((buildX X nm2 lt (srcs o l fl lt)).tabs.getD j []) ∧ ∀ r ∈ (buildX X nm2 lt (srcs o l fl lt)).tabs.getD j [], rightR y.every r = true ∧ fromV X.now lt (basesV X.now l fl (srcs o l fl lt) lt) j ≤ r.start := by
 rw [build_tab (List.getElem?_eq_some_iff.1 hy).1]
 obtain ⟨i, x, hx, hs, hd, _, _⟩ := build_src (o := o) (X := X) p.ck hg.now hfl p2.ck hy
 have hxX : X.tiers[i]? = some x := by rw [hg.tiers]; exact hx
 unfold buildL
 rw [hs, hy]
 simp only [Int.toNat_natCast]
 rw [hxX]
 simp only
 rw [hg.tiers, hg.floors]
 exact rollV_right
theorem ShOk.lens (h : ShOk nm2 l lt fl o X S) (p : PolOk nm l) (p2 : PolOk nm2 lt) (hg : GoodX nm l fl X cc) (hfl : ∀ f ∈ fl, 0 ≤ f ∧ f ≤ 2199023255552) : ∀ m ∈ S.tabs, m.length ≤ cc := by
 intro m hm
 rw [h.tabs] at hm
 unfold shT at hm
 obtain ⟨j, hj, rfl⟩ := List.mem_map.1 hm
 refine Nat.le_trans (List.length_filter_le _ _) ?_
 rcases getD_mem_or (L := (buildX X nm2 lt (srcs o l fl lt)).tabs) j with h3 | h3
 ·exact (build_goodX (o := o) p.ck hg hfl p2.ck).len _ h3
 ·rw [h3]; exact Nat.zero_le _
theorem build_tlen (p : PolOk nm l) (p2 : PolOk nm2 lt) (hg : GoodX nm l fl X cc) (hfl : ∀ f ∈ fl, 0 ≤ f ∧ f ≤ 2199023255552) : (buildX X nm2 lt (srcs o l fl lt)).tabs.length = lt.length := (build_goodX p.ck hg hfl p2.ck).tlen
theorem agrees_ok (p : PolOk nm l) (p2 : PolOk nm2 lt) (hg : GoodX nm l fl X cc) (hfl : ∀ f ∈ fl, 0 ≤ f ∧ f ≤ 2199023255552) (h : ShOk nm2 l lt fl o X S) (hd : fillsV lt ≤ S.done) : agreesB S (buildX X nm2 lt (srcs o l fl lt)) = true := by
 unfold agreesB
 rw [List.all_eq_true]
 intro i hi
 have hi := List.mem_range.1 hi
 rw [h.tiers] at hi
 unfold agOne
 rw [h.tabs, shT_full p2.ck (build_tlen p p2 hg hfl) hd]
 have hr := build_right (o := o) p p2 hg hfl (List.getElem?_eq_getElem hi)
 rw [decide_eq_true_eq]
 unfold keepT
 rw [List.filter_eq_self]
 intro r hrr
 have h1 := (hr.2 r hrr).2
 unfold startBelow
 show (!decide (r.start < fromV X.now lt (basesV X.now X.tiers X.floors (srcs o l fl lt) lt) i)) = true
 rw [hg.tiers, hg.floors, decide_eq_false (by omega)]
 rfl
theorem cut_ok (p : PolOk nm l) (p2 : PolOk nm2 lt) (hg : GoodX nm l fl X cc) (hfl : ∀ f ∈ fl, 0 ≤ f ∧ f ≤ 2199023255552) (h : ShOk nm2 l lt fl o X S) (hd : fillsV lt ≤ S.done) : cutK S (buildX X nm2 lt (srcs o l fl lt)) lt.length = buildX X nm2 lt (srcs o l fl lt) := by
 have hS : S.tabs = (buildX X nm2 lt (srcs o l fl lt)).tabs := by rw [h.tabs, shT_full p2.ck (build_tlen p p2 hg hfl) hd]
 have hlen := build_tlen (o := o) (nm := nm) (nm2 := nm2) p p2 hg hfl
 have hright := fun {j : Nat} {y : TierV} (hy : lt[j]? = some y) => build_right (o := o) (nm := nm) (nm2 := nm2) p p2 hg hfl hy
 have hYt : (buildX X nm2 lt (srcs o l fl lt)).tiers = lt := rfl
 have hYn : (buildX X nm2 lt (srcs o l fl lt)).now = X.now := rfl
 have hYf : (buildX X nm2 lt (srcs o l fl lt)).floors = basesV X.now l fl (srcs o l fl lt) lt := by show basesV X.now X.tiers X.floors _ _ = _; rw [hg.tiers, hg.floors]
 generalize buildX X nm2 lt (srcs o l fl lt) = Y at hS hlen hright hYt hYn hYf ⊢
 have key : ∀ k, k ≤ lt.length → cutK S Y k = { Y with tabs := uptoL lt.length (fun j => Y.tabs.getD j []) (fun _ => []) k } := by
  intro k
  induction k with
  | zero =>
   intro _
   unfold cutK newX
   rw [uptoL_zero]
   show (⟨Y.now, Y.name, Y.tiers, Y.floors, Y.tiers.map fun _ => []⟩ : TiersX) = ⟨Y.now, Y.name, Y.tiers, Y.floors, (List.range lt.length).map fun _ => []⟩
   congr 1
   rw [hYt]
   apply List.ext_getElem?
   intro i
   rw [List.getElem?_map, List.getElem?_map]
   by_cases hi : i < lt.length
   ·rw [List.getElem?_eq_getElem hi, List.getElem?_range hi]; rfl
   ·rw [List.getElem?_eq_none (by omega), List.getElem?_eq_none (by simpa using hi)]; rfl
  | succ k ih =>
   intro hk
   have hy : lt[k]? = some lt[k] := List.getElem?_eq_getElem (by omega)
   obtain ⟨q1, q2⟩ := hright hy
   rw [cutK_succ, ih (by omega), hS]
   unfold loadX
   simp only
   rw [hYt, hy, uptoL_get (by omega)]
   simp only
   have hfil : (Y.tabs.getD k []).filter (ldB { Y with tiers := lt, tabs := uptoL lt.length (fun j => Y.tabs.getD j []) (fun _ => []) k } k) = Y.tabs.getD k [] := by
    rw [List.filter_eq_self]
    intro r hr
    have h1 := (q2 r hr).2
    unfold ldB
    simp only
    rw [hYn, hYf, decide_eq_true h1]
   have e2 : addsV lt[k].every [] (Y.tabs.getD k []) = Y.tabs.getD k [] := by
    have := adds_self (e := lt[k].every) (acc := []) (l := Y.tabs.getD k []) (by rw [List.nil_append]; exact q1.1) (fun r hr => (q2 r hr).1)
    rwa [List.nil_append] at this
   rw [hfil, e2]
   have := uptoL_set (n := lt.length) (f := fun j => Y.tabs.getD j []) (g := fun _ => ([] : List RecV)) (i := k) (by omega)
   try simp only at this
   rw [this]
 rw [key lt.length (Nat.le_refl _), uptoL_all, getD_all hlen]
def ShX.go (S : ShX) (nm2 : ByteArray) (lt : List TierV) (Y : TiersX) : ShX := { S with done := S.done + 1, tabs := shT lt (S.done + 1) Y.tabs }
def CutR (nm2 : ByteArray) (lt : List TierV) (bs : List Int) (lo : Nat) (w' : World) (Y : TiersX) (cc : Nat) (last : Bool) (co : Value) : Prop :=
 (last = true → ∃ ot Fo, co = .pointer (some ⟨ot, 0, none⟩) ∧ Tio nm2 lt bs lo w' ot Y Fo cc ∧ ∀ i, Fo i → lo ≤ i) ∧ (last = false → co = .pointer none)
theorem ShOk.next (h : ShOk nm2 l lt fl o X S) (hd : S.done < stepsV lt) : ShOk nm2 l lt fl o X (S.go nm2 lt (buildX X nm2 lt (srcs o l fl lt))) :=
 ⟨h.name, h.tiers, h.src, rfl, by have := h.d0; show 0 ≤ S.done + 1; omega, by show S.done + 1 ≤ _; omega⟩
set_option maxRecDepth 100000 in
theorem sstep_any (p : PolOk nm l) (p2 : PolOk nm2 lt) (hnm2 : nm2.size ≤ maxLen) (h : Tio nm l fl lo W t X Ft cc) (hc : cc ≤ 1000000) (hfl : ∀ f ∈ fl, 0 ≤ f ∧ f ≤ 2199023255552) (hs : ShOn W s base S F) (hk : ShOk nm2 l lt fl o X S) (hd : S.done < stepsV lt) :
  Calls Tryz.prog 57 #[.pointer (some ⟨s, 0, none⟩), .pointer (some ⟨t, 0, none⟩)] W fun r w' => (∃ co, r = .returned (.tuple #[stepVal (atV lt S.done).1, co, .int .i64 0]) ∧ CutR nm2 lt (basesV X.now l fl (srcs o l fl lt) lt) W.heap.size w' (buildX X nm2 lt (srcs o l fl lt)) cc (decide (S.done = stepsV lt - 1)) co) ∧ ShOn w' s base (S.go nm2 lt (buildX X nm2 lt (srcs o l fl lt))) F ∧ Fr F W w' := by
 have hg := h.good
 have hst := steps_in p2
 have hd64 : i64 S.done := by have := hk.d0; unfold i64; omega
 have hlen := build_tlen (o := o) (nm := nm) (nm2 := nm2) p p2 hg hfl
 have hl : ∀ m ∈ S.tabs, m.length ≤ 1000000 := fun m hm => Nat.le_trans (hk.lens p p2 hg hfl m hm) hc
 rcases at_what p2.ck hk.d0 hd with ⟨j, y, k, hy, hat, k0, k1, hdk, hlt⟩ | ⟨hat, hdk⟩ | ⟨hat, hdk⟩
 ·refine (sstep_fill p p2 hnm2 h hc hfl hs hk.name hk.tiers hk.src hd64 hl hy hat).mono ?_
  rintro r w' ⟨rfl, q1, q2⟩
  rw [hat]
  refine ⟨⟨_, rfl, fun e => ?_, fun _ => rfl⟩, ?_, q2⟩
  ·have := of_decide_eq_true e; omega
  ·obtain ⟨g1, g2⟩ := build_right (o := o) (nm := nm) (nm2 := nm2) p p2 hg hfl hy
   have hj := (List.getElem?_eq_some_iff.1 hy).1
   have e := shT_fill (Y := (buildX X nm2 lt (srcs o l fl lt)).tabs) p2.ck hy ⟨k0, k1⟩ hdk g1 (fun r hr => (g2 r hr).1)
   rw [hk.tabs, shT_getD hj, e] at q1
   exact q1
 ·refine (sstep_check p p2 hnm2 h hc hfl hs hk.name hk.tiers hk.src hd64 hl hat).mono ?_
  rintro r w' ⟨⟨q1, _⟩, q2⟩
  obtain ⟨rfl, q3⟩ := q1 (agrees_ok p p2 hg hfl hk (by omega))
  rw [hat]
  refine ⟨⟨_, rfl, fun e => ?_, fun _ => rfl⟩, ?_, q2⟩
  ·have := of_decide_eq_true e; omega
  ·have e : S.tabs = shT lt (S.done + 1) (buildX X nm2 lt (srcs o l fl lt)).tabs := by
    rw [hk.tabs, shT_full p2.ck hlen (by omega), shT_full p2.ck hlen (by omega)]
   unfold ShX.go
   rw [← e]
   exact q3
 ·refine (sstep_cut p p2 hnm2 h hc hfl hs hk.name hk.tiers hk.src hd64 hl hat).mono ?_
  rintro r w' ⟨⟨ot, Fo, rfl, q3, q4⟩, q1, q2⟩
  rw [cut_ok p p2 hg hfl hk (by omega)] at q3
  rw [hat]
  refine ⟨⟨_, rfl, fun _ => ⟨ot, Fo, rfl, ⟨q3.on, build_goodX p.ck hg hfl p2.ck⟩, q4⟩, fun e => ?_⟩, ?_, q2⟩
  ·have := of_decide_eq_false e; omega
  ·have e : S.tabs = shT lt (S.done + 1) (buildX X nm2 lt (srcs o l fl lt)).tabs := by
    rw [hk.tabs, shT_full p2.ck hlen (by omega), shT_full p2.ck hlen (by omega)]
   unfold ShX.go
   rw [← e]
   exact q1
end
end Go.Proofs.YtkfdgodngbinlaaGreatDoor
namespace Go.Proofs.YtkfdgodngbinlaaGreatDoor
set_option linter.all false
open Go.RowKit

section
variable {nm nm2 : ByteArray} {l lt : List TierV} {fl : List Int} {o : Int} {X : TiersX} {S : ShX} {cc : Nat}
end
end Go.Proofs.YtkfdgodngbinlaaGreatDoor
