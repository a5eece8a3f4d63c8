/- Walk of tiers: Same. -/
import Derived.Test.YtlhhcancfgjfkaaPolSame
import Derived.Test.YtlhhcancfgjfkaaTiersAsk
namespace Go.Proofs.Ytlhhcancfgjfkaa
set_option linter.all false
open Go.RowKit

/-- What Same answers. -/
def sameX (X Y : TiersX) : Bool := (decide (X.name = Y.name) && decide (X.tiers = Y.tiers)) && (decide (X.now = Y.now) && (decide (fromsV X.now X.tiers X.floors = fromsV Y.now Y.tiers Y.floors) && decide (X.tabs = Y.tabs)))
theorem sameX_self (X : TiersX) : sameX X X = true := by unfold sameX; simp

set_option maxRecDepth 100000 in
set_option maxHeartbeats 8000000 in
theorem tsame_any (t base : Nat) (X : TiersX) (u base' : Nat) (Y : TiersX) (w : World) (h : TiersAt w t base X) (h' : TiersAt w u base' Y) (hn : X.tiers.length ≤ 1000) (hn' : Y.tiers.length ≤ 1000) (hl : ∀ m ∈ X.tabs, m.length ≤ 1000000) (hl' : ∀ m ∈ Y.tabs, m.length ≤ 1000000) (hnow : i64 X.now) (hnow' : i64 Y.now) (hwf : ∀ x ∈ X.tiers, x.wf) (hwf' : ∀ x ∈ Y.tiers, x.wf) :
    Calls Try.prog 21 #[.pointer (some ⟨t, 0, none⟩), .pointer (some ⟨u, 0, none⟩)] w fun r w' => r = .returned (.bool (sameX X Y)) ∧ Below w.heap.size w w' := by
  have HX := Lib.hid h
  have HY := Lib.hid h'
  obtain ⟨A, c, B, d, T, ct, tb, hi⟩ := h
  obtain ⟨A', c', B', d', T', ct', tb', hi'⟩ := h'
  have Hi := Lib.hid hi
  have Hi' := Lib.hid hi'
  have Hwf := Lib.hid hwf
  have Hwf' := Lib.hid hwf'
  have Hl := Lib.hid hl
  have Hl' := Lib.hid hl'
  have Hn := Lib.hid hn
  have Hn' := Lib.hid hn'
  have HC0 : Hid (∀ W, Fr (fun _ => False) w W → W.cell? ⟨t, 0, none⟩ = some (.int .i64 X.now) ∧ W.cell? ⟨t, 1, none⟩ = some (.string X.name) ∧ W.cell? ⟨t, 2, none⟩ = some (.slice A X.tiers.length c) ∧ W.cell? ⟨t, 3, none⟩ = some (.slice B X.floors.length d) ∧ W.cell? ⟨u, 0, none⟩ = some (.int .i64 Y.now) ∧ W.cell? ⟨u, 1, none⟩ = some (.string Y.name) ∧ W.cell? ⟨u, 2, none⟩ = some (.slice A' Y.tiers.length c') ∧ W.cell? ⟨u, 3, none⟩ = some (.slice B' Y.floors.length d')) := fun W f => by
    have b1 := Hi.out.blk.fr f (fun h => h)
    have b2 := Hi'.out.blk.fr f (fun h => h)
    exact ⟨b1.cell 0, b1.cell 1, b1.cell 2, b1.cell 3, b2.cell 0, b2.cell 1, b2.cell 2, b2.cell 3⟩
  have HPs0 : Hid (∀ W, Fr (fun _ => False) w W → Calls Try.prog 47 #[.agg #[.string X.name, .slice A X.tiers.length c], .agg #[.string Y.name, .slice A' Y.tiers.length c']] W fun r w' => r = .returned (.bool (decide (X.name = Y.name) && decide (X.tiers = Y.tiers))) ∧ Below W.heap.size W w') := fun W f =>
    polsame_any X.name Y.name X.tiers Y.tiers A X.tiers.length c A' Y.tiers.length c' W (own_any (Hi.out.fr0 f).tiers).2.2.1 (own_any (Hi'.out.fr0 f).tiers).2.2.1 (by have := Hn.out; omega) (by have := Hn'.out; omega)
  have HA10 : Hid (∀ W, Fr (fun _ => False) w W → Calls Try.prog 49 #[.agg #[.int .i64 X.now, .string X.name, .slice A X.tiers.length c, .slice B X.floors.length d]] W fun r w' => (∃ R cs, r = .returned (.slice R X.tiers.length cs) ∧ Rd w' 1 R X.tiers.length (ints (fromsV X.now X.tiers X.floors))) ∧ Below W.heap.size W w') := fun W f => by
    refine (rall_any X.now hnow X.name X.tiers A X.tiers.length c X.floors B X.floors.length d W (own_any (Hi.out.fr0 f).tiers).2.2.1 (own_any (Hi.out.fr0 f).floors).2.2.1 Hwf.out (by have := Hn.out; omega)).mono ?_
    rintro r w' ⟨⟨R, cs, rfl, ho⟩, hb⟩
    exact ⟨⟨R, cs, rfl, (own_any ho).2.2.1⟩, hb⟩
  have HA20 : Hid (∀ W, Fr (fun _ => False) w W → Calls Try.prog 49 #[.agg #[.int .i64 Y.now, .string Y.name, .slice A' Y.tiers.length c', .slice B' Y.floors.length d']] W fun r w' => (∃ R cs, r = .returned (.slice R Y.tiers.length cs) ∧ Rd w' 1 R Y.tiers.length (ints (fromsV Y.now Y.tiers Y.floors))) ∧ Below W.heap.size W w') := fun W f => by
    refine (rall_any Y.now hnow' Y.name Y.tiers A' Y.tiers.length c' Y.floors B' Y.floors.length d' W (own_any (Hi'.out.fr0 f).tiers).2.2.1 (own_any (Hi'.out.fr0 f).floors).2.2.1 Hwf'.out (by have := Hn'.out; omega)).mono ?_
    rintro r w' ⟨⟨R, cs, rfl, ho⟩, hb⟩
    exact ⟨⟨R, cs, rfl, (own_any ho).2.2.1⟩, hb⟩
  have HQI0 : Hid (∀ W R cs R' cs', Rd W 1 R X.tiers.length (ints (fromsV X.now X.tiers X.floors)) → Rd W 1 R' Y.tiers.length (ints (fromsV Y.now Y.tiers Y.floors)) → Calls Try.prog 48 #[.slice R X.tiers.length cs, .slice R' Y.tiers.length cs'] W fun r w' => r = .returned (.bool (decide (fromsV X.now X.tiers X.floors = fromsV Y.now Y.tiers Y.floors))) ∧ Below W.heap.size W w') := fun W R cs R' cs' h1 h2 =>
    eqints_any _ _ R X.tiers.length cs R' Y.tiers.length cs' W (by rw [icells_is]; exact h1) (by rw [icells_is]; exact h2) (by have := Hn.out; omega) (by have := Hn'.out; omega)
  have HR1 : Hid (∀ W (k : Nat) L, Fr (fun _ => False) w W → k < X.tiers.length → X.tabs[k]? = some L → Calls Try.prog 14 #[.pointer (some ⟨t, 0, none⟩), .int .i64 k] W fun r w' => (∃ A c, r = .returned (.slice A L.length c) ∧ Rd w' 7 A L.length (rcells L)) ∧ Below W.heap.size W w') := fun W k L f hk hL => by
    refine (trecords_in t base X k X.tiers[k] L W (HX.out.fr0 f) (List.getElem?_eq_getElem hk) hL (by have := Hl.out L (mem_of_get hL); omega)).mono ?_
    rintro r w' ⟨⟨A, c, rfl, ho⟩, hb⟩
    exact ⟨⟨A, c, rfl, (own_any ho).2.2.1⟩, hb⟩
  have HR2 : Hid (∀ W (k : Nat) L, Fr (fun _ => False) w W → k < Y.tiers.length → Y.tabs[k]? = some L → Calls Try.prog 14 #[.pointer (some ⟨u, 0, none⟩), .int .i64 k] W fun r w' => (∃ A c, r = .returned (.slice A L.length c) ∧ Rd w' 7 A L.length (rcells L)) ∧ Below W.heap.size W w') := fun W k L f hk hL => by
    refine (trecords_in u base' Y k Y.tiers[k] L W (HY.out.fr0 f) (List.getElem?_eq_getElem hk) hL (by have := Hl'.out L (mem_of_get hL); omega)).mono ?_
    rintro r w' ⟨⟨A, c, rfl, ho⟩, hb⟩
    exact ⟨⟨A, c, rfl, (own_any ho).2.2.1⟩, hb⟩
  have HlX : Hid (∀ m ∈ X.tabs, m.length ≤ 1000000) := Hl.out
  have HlY : Hid (∀ m ∈ Y.tabs, m.length ≤ 1000000) := Hl'.out
  have Htx := Lib.hid hi.tlen
  have Hty := Lib.hid hi'.tlen
  have HTl : Hid ((decide (X.name = Y.name) && decide (X.tiers = Y.tiers)) = true → X.tiers.length = Y.tiers.length) := fun h => by
    simp only [Bool.and_eq_true, decide_eq_true_eq] at h
    rw [h.2]
  obtain ⟨SX, HS⟩ : ∃ S, sameX X Y = S := ⟨_, rfl⟩
  have HS2 : Hid (SX = ((decide (X.name = Y.name) && decide (X.tiers = Y.tiers)) && (decide (X.now = Y.now) && (decide (fromsV X.now X.tiers X.floors = fromsV Y.now Y.tiers Y.floors) && decide (X.tabs = Y.tabs))))) := by show _ = _; rw [← HS]; rfl
  rw [HS]
  clear HS hi hi' hnow hnow' hn hn' hl hl' hwf hwf'
  obtain ⟨EF, hEF⟩ : ∃ E, decide (fromsV X.now X.tiers X.floors = fromsV Y.now Y.tiers Y.floors) = E := ⟨_, rfl⟩
  obtain ⟨PE, hPE⟩ : ∃ E, (decide (X.name = Y.name) && decide (X.tiers = Y.tiers)) = E := ⟨_, rfl⟩
  rw [hEF] at HQI0 HS2
  rw [hPE] at HPs0 HS2 HTl
  clear hEF hPE
  have HNow : Hid (∀ a b, X.now = a → Y.now = b → decide (X.now = Y.now) = decide (a = b)) := fun a b h1 h2 => by rw [h1, h2]
  have Hlx := Lib.hid (rfl : X.tiers.length = X.tiers.length)
  obtain ⟨nx, hnx⟩ : ∃ v, X.now = v := ⟨_, rfl⟩
  obtain ⟨ny, hny⟩ : ∃ v, Y.now = v := ⟨_, rfl⟩
  rw [HNow.out nx ny hnx hny] at HS2
  obtain ⟨sx, hsx⟩ : ∃ v, X.name = v := ⟨_, rfl⟩
  obtain ⟨sy, hsy⟩ : ∃ v, Y.name = v := ⟨_, rfl⟩
  obtain ⟨fx, hfx⟩ : ∃ v, X.floors.length = v := ⟨_, rfl⟩
  obtain ⟨fy, hfy⟩ : ∃ v, Y.floors.length = v := ⟨_, rfl⟩
  obtain ⟨VX, hVX⟩ : ∃ v, fromsV X.now X.tiers X.floors = v := ⟨_, rfl⟩
  obtain ⟨VY, hVY⟩ : ∃ v, fromsV Y.now Y.tiers Y.floors = v := ⟨_, rfl⟩
  rw [hVX] at HA10 HQI0
  rw [hVY] at HA20 HQI0
  obtain ⟨lx, hlx⟩ : ∃ v, X.tiers.length = v := ⟨_, rfl⟩
  obtain ⟨ly, hly⟩ : ∃ v, Y.tiers.length = v := ⟨_, rfl⟩
  rw [hnx, hsx, hlx, hfx] at HA10
  rw [hny, hsy, hly, hfy] at HA20
  rw [hlx, hly] at HQI0
  rw [hsx, hsy, hlx, hly] at HPs0
  rw [hnx, hsx, hlx, hfx, hny, hsy, hly, hfy] at HC0
  rw [hlx] at HR1 Hn Htx HTl
  rw [hly] at HR2 Hn' Hty HTl
  clear hnx hny hsx hsy hlx hly hfx hfy hVX hVY HNow Hlx Hi Hi' HX HY Hwf Hwf' Hl Hl'
  have HC := HC0
  have HPs := HPs0
  have HA1 := HA10
  have HA2 := HA20
  have HQI := HQI0
  clear HC0 HPs0 HA10 HA20 HQI0
  cases PE with
  | false =>
    have hS : Hid (SX = false) := by show _ = _; rw [HS2.out]; rfl
    go_enter Try.func21, Try.ntmps21
    go_wp2_with fail
    refine wp_region_held_drew (S := fun W => Fr (fun _ => False) w W) (by kernel_rfl) ((Fr.refl _ w).drew) (fun hHeld => ?_)
    refine wpAnyH_take (i := 0) (oi := { dst := some 18, op := Op.move (Operand.tmp 0), type := 25, pos := "tiers.go:152", after := #[], guard := none }) (v := ?vq1) rfl (by kernel_rfl) (by kernel_rfl) (by kernel_rfl) (fun _ _ _ h => h) (Or.inl ⟨by rfl, ?hq1⟩) (by assumption) ?rq1
    case hq1 => intro W hSw; (try obtain ⟨z0, z1, z2, z3, y0, y1, y2, y3⟩ := HC.out W hSw); go_simp; (try with_reducible rfl)
    try simp only [Act.put, List.setIfInBounds_toArray, List.set_cons_zero, List.set_cons_succ]
    refine wpAnyH_take (i := 1) (oi := { dst := some 19, op := Op.nilCheck (Operand.tmp 18), type := 0, pos := "tiers.go:152", after := #[{ on := 0, ground := Ground.data }], guard := none }) (v := ?vq2) rfl (by kernel_rfl) (by kernel_rfl) (by kernel_rfl) (fun _ _ _ h => h) (Or.inl ⟨by rfl, ?hq2⟩) (by assumption) ?rq2
    case hq2 => intro W hSw; (try obtain ⟨z0, z1, z2, z3, y0, y1, y2, y3⟩ := HC.out W hSw); go_simp; (try with_reducible rfl)
    try simp only [Act.put, List.setIfInBounds_toArray, List.set_cons_zero, List.set_cons_succ]
    refine wpAnyH_take (i := 2) (oi := { dst := some 20, op := Op.fieldAddr 61 (Operand.tmp 19) 0, type := 0, pos := "tiers.go:152", after := #[{ on := 1, ground := Ground.data }], guard := none }) (v := ?vq3) rfl (by kernel_rfl) (by kernel_rfl) (by kernel_rfl) (fun _ _ _ h => h) (Or.inl ⟨by rfl, ?hq3⟩) (by assumption) ?rq3
    case hq3 => intro W hSw; (try obtain ⟨z0, z1, z2, z3, y0, y1, y2, y3⟩ := HC.out W hSw); go_simp; (try with_reducible rfl)
    try simp only [Act.put, List.setIfInBounds_toArray, List.set_cons_zero, List.set_cons_succ]
    refine wpAnyH_take (i := 3) (oi := { dst := some 21, op := Op.fieldAddr 58 (Operand.tmp 20) 1, type := 0, pos := "tiers.go:152", after := #[{ on := 2, ground := Ground.data }], guard := none }) (v := ?vq4) rfl (by kernel_rfl) (by kernel_rfl) (by kernel_rfl) (fun _ _ _ h => h) (Or.inl ⟨by rfl, ?hq4⟩) (by assumption) ?rq4
    case hq4 => intro W hSw; (try obtain ⟨z0, z1, z2, z3, y0, y1, y2, y3⟩ := HC.out W hSw); go_simp; (try with_reducible rfl)
    try simp only [Act.put, List.setIfInBounds_toArray, List.set_cons_zero, List.set_cons_succ]
    refine wpAnyH_take (i := 4) (oi := { dst := some 22, op := Op.load 33 (Operand.tmp 21), type := 33, pos := "tiers.go:152", after := #[{ on := 3, ground := Ground.data }], guard := none }) (v := ?vq5) rfl (by kernel_rfl) (by kernel_rfl) (by kernel_rfl) (fun _ _ _ h => h) (Or.inl ⟨by rfl, ?hq5⟩) (by assumption) ?rq5
    case hq5 => intro W hSw; (try obtain ⟨z0, z1, z2, z3, y0, y1, y2, y3⟩ := HC.out W hSw); go_simp; (try with_reducible rfl)
    try simp only [Act.put, List.setIfInBounds_toArray, List.set_cons_zero, List.set_cons_succ]
    refine wpAnyH_take (i := 5) (oi := { dst := some 23, op := Op.move (Operand.tmp 1), type := 25, pos := "tiers.go:152", after := #[], guard := none }) (v := ?vq6) rfl (by kernel_rfl) (by kernel_rfl) (by kernel_rfl) (fun _ _ _ h => h) (Or.inl ⟨by rfl, ?hq6⟩) (by assumption) ?rq6
    case hq6 => intro W hSw; (try obtain ⟨z0, z1, z2, z3, y0, y1, y2, y3⟩ := HC.out W hSw); go_simp; (try with_reducible rfl)
    try simp only [Act.put, List.setIfInBounds_toArray, List.set_cons_zero, List.set_cons_succ]
    refine wpAnyH_take (i := 6) (oi := { dst := some 24, op := Op.nilCheck (Operand.tmp 23), type := 0, pos := "tiers.go:152", after := #[{ on := 5, ground := Ground.data }], guard := none }) (v := ?vq7) rfl (by kernel_rfl) (by kernel_rfl) (by kernel_rfl) (fun _ _ _ h => h) (Or.inl ⟨by rfl, ?hq7⟩) (by assumption) ?rq7
    case hq7 => intro W hSw; (try obtain ⟨z0, z1, z2, z3, y0, y1, y2, y3⟩ := HC.out W hSw); go_simp; (try with_reducible rfl)
    try simp only [Act.put, List.setIfInBounds_toArray, List.set_cons_zero, List.set_cons_succ]
    refine wpAnyH_take (i := 7) (oi := { dst := some 25, op := Op.fieldAddr 61 (Operand.tmp 24) 0, type := 0, pos := "tiers.go:152", after := #[{ on := 6, ground := Ground.data }], guard := none }) (v := ?vq8) rfl (by kernel_rfl) (by kernel_rfl) (by kernel_rfl) (fun _ _ _ h => h) (Or.inl ⟨by rfl, ?hq8⟩) (by assumption) ?rq8
    case hq8 => intro W hSw; (try obtain ⟨z0, z1, z2, z3, y0, y1, y2, y3⟩ := HC.out W hSw); go_simp; (try with_reducible rfl)
    try simp only [Act.put, List.setIfInBounds_toArray, List.set_cons_zero, List.set_cons_succ]
    refine wpAnyH_take (i := 8) (oi := { dst := some 26, op := Op.fieldAddr 58 (Operand.tmp 25) 1, type := 0, pos := "tiers.go:152", after := #[{ on := 7, ground := Ground.data }], guard := none }) (v := ?vq9) rfl (by kernel_rfl) (by kernel_rfl) (by kernel_rfl) (fun _ _ _ h => h) (Or.inl ⟨by rfl, ?hq9⟩) (by assumption) ?rq9
    case hq9 => intro W hSw; (try obtain ⟨z0, z1, z2, z3, y0, y1, y2, y3⟩ := HC.out W hSw); go_simp; (try with_reducible rfl)
    try simp only [Act.put, List.setIfInBounds_toArray, List.set_cons_zero, List.set_cons_succ]
    refine wpAnyH_take (i := 9) (oi := { dst := some 27, op := Op.load 33 (Operand.tmp 26), type := 33, pos := "tiers.go:152", after := #[{ on := 8, ground := Ground.data }], guard := none }) (v := ?vq10) rfl (by kernel_rfl) (by kernel_rfl) (by kernel_rfl) (fun _ _ _ h => h) (Or.inl ⟨by rfl, ?hq10⟩) (by assumption) ?rq10
    case hq10 => intro W hSw; (try obtain ⟨z0, z1, z2, z3, y0, y1, y2, y3⟩ := HC.out W hSw); go_simp; (try with_reducible rfl)
    try simp only [Act.put, List.setIfInBounds_toArray, List.set_cons_zero, List.set_cons_succ]
    refine wpAnyH_ready (rs := [10]) (by kernel_rfl) (by simp) ?_
    refine AllReadyH.cons (o := { dst := some 28, op := Op.call { callee := Callee.value (Operand.func 47), args := #[Operand.tmp 22, Operand.tmp 27], argTypes := #[33, 33] }, type := 4, pos := "tiers.go:152", after := #[{ on := 4, ground := Ground.data }, { on := 9, ground := Ground.data }], guard := none }) rfl (fun K hK => ?_) AllReadyH.nil
    go_simp
    go_wp2_with (first | (go_at_call 47; refine (HPs.out _ hHeld).mono ?_; rintro r w5 ⟨rfl, b5⟩))
    refine hK.out _ _ (hHeld.trans (Fr.b0 b5) (fun _ h => h.elim)) (fun hHeld => ?_)
    clear hK K
    try simp only [Act.put, List.setIfInBounds_toArray, List.set_cons_zero, List.set_cons_succ]
    refine wpAnyH_take (i := 11) (oi := { dst := some 29, op := Op.unOp UnOp.not 4 (Operand.tmp 28), type := 4, pos := "tiers.go:152", after := #[{ on := 10, ground := Ground.data }], guard := none }) (v := ?vq11) rfl (by kernel_rfl) (by kernel_rfl) (by kernel_rfl) (fun _ _ _ h => h) (Or.inl ⟨by rfl, ?hq11⟩) (by assumption) ?rq11
    case hq11 => intro W hSw; (try obtain ⟨z0, z1, z2, z3, y0, y1, y2, y3⟩ := HC.out W hSw); go_simp; (try with_reducible rfl)
    try simp only [Act.put, List.setIfInBounds_toArray, List.set_cons_zero, List.set_cons_succ]
    refine wpAnyH_take (i := 12) (oi := { dst := some 30, op := Op.move (Operand.tmp 29), type := 4, pos := "tiers.go:152", after := #[{ on := 11, ground := Ground.data }, { on := 10, ground := Ground.chain }], guard := none }) (v := ?vq12) rfl (by kernel_rfl) (by kernel_rfl) (by kernel_rfl) (fun _ _ _ h => h) (Or.inl ⟨by rfl, ?hq12⟩) (by assumption) ?rq12
    case hq12 => intro W hSw; (try obtain ⟨z0, z1, z2, z3, y0, y1, y2, y3⟩ := HC.out W hSw); go_simp; (try with_reducible rfl)
    try simp only [Act.put, List.setIfInBounds_toArray, List.set_cons_zero, List.set_cons_succ]
    refine wpAnyH_take (i := 13) (oi := { dst := some 31, op := Op.move (Operand.tmp 0), type := 25, pos := "tiers.go:152", after := #[{ on := 12, ground := Ground.guard }], guard := some (12, false) }) (v := undef) rfl (by kernel_rfl) (by kernel_rfl) (by kernel_rfl) (fun _ _ _ h => h) (Or.inr ⟨by rfl, rfl⟩) (by assumption) ?_
    try simp only [Act.put, List.setIfInBounds_toArray, List.set_cons_zero, List.set_cons_succ]
    refine wpAnyH_take (i := 14) (oi := { dst := some 32, op := Op.nilCheck (Operand.tmp 31), type := 0, pos := "tiers.go:152", after := #[{ on := 13, ground := Ground.data }, { on := 12, ground := Ground.guard }], guard := some (12, false) }) (v := undef) rfl (by kernel_rfl) (by kernel_rfl) (by kernel_rfl) (fun _ _ _ h => h) (Or.inr ⟨by rfl, rfl⟩) (by assumption) ?_
    try simp only [Act.put, List.setIfInBounds_toArray, List.set_cons_zero, List.set_cons_succ]
    refine wpAnyH_take (i := 15) (oi := { dst := some 33, op := Op.fieldAddr 61 (Operand.tmp 32) 0, type := 0, pos := "tiers.go:152", after := #[{ on := 14, ground := Ground.data }, { on := 12, ground := Ground.guard }], guard := some (12, false) }) (v := undef) rfl (by kernel_rfl) (by kernel_rfl) (by kernel_rfl) (fun _ _ _ h => h) (Or.inr ⟨by rfl, rfl⟩) (by assumption) ?_
    try simp only [Act.put, List.setIfInBounds_toArray, List.set_cons_zero, List.set_cons_succ]
    refine wpAnyH_take (i := 16) (oi := { dst := some 34, op := Op.fieldAddr 58 (Operand.tmp 33) 0, type := 0, pos := "tiers.go:152", after := #[{ on := 15, ground := Ground.data }, { on := 12, ground := Ground.guard }], guard := some (12, false) }) (v := undef) rfl (by kernel_rfl) (by kernel_rfl) (by kernel_rfl) (fun _ _ _ h => h) (Or.inr ⟨by rfl, rfl⟩) (by assumption) ?_
    try simp only [Act.put, List.setIfInBounds_toArray, List.set_cons_zero, List.set_cons_succ]
    refine wpAnyH_take (i := 17) (oi := { dst := some 35, op := Op.load 3 (Operand.tmp 34), type := 3, pos := "tiers.go:152", after := #[{ on := 16, ground := Ground.data }, { on := 12, ground := Ground.guard }], guard := some (12, false) }) (v := undef) rfl (by kernel_rfl) (by kernel_rfl) (by kernel_rfl) (fun _ _ _ h => h) (Or.inr ⟨by rfl, rfl⟩) (by assumption) ?_
    try simp only [Act.put, List.setIfInBounds_toArray, List.set_cons_zero, List.set_cons_succ]
    refine wpAnyH_take (i := 18) (oi := { dst := some 36, op := Op.move (Operand.tmp 1), type := 25, pos := "tiers.go:152", after := #[{ on := 12, ground := Ground.guard }], guard := some (12, false) }) (v := undef) rfl (by kernel_rfl) (by kernel_rfl) (by kernel_rfl) (fun _ _ _ h => h) (Or.inr ⟨by rfl, rfl⟩) (by assumption) ?_
    try simp only [Act.put, List.setIfInBounds_toArray, List.set_cons_zero, List.set_cons_succ]
    refine wpAnyH_take (i := 19) (oi := { dst := some 37, op := Op.nilCheck (Operand.tmp 36), type := 0, pos := "tiers.go:152", after := #[{ on := 18, ground := Ground.data }, { on := 12, ground := Ground.guard }], guard := some (12, false) }) (v := undef) rfl (by kernel_rfl) (by kernel_rfl) (by kernel_rfl) (fun _ _ _ h => h) (Or.inr ⟨by rfl, rfl⟩) (by assumption) ?_
    try simp only [Act.put, List.setIfInBounds_toArray, List.set_cons_zero, List.set_cons_succ]
    refine wpAnyH_take (i := 20) (oi := { dst := some 38, op := Op.fieldAddr 61 (Operand.tmp 37) 0, type := 0, pos := "tiers.go:152", after := #[{ on := 19, ground := Ground.data }, { on := 12, ground := Ground.guard }], guard := some (12, false) }) (v := undef) rfl (by kernel_rfl) (by kernel_rfl) (by kernel_rfl) (fun _ _ _ h => h) (Or.inr ⟨by rfl, rfl⟩) (by assumption) ?_
    try simp only [Act.put, List.setIfInBounds_toArray, List.set_cons_zero, List.set_cons_succ]
    refine wpAnyH_take (i := 21) (oi := { dst := some 39, op := Op.fieldAddr 58 (Operand.tmp 38) 0, type := 0, pos := "tiers.go:152", after := #[{ on := 20, ground := Ground.data }, { on := 12, ground := Ground.guard }], guard := some (12, false) }) (v := undef) rfl (by kernel_rfl) (by kernel_rfl) (by kernel_rfl) (fun _ _ _ h => h) (Or.inr ⟨by rfl, rfl⟩) (by assumption) ?_
    try simp only [Act.put, List.setIfInBounds_toArray, List.set_cons_zero, List.set_cons_succ]
    refine wpAnyH_take (i := 22) (oi := { dst := some 40, op := Op.load 3 (Operand.tmp 39), type := 3, pos := "tiers.go:152", after := #[{ on := 21, ground := Ground.data }, { on := 12, ground := Ground.guard }], guard := some (12, false) }) (v := undef) rfl (by kernel_rfl) (by kernel_rfl) (by kernel_rfl) (fun _ _ _ h => h) (Or.inr ⟨by rfl, rfl⟩) (by assumption) ?_
    try simp only [Act.put, List.setIfInBounds_toArray, List.set_cons_zero, List.set_cons_succ]
    refine wpAnyH_take (i := 23) (oi := { dst := some 41, op := Op.binOp BinOp.neq 3 (Operand.tmp 35) (Operand.tmp 40) 3, type := 4, pos := "tiers.go:152", after := #[{ on := 17, ground := Ground.data }, { on := 22, ground := Ground.data }, { on := 12, ground := Ground.guard }], guard := some (12, false) }) (v := undef) rfl (by kernel_rfl) (by kernel_rfl) (by kernel_rfl) (fun _ _ _ h => h) (Or.inr ⟨by rfl, rfl⟩) (by assumption) ?_
    try simp only [Act.put, List.setIfInBounds_toArray, List.set_cons_zero, List.set_cons_succ]
    refine wpAnyH_take (i := 24) (oi := { dst := some 42, op := Op.pick (Operand.tmp 30) (Operand.const (Value.bool true)) (Operand.tmp 41), type := 4, pos := "tiers.go:152", after := #[{ on := 12, ground := Ground.data }, { on := 23, ground := Ground.data }], guard := none }) (v := ?vq13) rfl (by kernel_rfl) (by kernel_rfl) (by kernel_rfl) (fun _ _ _ h => h) (Or.inl ⟨by rfl, ?hq13⟩) (by assumption) ?rq13
    case hq13 => intro W hSw; (try obtain ⟨z0, z1, z2, z3, y0, y1, y2, y3⟩ := HC.out W hSw); go_simp; (try with_reducible rfl)
    try simp only [Act.put, List.setIfInBounds_toArray, List.set_cons_zero, List.set_cons_succ]
    refine wpAnyH_take (i := 25) (oi := { dst := some 43, op := Op.move (Operand.tmp 42), type := 4, pos := "tiers.go:152", after := #[{ on := 24, ground := Ground.data }, { on := 12, ground := Ground.chain }], guard := none }) (v := ?vq14) rfl (by kernel_rfl) (by kernel_rfl) (by kernel_rfl) (fun _ _ _ h => h) (Or.inl ⟨by rfl, ?hq14⟩) (by assumption) ?rq14
    case hq14 => intro W hSw; (try obtain ⟨z0, z1, z2, z3, y0, y1, y2, y3⟩ := HC.out W hSw); go_simp; (try with_reducible rfl)
    try simp only [Act.put, List.setIfInBounds_toArray, List.set_cons_zero, List.set_cons_succ]
    refine wpAnyH_take (i := 26) (oi := { dst := some 44, op := Op.move (Operand.tmp 0), type := 25, pos := "tiers.go:152", after := #[{ on := 25, ground := Ground.guard }], guard := some (25, false) }) (v := undef) rfl (by kernel_rfl) (by kernel_rfl) (by kernel_rfl) (fun _ _ _ h => h) (Or.inr ⟨by rfl, rfl⟩) (by assumption) ?_
    try simp only [Act.put, List.setIfInBounds_toArray, List.set_cons_zero, List.set_cons_succ]
    refine wpAnyH_take (i := 27) (oi := { dst := some 45, op := Op.nilCheck (Operand.tmp 44), type := 0, pos := "tiers.go:152", after := #[{ on := 26, ground := Ground.data }, { on := 25, ground := Ground.guard }], guard := some (25, false) }) (v := undef) rfl (by kernel_rfl) (by kernel_rfl) (by kernel_rfl) (fun _ _ _ h => h) (Or.inr ⟨by rfl, rfl⟩) (by assumption) ?_
    try simp only [Act.put, List.setIfInBounds_toArray, List.set_cons_zero, List.set_cons_succ]
    refine wpAnyH_take (i := 28) (oi := { dst := some 46, op := Op.fieldAddr 61 (Operand.tmp 45) 0, type := 0, pos := "tiers.go:152", after := #[{ on := 27, ground := Ground.data }, { on := 25, ground := Ground.guard }], guard := some (25, false) }) (v := undef) rfl (by kernel_rfl) (by kernel_rfl) (by kernel_rfl) (fun _ _ _ h => h) (Or.inr ⟨by rfl, rfl⟩) (by assumption) ?_
    try simp only [Act.put, List.setIfInBounds_toArray, List.set_cons_zero, List.set_cons_succ]
    refine wpAnyH_take (i := 29) (oi := { dst := some 47, op := Op.load 58 (Operand.tmp 46), type := 58, pos := "tiers.go:152", after := #[{ on := 28, ground := Ground.data }, { on := 25, ground := Ground.guard }], guard := some (25, false) }) (v := undef) rfl (by kernel_rfl) (by kernel_rfl) (by kernel_rfl) (fun _ _ _ h => h) (Or.inr ⟨by rfl, rfl⟩) (by assumption) ?_
    try simp only [Act.put, List.setIfInBounds_toArray, List.set_cons_zero, List.set_cons_succ]
    refine wpAnyH_take (i := 30) (oi := { dst := some 48, op := Op.call { callee := Callee.value (Operand.func 49), args := #[Operand.tmp 47], argTypes := #[58] }, type := 56, pos := "tiers.go:152", after := #[{ on := 29, ground := Ground.data }, { on := 25, ground := Ground.chain }, { on := 25, ground := Ground.guard }], guard := some (25, false) }) (v := undef) rfl (by kernel_rfl) (by kernel_rfl) (by kernel_rfl) (fun _ _ _ h => h) (Or.inr ⟨by rfl, rfl⟩) (by assumption) ?_
    try simp only [Act.put, List.setIfInBounds_toArray, List.set_cons_zero, List.set_cons_succ]
    refine wpAnyH_take (i := 31) (oi := { dst := some 49, op := Op.move (Operand.tmp 1), type := 25, pos := "tiers.go:152", after := #[{ on := 25, ground := Ground.guard }], guard := some (25, false) }) (v := undef) rfl (by kernel_rfl) (by kernel_rfl) (by kernel_rfl) (fun _ _ _ h => h) (Or.inr ⟨by rfl, rfl⟩) (by assumption) ?_
    try simp only [Act.put, List.setIfInBounds_toArray, List.set_cons_zero, List.set_cons_succ]
    refine wpAnyH_take (i := 32) (oi := { dst := some 50, op := Op.nilCheck (Operand.tmp 49), type := 0, pos := "tiers.go:152", after := #[{ on := 31, ground := Ground.data }, { on := 25, ground := Ground.guard }], guard := some (25, false) }) (v := undef) rfl (by kernel_rfl) (by kernel_rfl) (by kernel_rfl) (fun _ _ _ h => h) (Or.inr ⟨by rfl, rfl⟩) (by assumption) ?_
    try simp only [Act.put, List.setIfInBounds_toArray, List.set_cons_zero, List.set_cons_succ]
    refine wpAnyH_take (i := 33) (oi := { dst := some 51, op := Op.fieldAddr 61 (Operand.tmp 50) 0, type := 0, pos := "tiers.go:152", after := #[{ on := 32, ground := Ground.data }, { on := 25, ground := Ground.guard }], guard := some (25, false) }) (v := undef) rfl (by kernel_rfl) (by kernel_rfl) (by kernel_rfl) (fun _ _ _ h => h) (Or.inr ⟨by rfl, rfl⟩) (by assumption) ?_
    try simp only [Act.put, List.setIfInBounds_toArray, List.set_cons_zero, List.set_cons_succ]
    refine wpAnyH_take (i := 34) (oi := { dst := some 52, op := Op.load 58 (Operand.tmp 51), type := 58, pos := "tiers.go:152", after := #[{ on := 33, ground := Ground.data }, { on := 25, ground := Ground.guard }], guard := some (25, false) }) (v := undef) rfl (by kernel_rfl) (by kernel_rfl) (by kernel_rfl) (fun _ _ _ h => h) (Or.inr ⟨by rfl, rfl⟩) (by assumption) ?_
    try simp only [Act.put, List.setIfInBounds_toArray, List.set_cons_zero, List.set_cons_succ]
    refine wpAnyH_take (i := 35) (oi := { dst := some 53, op := Op.call { callee := Callee.value (Operand.func 49), args := #[Operand.tmp 52], argTypes := #[58] }, type := 56, pos := "tiers.go:152", after := #[{ on := 34, ground := Ground.data }, { on := 30, ground := Ground.chain }, { on := 25, ground := Ground.guard }], guard := some (25, false) }) (v := undef) rfl (by kernel_rfl) (by kernel_rfl) (by kernel_rfl) (fun _ _ _ h => h) (Or.inr ⟨by rfl, rfl⟩) (by assumption) ?_
    try simp only [Act.put, List.setIfInBounds_toArray, List.set_cons_zero, List.set_cons_succ]
    refine wpAnyH_take (i := 36) (oi := { dst := some 54, op := Op.call { callee := Callee.value (Operand.func 48), args := #[Operand.tmp 48, Operand.tmp 53], argTypes := #[56, 56] }, type := 4, pos := "tiers.go:152", after := #[{ on := 30, ground := Ground.data }, { on := 35, ground := Ground.data }, { on := 35, ground := Ground.chain }, { on := 25, ground := Ground.guard }], guard := some (25, false) }) (v := undef) rfl (by kernel_rfl) (by kernel_rfl) (by kernel_rfl) (fun _ _ _ h => h) (Or.inr ⟨by rfl, rfl⟩) (by assumption) ?_
    try simp only [Act.put, List.setIfInBounds_toArray, List.set_cons_zero, List.set_cons_succ]
    refine wpAnyH_take (i := 37) (oi := { dst := some 55, op := Op.unOp UnOp.not 4 (Operand.tmp 54), type := 4, pos := "tiers.go:152", after := #[{ on := 36, ground := Ground.data }, { on := 25, ground := Ground.guard }], guard := some (25, false) }) (v := undef) rfl (by kernel_rfl) (by kernel_rfl) (by kernel_rfl) (fun _ _ _ h => h) (Or.inr ⟨by rfl, rfl⟩) (by assumption) ?_
    try simp only [Act.put, List.setIfInBounds_toArray, List.set_cons_zero, List.set_cons_succ]
    refine wpAnyH_take (i := 38) (oi := { dst := some 56, op := Op.pick (Operand.tmp 43) (Operand.const (Value.bool true)) (Operand.tmp 55), type := 4, pos := "tiers.go:152", after := #[{ on := 25, ground := Ground.data }, { on := 37, ground := Ground.data }], guard := none }) (v := ?vq15) rfl (by kernel_rfl) (by kernel_rfl) (by kernel_rfl) (fun _ _ _ h => h) (Or.inl ⟨by rfl, ?hq15⟩) (by assumption) ?rq15
    case hq15 => intro W hSw; (try obtain ⟨z0, z1, z2, z3, y0, y1, y2, y3⟩ := HC.out W hSw); go_simp; (try with_reducible rfl)
    try simp only [Act.put, List.setIfInBounds_toArray, List.set_cons_zero, List.set_cons_succ]
    refine wpAnyH_done (by kernel_rfl) ?_ _
    go_wp2_with fail
    go_ret
    exact ⟨by rw [hS.out]; rfl, hHeld.below (fun _ h => h.elim)⟩
  | true =>
    have hlen : lx = ly := HTl.out rfl
    subst hlen
    by_cases hnow : nx = ny
    · subst hnow
      cases EF with
      | false =>
        have hS : Hid (SX = false) := by show _ = _; rw [HS2.out]; simp
        go_enter Try.func21, Try.ntmps21
        go_wp2_with fail
        refine wp_region_held_drew (S := fun W => Fr (fun _ => False) w W) (by kernel_rfl) ((Fr.refl _ w).drew) (fun hHeld => ?_)
        refine wpAnyH_take (i := 0) (oi := { dst := some 18, op := Op.move (Operand.tmp 0), type := 25, pos := "tiers.go:152", after := #[], guard := none }) (v := ?vq16) rfl (by kernel_rfl) (by kernel_rfl) (by kernel_rfl) (fun _ _ _ h => h) (Or.inl ⟨by rfl, ?hq16⟩) (by assumption) ?rq16
        case hq16 => intro W hSw; (try obtain ⟨z0, z1, z2, z3, y0, y1, y2, y3⟩ := HC.out W hSw); go_simp; (try with_reducible rfl)
        try simp only [Act.put, List.setIfInBounds_toArray, List.set_cons_zero, List.set_cons_succ]
        refine wpAnyH_take (i := 1) (oi := { dst := some 19, op := Op.nilCheck (Operand.tmp 18), type := 0, pos := "tiers.go:152", after := #[{ on := 0, ground := Ground.data }], guard := none }) (v := ?vq17) rfl (by kernel_rfl) (by kernel_rfl) (by kernel_rfl) (fun _ _ _ h => h) (Or.inl ⟨by rfl, ?hq17⟩) (by assumption) ?rq17
        case hq17 => intro W hSw; (try obtain ⟨z0, z1, z2, z3, y0, y1, y2, y3⟩ := HC.out W hSw); go_simp; (try with_reducible rfl)
        try simp only [Act.put, List.setIfInBounds_toArray, List.set_cons_zero, List.set_cons_succ]
        refine wpAnyH_take (i := 2) (oi := { dst := some 20, op := Op.fieldAddr 61 (Operand.tmp 19) 0, type := 0, pos := "tiers.go:152", after := #[{ on := 1, ground := Ground.data }], guard := none }) (v := ?vq18) rfl (by kernel_rfl) (by kernel_rfl) (by kernel_rfl) (fun _ _ _ h => h) (Or.inl ⟨by rfl, ?hq18⟩) (by assumption) ?rq18
        case hq18 => intro W hSw; (try obtain ⟨z0, z1, z2, z3, y0, y1, y2, y3⟩ := HC.out W hSw); go_simp; (try with_reducible rfl)
        try simp only [Act.put, List.setIfInBounds_toArray, List.set_cons_zero, List.set_cons_succ]
        refine wpAnyH_take (i := 3) (oi := { dst := some 21, op := Op.fieldAddr 58 (Operand.tmp 20) 1, type := 0, pos := "tiers.go:152", after := #[{ on := 2, ground := Ground.data }], guard := none }) (v := ?vq19) rfl (by kernel_rfl) (by kernel_rfl) (by kernel_rfl) (fun _ _ _ h => h) (Or.inl ⟨by rfl, ?hq19⟩) (by assumption) ?rq19
        case hq19 => intro W hSw; (try obtain ⟨z0, z1, z2, z3, y0, y1, y2, y3⟩ := HC.out W hSw); go_simp; (try with_reducible rfl)
        try simp only [Act.put, List.setIfInBounds_toArray, List.set_cons_zero, List.set_cons_succ]
        refine wpAnyH_take (i := 4) (oi := { dst := some 22, op := Op.load 33 (Operand.tmp 21), type := 33, pos := "tiers.go:152", after := #[{ on := 3, ground := Ground.data }], guard := none }) (v := ?vq20) rfl (by kernel_rfl) (by kernel_rfl) (by kernel_rfl) (fun _ _ _ h => h) (Or.inl ⟨by rfl, ?hq20⟩) (by assumption) ?rq20
        case hq20 => intro W hSw; (try obtain ⟨z0, z1, z2, z3, y0, y1, y2, y3⟩ := HC.out W hSw); go_simp; (try with_reducible rfl)
        try simp only [Act.put, List.setIfInBounds_toArray, List.set_cons_zero, List.set_cons_succ]
        refine wpAnyH_take (i := 5) (oi := { dst := some 23, op := Op.move (Operand.tmp 1), type := 25, pos := "tiers.go:152", after := #[], guard := none }) (v := ?vq21) rfl (by kernel_rfl) (by kernel_rfl) (by kernel_rfl) (fun _ _ _ h => h) (Or.inl ⟨by rfl, ?hq21⟩) (by assumption) ?rq21
        case hq21 => intro W hSw; (try obtain ⟨z0, z1, z2, z3, y0, y1, y2, y3⟩ := HC.out W hSw); go_simp; (try with_reducible rfl)
        try simp only [Act.put, List.setIfInBounds_toArray, List.set_cons_zero, List.set_cons_succ]
        refine wpAnyH_take (i := 6) (oi := { dst := some 24, op := Op.nilCheck (Operand.tmp 23), type := 0, pos := "tiers.go:152", after := #[{ on := 5, ground := Ground.data }], guard := none }) (v := ?vq22) rfl (by kernel_rfl) (by kernel_rfl) (by kernel_rfl) (fun _ _ _ h => h) (Or.inl ⟨by rfl, ?hq22⟩) (by assumption) ?rq22
        case hq22 => intro W hSw; (try obtain ⟨z0, z1, z2, z3, y0, y1, y2, y3⟩ := HC.out W hSw); go_simp; (try with_reducible rfl)
        try simp only [Act.put, List.setIfInBounds_toArray, List.set_cons_zero, List.set_cons_succ]
        refine wpAnyH_take (i := 7) (oi := { dst := some 25, op := Op.fieldAddr 61 (Operand.tmp 24) 0, type := 0, pos := "tiers.go:152", after := #[{ on := 6, ground := Ground.data }], guard := none }) (v := ?vq23) rfl (by kernel_rfl) (by kernel_rfl) (by kernel_rfl) (fun _ _ _ h => h) (Or.inl ⟨by rfl, ?hq23⟩) (by assumption) ?rq23
        case hq23 => intro W hSw; (try obtain ⟨z0, z1, z2, z3, y0, y1, y2, y3⟩ := HC.out W hSw); go_simp; (try with_reducible rfl)
        try simp only [Act.put, List.setIfInBounds_toArray, List.set_cons_zero, List.set_cons_succ]
        refine wpAnyH_take (i := 8) (oi := { dst := some 26, op := Op.fieldAddr 58 (Operand.tmp 25) 1, type := 0, pos := "tiers.go:152", after := #[{ on := 7, ground := Ground.data }], guard := none }) (v := ?vq24) rfl (by kernel_rfl) (by kernel_rfl) (by kernel_rfl) (fun _ _ _ h => h) (Or.inl ⟨by rfl, ?hq24⟩) (by assumption) ?rq24
        case hq24 => intro W hSw; (try obtain ⟨z0, z1, z2, z3, y0, y1, y2, y3⟩ := HC.out W hSw); go_simp; (try with_reducible rfl)
        try simp only [Act.put, List.setIfInBounds_toArray, List.set_cons_zero, List.set_cons_succ]
        refine wpAnyH_take (i := 9) (oi := { dst := some 27, op := Op.load 33 (Operand.tmp 26), type := 33, pos := "tiers.go:152", after := #[{ on := 8, ground := Ground.data }], guard := none }) (v := ?vq25) rfl (by kernel_rfl) (by kernel_rfl) (by kernel_rfl) (fun _ _ _ h => h) (Or.inl ⟨by rfl, ?hq25⟩) (by assumption) ?rq25
        case hq25 => intro W hSw; (try obtain ⟨z0, z1, z2, z3, y0, y1, y2, y3⟩ := HC.out W hSw); go_simp; (try with_reducible rfl)
        try simp only [Act.put, List.setIfInBounds_toArray, List.set_cons_zero, List.set_cons_succ]
        refine wpAnyH_ready (rs := [10]) (by kernel_rfl) (by simp) ?_
        refine AllReadyH.cons (o := { dst := some 28, op := Op.call { callee := Callee.value (Operand.func 47), args := #[Operand.tmp 22, Operand.tmp 27], argTypes := #[33, 33] }, type := 4, pos := "tiers.go:152", after := #[{ on := 4, ground := Ground.data }, { on := 9, ground := Ground.data }], guard := none }) rfl (fun K hK => ?_) AllReadyH.nil
        go_simp
        go_wp2_with (first | (go_at_call 47; refine (HPs.out _ hHeld).mono ?_; rintro r w5 ⟨rfl, b5⟩))
        refine hK.out _ _ (hHeld.trans (Fr.b0 b5) (fun _ h => h.elim)) (fun hHeld => ?_)
        clear hK K
        try simp only [Act.put, List.setIfInBounds_toArray, List.set_cons_zero, List.set_cons_succ]
        refine wpAnyH_take (i := 11) (oi := { dst := some 29, op := Op.unOp UnOp.not 4 (Operand.tmp 28), type := 4, pos := "tiers.go:152", after := #[{ on := 10, ground := Ground.data }], guard := none }) (v := ?vq26) rfl (by kernel_rfl) (by kernel_rfl) (by kernel_rfl) (fun _ _ _ h => h) (Or.inl ⟨by rfl, ?hq26⟩) (by assumption) ?rq26
        case hq26 => intro W hSw; (try obtain ⟨z0, z1, z2, z3, y0, y1, y2, y3⟩ := HC.out W hSw); go_simp; (try with_reducible rfl)
        try simp only [Act.put, List.setIfInBounds_toArray, List.set_cons_zero, List.set_cons_succ]
        refine wpAnyH_take (i := 12) (oi := { dst := some 30, op := Op.move (Operand.tmp 29), type := 4, pos := "tiers.go:152", after := #[{ on := 11, ground := Ground.data }, { on := 10, ground := Ground.chain }], guard := none }) (v := ?vq27) rfl (by kernel_rfl) (by kernel_rfl) (by kernel_rfl) (fun _ _ _ h => h) (Or.inl ⟨by rfl, ?hq27⟩) (by assumption) ?rq27
        case hq27 => intro W hSw; (try obtain ⟨z0, z1, z2, z3, y0, y1, y2, y3⟩ := HC.out W hSw); go_simp; (try with_reducible rfl)
        try simp only [Act.put, List.setIfInBounds_toArray, List.set_cons_zero, List.set_cons_succ]
        refine wpAnyH_take (i := 13) (oi := { dst := some 31, op := Op.move (Operand.tmp 0), type := 25, pos := "tiers.go:152", after := #[{ on := 12, ground := Ground.guard }], guard := some (12, false) }) (v := ?vq28) rfl (by kernel_rfl) (by kernel_rfl) (by kernel_rfl) (fun _ _ _ h => h) (Or.inl ⟨by rfl, ?hq28⟩) (by assumption) ?rq28
        case hq28 => intro W hSw; (try obtain ⟨z0, z1, z2, z3, y0, y1, y2, y3⟩ := HC.out W hSw); go_simp; (try with_reducible rfl)
        try simp only [Act.put, List.setIfInBounds_toArray, List.set_cons_zero, List.set_cons_succ]
        refine wpAnyH_take (i := 14) (oi := { dst := some 32, op := Op.nilCheck (Operand.tmp 31), type := 0, pos := "tiers.go:152", after := #[{ on := 13, ground := Ground.data }, { on := 12, ground := Ground.guard }], guard := some (12, false) }) (v := ?vq29) rfl (by kernel_rfl) (by kernel_rfl) (by kernel_rfl) (fun _ _ _ h => h) (Or.inl ⟨by rfl, ?hq29⟩) (by assumption) ?rq29
        case hq29 => intro W hSw; (try obtain ⟨z0, z1, z2, z3, y0, y1, y2, y3⟩ := HC.out W hSw); go_simp; (try with_reducible rfl)
        try simp only [Act.put, List.setIfInBounds_toArray, List.set_cons_zero, List.set_cons_succ]
        refine wpAnyH_take (i := 15) (oi := { dst := some 33, op := Op.fieldAddr 61 (Operand.tmp 32) 0, type := 0, pos := "tiers.go:152", after := #[{ on := 14, ground := Ground.data }, { on := 12, ground := Ground.guard }], guard := some (12, false) }) (v := ?vq30) rfl (by kernel_rfl) (by kernel_rfl) (by kernel_rfl) (fun _ _ _ h => h) (Or.inl ⟨by rfl, ?hq30⟩) (by assumption) ?rq30
        case hq30 => intro W hSw; (try obtain ⟨z0, z1, z2, z3, y0, y1, y2, y3⟩ := HC.out W hSw); go_simp; (try with_reducible rfl)
        try simp only [Act.put, List.setIfInBounds_toArray, List.set_cons_zero, List.set_cons_succ]
        refine wpAnyH_take (i := 16) (oi := { dst := some 34, op := Op.fieldAddr 58 (Operand.tmp 33) 0, type := 0, pos := "tiers.go:152", after := #[{ on := 15, ground := Ground.data }, { on := 12, ground := Ground.guard }], guard := some (12, false) }) (v := ?vq31) rfl (by kernel_rfl) (by kernel_rfl) (by kernel_rfl) (fun _ _ _ h => h) (Or.inl ⟨by rfl, ?hq31⟩) (by assumption) ?rq31
        case hq31 => intro W hSw; (try obtain ⟨z0, z1, z2, z3, y0, y1, y2, y3⟩ := HC.out W hSw); go_simp; (try with_reducible rfl)
        try simp only [Act.put, List.setIfInBounds_toArray, List.set_cons_zero, List.set_cons_succ]
        refine wpAnyH_take (i := 17) (oi := { dst := some 35, op := Op.load 3 (Operand.tmp 34), type := 3, pos := "tiers.go:152", after := #[{ on := 16, ground := Ground.data }, { on := 12, ground := Ground.guard }], guard := some (12, false) }) (v := ?vq32) rfl (by kernel_rfl) (by kernel_rfl) (by kernel_rfl) (fun _ _ _ h => h) (Or.inl ⟨by rfl, ?hq32⟩) (by assumption) ?rq32
        case hq32 => intro W hSw; (try obtain ⟨z0, z1, z2, z3, y0, y1, y2, y3⟩ := HC.out W hSw); go_simp; (try with_reducible rfl)
        try simp only [Act.put, List.setIfInBounds_toArray, List.set_cons_zero, List.set_cons_succ]
        refine wpAnyH_take (i := 18) (oi := { dst := some 36, op := Op.move (Operand.tmp 1), type := 25, pos := "tiers.go:152", after := #[{ on := 12, ground := Ground.guard }], guard := some (12, false) }) (v := ?vq33) rfl (by kernel_rfl) (by kernel_rfl) (by kernel_rfl) (fun _ _ _ h => h) (Or.inl ⟨by rfl, ?hq33⟩) (by assumption) ?rq33
        case hq33 => intro W hSw; (try obtain ⟨z0, z1, z2, z3, y0, y1, y2, y3⟩ := HC.out W hSw); go_simp; (try with_reducible rfl)
        try simp only [Act.put, List.setIfInBounds_toArray, List.set_cons_zero, List.set_cons_succ]
        refine wpAnyH_take (i := 19) (oi := { dst := some 37, op := Op.nilCheck (Operand.tmp 36), type := 0, pos := "tiers.go:152", after := #[{ on := 18, ground := Ground.data }, { on := 12, ground := Ground.guard }], guard := some (12, false) }) (v := ?vq34) rfl (by kernel_rfl) (by kernel_rfl) (by kernel_rfl) (fun _ _ _ h => h) (Or.inl ⟨by rfl, ?hq34⟩) (by assumption) ?rq34
        case hq34 => intro W hSw; (try obtain ⟨z0, z1, z2, z3, y0, y1, y2, y3⟩ := HC.out W hSw); go_simp; (try with_reducible rfl)
        try simp only [Act.put, List.setIfInBounds_toArray, List.set_cons_zero, List.set_cons_succ]
        refine wpAnyH_take (i := 20) (oi := { dst := some 38, op := Op.fieldAddr 61 (Operand.tmp 37) 0, type := 0, pos := "tiers.go:152", after := #[{ on := 19, ground := Ground.data }, { on := 12, ground := Ground.guard }], guard := some (12, false) }) (v := ?vq35) rfl (by kernel_rfl) (by kernel_rfl) (by kernel_rfl) (fun _ _ _ h => h) (Or.inl ⟨by rfl, ?hq35⟩) (by assumption) ?rq35
        case hq35 => intro W hSw; (try obtain ⟨z0, z1, z2, z3, y0, y1, y2, y3⟩ := HC.out W hSw); go_simp; (try with_reducible rfl)
        try simp only [Act.put, List.setIfInBounds_toArray, List.set_cons_zero, List.set_cons_succ]
        refine wpAnyH_take (i := 21) (oi := { dst := some 39, op := Op.fieldAddr 58 (Operand.tmp 38) 0, type := 0, pos := "tiers.go:152", after := #[{ on := 20, ground := Ground.data }, { on := 12, ground := Ground.guard }], guard := some (12, false) }) (v := ?vq36) rfl (by kernel_rfl) (by kernel_rfl) (by kernel_rfl) (fun _ _ _ h => h) (Or.inl ⟨by rfl, ?hq36⟩) (by assumption) ?rq36
        case hq36 => intro W hSw; (try obtain ⟨z0, z1, z2, z3, y0, y1, y2, y3⟩ := HC.out W hSw); go_simp; (try with_reducible rfl)
        try simp only [Act.put, List.setIfInBounds_toArray, List.set_cons_zero, List.set_cons_succ]
        refine wpAnyH_take (i := 22) (oi := { dst := some 40, op := Op.load 3 (Operand.tmp 39), type := 3, pos := "tiers.go:152", after := #[{ on := 21, ground := Ground.data }, { on := 12, ground := Ground.guard }], guard := some (12, false) }) (v := ?vq37) rfl (by kernel_rfl) (by kernel_rfl) (by kernel_rfl) (fun _ _ _ h => h) (Or.inl ⟨by rfl, ?hq37⟩) (by assumption) ?rq37
        case hq37 => intro W hSw; (try obtain ⟨z0, z1, z2, z3, y0, y1, y2, y3⟩ := HC.out W hSw); go_simp; (try with_reducible rfl)
        try simp only [Act.put, List.setIfInBounds_toArray, List.set_cons_zero, List.set_cons_succ]
        refine wpAnyH_take (i := 23) (oi := { dst := some 41, op := Op.binOp BinOp.neq 3 (Operand.tmp 35) (Operand.tmp 40) 3, type := 4, pos := "tiers.go:152", after := #[{ on := 17, ground := Ground.data }, { on := 22, ground := Ground.data }, { on := 12, ground := Ground.guard }], guard := some (12, false) }) (v := ?vq38) rfl (by kernel_rfl) (by kernel_rfl) (by kernel_rfl) (fun _ _ _ h => h) (Or.inl ⟨by rfl, ?hq38⟩) (by assumption) ?rq38
        case hq38 => intro W hSw; (try obtain ⟨z0, z1, z2, z3, y0, y1, y2, y3⟩ := HC.out W hSw); go_simp; (try with_reducible rfl)
        try simp only [Act.put, List.setIfInBounds_toArray, List.set_cons_zero, List.set_cons_succ]
        refine wpAnyH_take (i := 24) (oi := { dst := some 42, op := Op.pick (Operand.tmp 30) (Operand.const (Value.bool true)) (Operand.tmp 41), type := 4, pos := "tiers.go:152", after := #[{ on := 12, ground := Ground.data }, { on := 23, ground := Ground.data }], guard := none }) (v := ?vq39) rfl (by kernel_rfl) (by kernel_rfl) (by kernel_rfl) (fun _ _ _ h => h) (Or.inl ⟨by rfl, ?hq39⟩) (by assumption) ?rq39
        case hq39 => intro W hSw; (try obtain ⟨z0, z1, z2, z3, y0, y1, y2, y3⟩ := HC.out W hSw); go_simp; (try with_reducible rfl)
        try simp only [Act.put, List.setIfInBounds_toArray, List.set_cons_zero, List.set_cons_succ]
        refine wpAnyH_take (i := 25) (oi := { dst := some 43, op := Op.move (Operand.tmp 42), type := 4, pos := "tiers.go:152", after := #[{ on := 24, ground := Ground.data }, { on := 12, ground := Ground.chain }], guard := none }) (v := ?vq40) rfl (by kernel_rfl) (by kernel_rfl) (by kernel_rfl) (fun _ _ _ h => h) (Or.inl ⟨by rfl, ?hq40⟩) (by assumption) ?rq40
        case hq40 => intro W hSw; (try obtain ⟨z0, z1, z2, z3, y0, y1, y2, y3⟩ := HC.out W hSw); go_simp; (try with_reducible rfl)
        try simp only [Act.put, List.setIfInBounds_toArray, List.set_cons_zero, List.set_cons_succ]
        refine wpAnyH_take (i := 26) (oi := { dst := some 44, op := Op.move (Operand.tmp 0), type := 25, pos := "tiers.go:152", after := #[{ on := 25, ground := Ground.guard }], guard := some (25, false) }) (v := ?vq41) rfl (by kernel_rfl) (by kernel_rfl) (by kernel_rfl) (fun _ _ _ h => h) (Or.inl ⟨by rfl, ?hq41⟩) (by assumption) ?rq41
        case hq41 => intro W hSw; (try obtain ⟨z0, z1, z2, z3, y0, y1, y2, y3⟩ := HC.out W hSw); go_simp; (try with_reducible rfl)
        try simp only [Act.put, List.setIfInBounds_toArray, List.set_cons_zero, List.set_cons_succ]
        refine wpAnyH_take (i := 27) (oi := { dst := some 45, op := Op.nilCheck (Operand.tmp 44), type := 0, pos := "tiers.go:152", after := #[{ on := 26, ground := Ground.data }, { on := 25, ground := Ground.guard }], guard := some (25, false) }) (v := ?vq42) rfl (by kernel_rfl) (by kernel_rfl) (by kernel_rfl) (fun _ _ _ h => h) (Or.inl ⟨by rfl, ?hq42⟩) (by assumption) ?rq42
        case hq42 => intro W hSw; (try obtain ⟨z0, z1, z2, z3, y0, y1, y2, y3⟩ := HC.out W hSw); go_simp; (try with_reducible rfl)
        try simp only [Act.put, List.setIfInBounds_toArray, List.set_cons_zero, List.set_cons_succ]
        refine wpAnyH_take (i := 28) (oi := { dst := some 46, op := Op.fieldAddr 61 (Operand.tmp 45) 0, type := 0, pos := "tiers.go:152", after := #[{ on := 27, ground := Ground.data }, { on := 25, ground := Ground.guard }], guard := some (25, false) }) (v := ?vq43) rfl (by kernel_rfl) (by kernel_rfl) (by kernel_rfl) (fun _ _ _ h => h) (Or.inl ⟨by rfl, ?hq43⟩) (by assumption) ?rq43
        case hq43 => intro W hSw; (try obtain ⟨z0, z1, z2, z3, y0, y1, y2, y3⟩ := HC.out W hSw); go_simp; (try with_reducible rfl)
        try simp only [Act.put, List.setIfInBounds_toArray, List.set_cons_zero, List.set_cons_succ]
        refine wpAnyH_take (i := 29) (oi := { dst := some 47, op := Op.load 58 (Operand.tmp 46), type := 58, pos := "tiers.go:152", after := #[{ on := 28, ground := Ground.data }, { on := 25, ground := Ground.guard }], guard := some (25, false) }) (v := ?vq44) rfl (by kernel_rfl) (by kernel_rfl) (by kernel_rfl) (fun _ _ _ h => h) (Or.inl ⟨by rfl, ?hq44⟩) (by assumption) ?rq44
        case hq44 => intro W hSw; (try obtain ⟨z0, z1, z2, z3, y0, y1, y2, y3⟩ := HC.out W hSw); go_simp; (try with_reducible rfl)
        try simp only [Act.put, List.setIfInBounds_toArray, List.set_cons_zero, List.set_cons_succ]
        refine wpAnyH_take (i := 31) (oi := { dst := some 49, op := Op.move (Operand.tmp 1), type := 25, pos := "tiers.go:152", after := #[{ on := 25, ground := Ground.guard }], guard := some (25, false) }) (v := ?vq45) rfl (by kernel_rfl) (by kernel_rfl) (by kernel_rfl) (fun _ _ _ h => h) (Or.inl ⟨by rfl, ?hq45⟩) (by assumption) ?rq45
        case hq45 => intro W hSw; (try obtain ⟨z0, z1, z2, z3, y0, y1, y2, y3⟩ := HC.out W hSw); go_simp; (try with_reducible rfl)
        try simp only [Act.put, List.setIfInBounds_toArray, List.set_cons_zero, List.set_cons_succ]
        refine wpAnyH_take (i := 32) (oi := { dst := some 50, op := Op.nilCheck (Operand.tmp 49), type := 0, pos := "tiers.go:152", after := #[{ on := 31, ground := Ground.data }, { on := 25, ground := Ground.guard }], guard := some (25, false) }) (v := ?vq46) rfl (by kernel_rfl) (by kernel_rfl) (by kernel_rfl) (fun _ _ _ h => h) (Or.inl ⟨by rfl, ?hq46⟩) (by assumption) ?rq46
        case hq46 => intro W hSw; (try obtain ⟨z0, z1, z2, z3, y0, y1, y2, y3⟩ := HC.out W hSw); go_simp; (try with_reducible rfl)
        try simp only [Act.put, List.setIfInBounds_toArray, List.set_cons_zero, List.set_cons_succ]
        refine wpAnyH_take (i := 33) (oi := { dst := some 51, op := Op.fieldAddr 61 (Operand.tmp 50) 0, type := 0, pos := "tiers.go:152", after := #[{ on := 32, ground := Ground.data }, { on := 25, ground := Ground.guard }], guard := some (25, false) }) (v := ?vq47) rfl (by kernel_rfl) (by kernel_rfl) (by kernel_rfl) (fun _ _ _ h => h) (Or.inl ⟨by rfl, ?hq47⟩) (by assumption) ?rq47
        case hq47 => intro W hSw; (try obtain ⟨z0, z1, z2, z3, y0, y1, y2, y3⟩ := HC.out W hSw); go_simp; (try with_reducible rfl)
        try simp only [Act.put, List.setIfInBounds_toArray, List.set_cons_zero, List.set_cons_succ]
        refine wpAnyH_take (i := 34) (oi := { dst := some 52, op := Op.load 58 (Operand.tmp 51), type := 58, pos := "tiers.go:152", after := #[{ on := 33, ground := Ground.data }, { on := 25, ground := Ground.guard }], guard := some (25, false) }) (v := ?vq48) rfl (by kernel_rfl) (by kernel_rfl) (by kernel_rfl) (fun _ _ _ h => h) (Or.inl ⟨by rfl, ?hq48⟩) (by assumption) ?rq48
        case hq48 => intro W hSw; (try obtain ⟨z0, z1, z2, z3, y0, y1, y2, y3⟩ := HC.out W hSw); go_simp; (try with_reducible rfl)
        try simp only [Act.put, List.setIfInBounds_toArray, List.set_cons_zero, List.set_cons_succ]
        refine wpAnyH_ready (rs := [30]) (by kernel_rfl) (by simp) ?_
        refine AllReadyH.cons (o := { dst := some 48, op := Op.call { callee := Callee.value (Operand.func 49), args := #[Operand.tmp 47], argTypes := #[58] }, type := 56, pos := "tiers.go:152", after := #[{ on := 29, ground := Ground.data }, { on := 25, ground := Ground.chain }, { on := 25, ground := Ground.guard }], guard := some (25, false) }) rfl (fun K hK => ?_) AllReadyH.nil
        go_simp
        go_wp2_with (first | (go_at_call 49; refine (HA1.out _ hHeld).mono ?_; rintro r w6 ⟨⟨R6, c6, rfl, r6⟩, b6⟩))
        refine hK.out _ _ (hHeld.trans (Fr.b0 b6) (fun _ h => h.elim)) (fun hHeld => ?_)
        clear hK K
        try simp only [Act.put, List.setIfInBounds_toArray, List.set_cons_zero, List.set_cons_succ]
        refine wpAnyH_ready (rs := [35]) (by kernel_rfl) (by simp) ?_
        refine AllReadyH.cons (o := { dst := some 53, op := Op.call { callee := Callee.value (Operand.func 49), args := #[Operand.tmp 52], argTypes := #[58] }, type := 56, pos := "tiers.go:152", after := #[{ on := 34, ground := Ground.data }, { on := 30, ground := Ground.chain }, { on := 25, ground := Ground.guard }], guard := some (25, false) }) rfl (fun K hK => ?_) AllReadyH.nil
        go_simp
        go_wp2_with (first | (go_at_call 49; refine (HA2.out _ hHeld).mono ?_; rintro r w7 ⟨⟨R7, c7, rfl, r7⟩, b7⟩))
        refine hK.out _ _ (hHeld.trans (Fr.b0 b7) (fun _ h => h.elim)) (fun hHeld => ?_)
        clear hK K
        try simp only [Act.put, List.setIfInBounds_toArray, List.set_cons_zero, List.set_cons_succ]
        refine wpAnyH_ready (rs := [36]) (by kernel_rfl) (by simp) ?_
        refine AllReadyH.cons (o := { dst := some 54, op := Op.call { callee := Callee.value (Operand.func 48), args := #[Operand.tmp 48, Operand.tmp 53], argTypes := #[56, 56] }, type := 4, pos := "tiers.go:152", after := #[{ on := 30, ground := Ground.data }, { on := 35, ground := Ground.data }, { on := 35, ground := Ground.chain }, { on := 25, ground := Ground.guard }], guard := some (25, false) }) rfl (fun K hK => ?_) AllReadyH.nil
        go_simp
        go_wp2_with (first | (go_at_call 48; refine (HQI.out _ R6 c6 R7 c7 (r6.fr0 (Fr.b0 b7)) r7).mono ?_; rintro r w8 ⟨rfl, b8⟩))
        refine hK.out _ _ (hHeld.trans (Fr.b0 b8) (fun _ h => h.elim)) (fun hHeld => ?_)
        clear hK K
        try simp only [Act.put, List.setIfInBounds_toArray, List.set_cons_zero, List.set_cons_succ]
        refine wpAnyH_take (i := 37) (oi := { dst := some 55, op := Op.unOp UnOp.not 4 (Operand.tmp 54), type := 4, pos := "tiers.go:152", after := #[{ on := 36, ground := Ground.data }, { on := 25, ground := Ground.guard }], guard := some (25, false) }) (v := ?vq49) rfl (by kernel_rfl) (by kernel_rfl) (by kernel_rfl) (fun _ _ _ h => h) (Or.inl ⟨by rfl, ?hq49⟩) (by assumption) ?rq49
        case hq49 => intro W hSw; (try obtain ⟨z0, z1, z2, z3, y0, y1, y2, y3⟩ := HC.out W hSw); go_simp; (try with_reducible rfl)
        try simp only [Act.put, List.setIfInBounds_toArray, List.set_cons_zero, List.set_cons_succ]
        refine wpAnyH_take (i := 38) (oi := { dst := some 56, op := Op.pick (Operand.tmp 43) (Operand.const (Value.bool true)) (Operand.tmp 55), type := 4, pos := "tiers.go:152", after := #[{ on := 25, ground := Ground.data }, { on := 37, ground := Ground.data }], guard := none }) (v := ?vq50) rfl (by kernel_rfl) (by kernel_rfl) (by kernel_rfl) (fun _ _ _ h => h) (Or.inl ⟨by rfl, ?hq50⟩) (by assumption) ?rq50
        case hq50 => intro W hSw; (try obtain ⟨z0, z1, z2, z3, y0, y1, y2, y3⟩ := HC.out W hSw); go_simp; (try with_reducible rfl)
        try simp only [Act.put, List.setIfInBounds_toArray, List.set_cons_zero, List.set_cons_succ]
        refine wpAnyH_done (by kernel_rfl) ?_ _
        go_wp2_with fail
        go_ret
        exact ⟨by rw [hS.out]; rfl, hHeld.below (fun _ h => h.elim)⟩
      | true =>
        have hS : Hid (SX = decide (X.tabs = Y.tabs)) := by show _ = _; rw [HS2.out]; simp
        go_enter Try.func21, Try.ntmps21
        go_wp2_with fail
        refine wp_region_held_drew (S := fun W => Fr (fun _ => False) w W) (by kernel_rfl) ((Fr.refl _ w).drew) (fun hHeld => ?_)
        refine wpAnyH_take (i := 0) (oi := { dst := some 18, op := Op.move (Operand.tmp 0), type := 25, pos := "tiers.go:152", after := #[], guard := none }) (v := ?vq51) rfl (by kernel_rfl) (by kernel_rfl) (by kernel_rfl) (fun _ _ _ h => h) (Or.inl ⟨by rfl, ?hq51⟩) (by assumption) ?rq51
        case hq51 => intro W hSw; (try obtain ⟨z0, z1, z2, z3, y0, y1, y2, y3⟩ := HC.out W hSw); go_simp; (try with_reducible rfl)
        try simp only [Act.put, List.setIfInBounds_toArray, List.set_cons_zero, List.set_cons_succ]
        refine wpAnyH_take (i := 1) (oi := { dst := some 19, op := Op.nilCheck (Operand.tmp 18), type := 0, pos := "tiers.go:152", after := #[{ on := 0, ground := Ground.data }], guard := none }) (v := ?vq52) rfl (by kernel_rfl) (by kernel_rfl) (by kernel_rfl) (fun _ _ _ h => h) (Or.inl ⟨by rfl, ?hq52⟩) (by assumption) ?rq52
        case hq52 => intro W hSw; (try obtain ⟨z0, z1, z2, z3, y0, y1, y2, y3⟩ := HC.out W hSw); go_simp; (try with_reducible rfl)
        try simp only [Act.put, List.setIfInBounds_toArray, List.set_cons_zero, List.set_cons_succ]
        refine wpAnyH_take (i := 2) (oi := { dst := some 20, op := Op.fieldAddr 61 (Operand.tmp 19) 0, type := 0, pos := "tiers.go:152", after := #[{ on := 1, ground := Ground.data }], guard := none }) (v := ?vq53) rfl (by kernel_rfl) (by kernel_rfl) (by kernel_rfl) (fun _ _ _ h => h) (Or.inl ⟨by rfl, ?hq53⟩) (by assumption) ?rq53
        case hq53 => intro W hSw; (try obtain ⟨z0, z1, z2, z3, y0, y1, y2, y3⟩ := HC.out W hSw); go_simp; (try with_reducible rfl)
        try simp only [Act.put, List.setIfInBounds_toArray, List.set_cons_zero, List.set_cons_succ]
        refine wpAnyH_take (i := 3) (oi := { dst := some 21, op := Op.fieldAddr 58 (Operand.tmp 20) 1, type := 0, pos := "tiers.go:152", after := #[{ on := 2, ground := Ground.data }], guard := none }) (v := ?vq54) rfl (by kernel_rfl) (by kernel_rfl) (by kernel_rfl) (fun _ _ _ h => h) (Or.inl ⟨by rfl, ?hq54⟩) (by assumption) ?rq54
        case hq54 => intro W hSw; (try obtain ⟨z0, z1, z2, z3, y0, y1, y2, y3⟩ := HC.out W hSw); go_simp; (try with_reducible rfl)
        try simp only [Act.put, List.setIfInBounds_toArray, List.set_cons_zero, List.set_cons_succ]
        refine wpAnyH_take (i := 4) (oi := { dst := some 22, op := Op.load 33 (Operand.tmp 21), type := 33, pos := "tiers.go:152", after := #[{ on := 3, ground := Ground.data }], guard := none }) (v := ?vq55) rfl (by kernel_rfl) (by kernel_rfl) (by kernel_rfl) (fun _ _ _ h => h) (Or.inl ⟨by rfl, ?hq55⟩) (by assumption) ?rq55
        case hq55 => intro W hSw; (try obtain ⟨z0, z1, z2, z3, y0, y1, y2, y3⟩ := HC.out W hSw); go_simp; (try with_reducible rfl)
        try simp only [Act.put, List.setIfInBounds_toArray, List.set_cons_zero, List.set_cons_succ]
        refine wpAnyH_take (i := 5) (oi := { dst := some 23, op := Op.move (Operand.tmp 1), type := 25, pos := "tiers.go:152", after := #[], guard := none }) (v := ?vq56) rfl (by kernel_rfl) (by kernel_rfl) (by kernel_rfl) (fun _ _ _ h => h) (Or.inl ⟨by rfl, ?hq56⟩) (by assumption) ?rq56
        case hq56 => intro W hSw; (try obtain ⟨z0, z1, z2, z3, y0, y1, y2, y3⟩ := HC.out W hSw); go_simp; (try with_reducible rfl)
        try simp only [Act.put, List.setIfInBounds_toArray, List.set_cons_zero, List.set_cons_succ]
        refine wpAnyH_take (i := 6) (oi := { dst := some 24, op := Op.nilCheck (Operand.tmp 23), type := 0, pos := "tiers.go:152", after := #[{ on := 5, ground := Ground.data }], guard := none }) (v := ?vq57) rfl (by kernel_rfl) (by kernel_rfl) (by kernel_rfl) (fun _ _ _ h => h) (Or.inl ⟨by rfl, ?hq57⟩) (by assumption) ?rq57
        case hq57 => intro W hSw; (try obtain ⟨z0, z1, z2, z3, y0, y1, y2, y3⟩ := HC.out W hSw); go_simp; (try with_reducible rfl)
        try simp only [Act.put, List.setIfInBounds_toArray, List.set_cons_zero, List.set_cons_succ]
        refine wpAnyH_take (i := 7) (oi := { dst := some 25, op := Op.fieldAddr 61 (Operand.tmp 24) 0, type := 0, pos := "tiers.go:152", after := #[{ on := 6, ground := Ground.data }], guard := none }) (v := ?vq58) rfl (by kernel_rfl) (by kernel_rfl) (by kernel_rfl) (fun _ _ _ h => h) (Or.inl ⟨by rfl, ?hq58⟩) (by assumption) ?rq58
        case hq58 => intro W hSw; (try obtain ⟨z0, z1, z2, z3, y0, y1, y2, y3⟩ := HC.out W hSw); go_simp; (try with_reducible rfl)
        try simp only [Act.put, List.setIfInBounds_toArray, List.set_cons_zero, List.set_cons_succ]
        refine wpAnyH_take (i := 8) (oi := { dst := some 26, op := Op.fieldAddr 58 (Operand.tmp 25) 1, type := 0, pos := "tiers.go:152", after := #[{ on := 7, ground := Ground.data }], guard := none }) (v := ?vq59) rfl (by kernel_rfl) (by kernel_rfl) (by kernel_rfl) (fun _ _ _ h => h) (Or.inl ⟨by rfl, ?hq59⟩) (by assumption) ?rq59
        case hq59 => intro W hSw; (try obtain ⟨z0, z1, z2, z3, y0, y1, y2, y3⟩ := HC.out W hSw); go_simp; (try with_reducible rfl)
        try simp only [Act.put, List.setIfInBounds_toArray, List.set_cons_zero, List.set_cons_succ]
        refine wpAnyH_take (i := 9) (oi := { dst := some 27, op := Op.load 33 (Operand.tmp 26), type := 33, pos := "tiers.go:152", after := #[{ on := 8, ground := Ground.data }], guard := none }) (v := ?vq60) rfl (by kernel_rfl) (by kernel_rfl) (by kernel_rfl) (fun _ _ _ h => h) (Or.inl ⟨by rfl, ?hq60⟩) (by assumption) ?rq60
        case hq60 => intro W hSw; (try obtain ⟨z0, z1, z2, z3, y0, y1, y2, y3⟩ := HC.out W hSw); go_simp; (try with_reducible rfl)
        try simp only [Act.put, List.setIfInBounds_toArray, List.set_cons_zero, List.set_cons_succ]
        refine wpAnyH_ready (rs := [10]) (by kernel_rfl) (by simp) ?_
        refine AllReadyH.cons (o := { dst := some 28, op := Op.call { callee := Callee.value (Operand.func 47), args := #[Operand.tmp 22, Operand.tmp 27], argTypes := #[33, 33] }, type := 4, pos := "tiers.go:152", after := #[{ on := 4, ground := Ground.data }, { on := 9, ground := Ground.data }], guard := none }) rfl (fun K hK => ?_) AllReadyH.nil
        go_simp
        go_wp2_with (first | (go_at_call 47; refine (HPs.out _ hHeld).mono ?_; rintro r w5 ⟨rfl, b5⟩))
        refine hK.out _ _ (hHeld.trans (Fr.b0 b5) (fun _ h => h.elim)) (fun hHeld => ?_)
        clear hK K
        try simp only [Act.put, List.setIfInBounds_toArray, List.set_cons_zero, List.set_cons_succ]
        refine wpAnyH_take (i := 11) (oi := { dst := some 29, op := Op.unOp UnOp.not 4 (Operand.tmp 28), type := 4, pos := "tiers.go:152", after := #[{ on := 10, ground := Ground.data }], guard := none }) (v := ?vq61) rfl (by kernel_rfl) (by kernel_rfl) (by kernel_rfl) (fun _ _ _ h => h) (Or.inl ⟨by rfl, ?hq61⟩) (by assumption) ?rq61
        case hq61 => intro W hSw; (try obtain ⟨z0, z1, z2, z3, y0, y1, y2, y3⟩ := HC.out W hSw); go_simp; (try with_reducible rfl)
        try simp only [Act.put, List.setIfInBounds_toArray, List.set_cons_zero, List.set_cons_succ]
        refine wpAnyH_take (i := 12) (oi := { dst := some 30, op := Op.move (Operand.tmp 29), type := 4, pos := "tiers.go:152", after := #[{ on := 11, ground := Ground.data }, { on := 10, ground := Ground.chain }], guard := none }) (v := ?vq62) rfl (by kernel_rfl) (by kernel_rfl) (by kernel_rfl) (fun _ _ _ h => h) (Or.inl ⟨by rfl, ?hq62⟩) (by assumption) ?rq62
        case hq62 => intro W hSw; (try obtain ⟨z0, z1, z2, z3, y0, y1, y2, y3⟩ := HC.out W hSw); go_simp; (try with_reducible rfl)
        try simp only [Act.put, List.setIfInBounds_toArray, List.set_cons_zero, List.set_cons_succ]
        refine wpAnyH_take (i := 13) (oi := { dst := some 31, op := Op.move (Operand.tmp 0), type := 25, pos := "tiers.go:152", after := #[{ on := 12, ground := Ground.guard }], guard := some (12, false) }) (v := ?vq63) rfl (by kernel_rfl) (by kernel_rfl) (by kernel_rfl) (fun _ _ _ h => h) (Or.inl ⟨by rfl, ?hq63⟩) (by assumption) ?rq63
        case hq63 => intro W hSw; (try obtain ⟨z0, z1, z2, z3, y0, y1, y2, y3⟩ := HC.out W hSw); go_simp; (try with_reducible rfl)
        try simp only [Act.put, List.setIfInBounds_toArray, List.set_cons_zero, List.set_cons_succ]
        refine wpAnyH_take (i := 14) (oi := { dst := some 32, op := Op.nilCheck (Operand.tmp 31), type := 0, pos := "tiers.go:152", after := #[{ on := 13, ground := Ground.data }, { on := 12, ground := Ground.guard }], guard := some (12, false) }) (v := ?vq64) rfl (by kernel_rfl) (by kernel_rfl) (by kernel_rfl) (fun _ _ _ h => h) (Or.inl ⟨by rfl, ?hq64⟩) (by assumption) ?rq64
        case hq64 => intro W hSw; (try obtain ⟨z0, z1, z2, z3, y0, y1, y2, y3⟩ := HC.out W hSw); go_simp; (try with_reducible rfl)
        try simp only [Act.put, List.setIfInBounds_toArray, List.set_cons_zero, List.set_cons_succ]
        refine wpAnyH_take (i := 15) (oi := { dst := some 33, op := Op.fieldAddr 61 (Operand.tmp 32) 0, type := 0, pos := "tiers.go:152", after := #[{ on := 14, ground := Ground.data }, { on := 12, ground := Ground.guard }], guard := some (12, false) }) (v := ?vq65) rfl (by kernel_rfl) (by kernel_rfl) (by kernel_rfl) (fun _ _ _ h => h) (Or.inl ⟨by rfl, ?hq65⟩) (by assumption) ?rq65
        case hq65 => intro W hSw; (try obtain ⟨z0, z1, z2, z3, y0, y1, y2, y3⟩ := HC.out W hSw); go_simp; (try with_reducible rfl)
        try simp only [Act.put, List.setIfInBounds_toArray, List.set_cons_zero, List.set_cons_succ]
        refine wpAnyH_take (i := 16) (oi := { dst := some 34, op := Op.fieldAddr 58 (Operand.tmp 33) 0, type := 0, pos := "tiers.go:152", after := #[{ on := 15, ground := Ground.data }, { on := 12, ground := Ground.guard }], guard := some (12, false) }) (v := ?vq66) rfl (by kernel_rfl) (by kernel_rfl) (by kernel_rfl) (fun _ _ _ h => h) (Or.inl ⟨by rfl, ?hq66⟩) (by assumption) ?rq66
        case hq66 => intro W hSw; (try obtain ⟨z0, z1, z2, z3, y0, y1, y2, y3⟩ := HC.out W hSw); go_simp; (try with_reducible rfl)
        try simp only [Act.put, List.setIfInBounds_toArray, List.set_cons_zero, List.set_cons_succ]
        refine wpAnyH_take (i := 17) (oi := { dst := some 35, op := Op.load 3 (Operand.tmp 34), type := 3, pos := "tiers.go:152", after := #[{ on := 16, ground := Ground.data }, { on := 12, ground := Ground.guard }], guard := some (12, false) }) (v := ?vq67) rfl (by kernel_rfl) (by kernel_rfl) (by kernel_rfl) (fun _ _ _ h => h) (Or.inl ⟨by rfl, ?hq67⟩) (by assumption) ?rq67
        case hq67 => intro W hSw; (try obtain ⟨z0, z1, z2, z3, y0, y1, y2, y3⟩ := HC.out W hSw); go_simp; (try with_reducible rfl)
        try simp only [Act.put, List.setIfInBounds_toArray, List.set_cons_zero, List.set_cons_succ]
        refine wpAnyH_take (i := 18) (oi := { dst := some 36, op := Op.move (Operand.tmp 1), type := 25, pos := "tiers.go:152", after := #[{ on := 12, ground := Ground.guard }], guard := some (12, false) }) (v := ?vq68) rfl (by kernel_rfl) (by kernel_rfl) (by kernel_rfl) (fun _ _ _ h => h) (Or.inl ⟨by rfl, ?hq68⟩) (by assumption) ?rq68
        case hq68 => intro W hSw; (try obtain ⟨z0, z1, z2, z3, y0, y1, y2, y3⟩ := HC.out W hSw); go_simp; (try with_reducible rfl)
        try simp only [Act.put, List.setIfInBounds_toArray, List.set_cons_zero, List.set_cons_succ]
        refine wpAnyH_take (i := 19) (oi := { dst := some 37, op := Op.nilCheck (Operand.tmp 36), type := 0, pos := "tiers.go:152", after := #[{ on := 18, ground := Ground.data }, { on := 12, ground := Ground.guard }], guard := some (12, false) }) (v := ?vq69) rfl (by kernel_rfl) (by kernel_rfl) (by kernel_rfl) (fun _ _ _ h => h) (Or.inl ⟨by rfl, ?hq69⟩) (by assumption) ?rq69
        case hq69 => intro W hSw; (try obtain ⟨z0, z1, z2, z3, y0, y1, y2, y3⟩ := HC.out W hSw); go_simp; (try with_reducible rfl)
        try simp only [Act.put, List.setIfInBounds_toArray, List.set_cons_zero, List.set_cons_succ]
        refine wpAnyH_take (i := 20) (oi := { dst := some 38, op := Op.fieldAddr 61 (Operand.tmp 37) 0, type := 0, pos := "tiers.go:152", after := #[{ on := 19, ground := Ground.data }, { on := 12, ground := Ground.guard }], guard := some (12, false) }) (v := ?vq70) rfl (by kernel_rfl) (by kernel_rfl) (by kernel_rfl) (fun _ _ _ h => h) (Or.inl ⟨by rfl, ?hq70⟩) (by assumption) ?rq70
        case hq70 => intro W hSw; (try obtain ⟨z0, z1, z2, z3, y0, y1, y2, y3⟩ := HC.out W hSw); go_simp; (try with_reducible rfl)
        try simp only [Act.put, List.setIfInBounds_toArray, List.set_cons_zero, List.set_cons_succ]
        refine wpAnyH_take (i := 21) (oi := { dst := some 39, op := Op.fieldAddr 58 (Operand.tmp 38) 0, type := 0, pos := "tiers.go:152", after := #[{ on := 20, ground := Ground.data }, { on := 12, ground := Ground.guard }], guard := some (12, false) }) (v := ?vq71) rfl (by kernel_rfl) (by kernel_rfl) (by kernel_rfl) (fun _ _ _ h => h) (Or.inl ⟨by rfl, ?hq71⟩) (by assumption) ?rq71
        case hq71 => intro W hSw; (try obtain ⟨z0, z1, z2, z3, y0, y1, y2, y3⟩ := HC.out W hSw); go_simp; (try with_reducible rfl)
        try simp only [Act.put, List.setIfInBounds_toArray, List.set_cons_zero, List.set_cons_succ]
        refine wpAnyH_take (i := 22) (oi := { dst := some 40, op := Op.load 3 (Operand.tmp 39), type := 3, pos := "tiers.go:152", after := #[{ on := 21, ground := Ground.data }, { on := 12, ground := Ground.guard }], guard := some (12, false) }) (v := ?vq72) rfl (by kernel_rfl) (by kernel_rfl) (by kernel_rfl) (fun _ _ _ h => h) (Or.inl ⟨by rfl, ?hq72⟩) (by assumption) ?rq72
        case hq72 => intro W hSw; (try obtain ⟨z0, z1, z2, z3, y0, y1, y2, y3⟩ := HC.out W hSw); go_simp; (try with_reducible rfl)
        try simp only [Act.put, List.setIfInBounds_toArray, List.set_cons_zero, List.set_cons_succ]
        refine wpAnyH_take (i := 23) (oi := { dst := some 41, op := Op.binOp BinOp.neq 3 (Operand.tmp 35) (Operand.tmp 40) 3, type := 4, pos := "tiers.go:152", after := #[{ on := 17, ground := Ground.data }, { on := 22, ground := Ground.data }, { on := 12, ground := Ground.guard }], guard := some (12, false) }) (v := ?vq73) rfl (by kernel_rfl) (by kernel_rfl) (by kernel_rfl) (fun _ _ _ h => h) (Or.inl ⟨by rfl, ?hq73⟩) (by assumption) ?rq73
        case hq73 => intro W hSw; (try obtain ⟨z0, z1, z2, z3, y0, y1, y2, y3⟩ := HC.out W hSw); go_simp; (try with_reducible rfl)
        try simp only [Act.put, List.setIfInBounds_toArray, List.set_cons_zero, List.set_cons_succ]
        refine wpAnyH_take (i := 24) (oi := { dst := some 42, op := Op.pick (Operand.tmp 30) (Operand.const (Value.bool true)) (Operand.tmp 41), type := 4, pos := "tiers.go:152", after := #[{ on := 12, ground := Ground.data }, { on := 23, ground := Ground.data }], guard := none }) (v := ?vq74) rfl (by kernel_rfl) (by kernel_rfl) (by kernel_rfl) (fun _ _ _ h => h) (Or.inl ⟨by rfl, ?hq74⟩) (by assumption) ?rq74
        case hq74 => intro W hSw; (try obtain ⟨z0, z1, z2, z3, y0, y1, y2, y3⟩ := HC.out W hSw); go_simp; (try with_reducible rfl)
        try simp only [Act.put, List.setIfInBounds_toArray, List.set_cons_zero, List.set_cons_succ]
        refine wpAnyH_take (i := 25) (oi := { dst := some 43, op := Op.move (Operand.tmp 42), type := 4, pos := "tiers.go:152", after := #[{ on := 24, ground := Ground.data }, { on := 12, ground := Ground.chain }], guard := none }) (v := ?vq75) rfl (by kernel_rfl) (by kernel_rfl) (by kernel_rfl) (fun _ _ _ h => h) (Or.inl ⟨by rfl, ?hq75⟩) (by assumption) ?rq75
        case hq75 => intro W hSw; (try obtain ⟨z0, z1, z2, z3, y0, y1, y2, y3⟩ := HC.out W hSw); go_simp; (try with_reducible rfl)
        try simp only [Act.put, List.setIfInBounds_toArray, List.set_cons_zero, List.set_cons_succ]
        refine wpAnyH_take (i := 26) (oi := { dst := some 44, op := Op.move (Operand.tmp 0), type := 25, pos := "tiers.go:152", after := #[{ on := 25, ground := Ground.guard }], guard := some (25, false) }) (v := ?vq76) rfl (by kernel_rfl) (by kernel_rfl) (by kernel_rfl) (fun _ _ _ h => h) (Or.inl ⟨by rfl, ?hq76⟩) (by assumption) ?rq76
        case hq76 => intro W hSw; (try obtain ⟨z0, z1, z2, z3, y0, y1, y2, y3⟩ := HC.out W hSw); go_simp; (try with_reducible rfl)
        try simp only [Act.put, List.setIfInBounds_toArray, List.set_cons_zero, List.set_cons_succ]
        refine wpAnyH_take (i := 27) (oi := { dst := some 45, op := Op.nilCheck (Operand.tmp 44), type := 0, pos := "tiers.go:152", after := #[{ on := 26, ground := Ground.data }, { on := 25, ground := Ground.guard }], guard := some (25, false) }) (v := ?vq77) rfl (by kernel_rfl) (by kernel_rfl) (by kernel_rfl) (fun _ _ _ h => h) (Or.inl ⟨by rfl, ?hq77⟩) (by assumption) ?rq77
        case hq77 => intro W hSw; (try obtain ⟨z0, z1, z2, z3, y0, y1, y2, y3⟩ := HC.out W hSw); go_simp; (try with_reducible rfl)
        try simp only [Act.put, List.setIfInBounds_toArray, List.set_cons_zero, List.set_cons_succ]
        refine wpAnyH_take (i := 28) (oi := { dst := some 46, op := Op.fieldAddr 61 (Operand.tmp 45) 0, type := 0, pos := "tiers.go:152", after := #[{ on := 27, ground := Ground.data }, { on := 25, ground := Ground.guard }], guard := some (25, false) }) (v := ?vq78) rfl (by kernel_rfl) (by kernel_rfl) (by kernel_rfl) (fun _ _ _ h => h) (Or.inl ⟨by rfl, ?hq78⟩) (by assumption) ?rq78
        case hq78 => intro W hSw; (try obtain ⟨z0, z1, z2, z3, y0, y1, y2, y3⟩ := HC.out W hSw); go_simp; (try with_reducible rfl)
        try simp only [Act.put, List.setIfInBounds_toArray, List.set_cons_zero, List.set_cons_succ]
        refine wpAnyH_take (i := 29) (oi := { dst := some 47, op := Op.load 58 (Operand.tmp 46), type := 58, pos := "tiers.go:152", after := #[{ on := 28, ground := Ground.data }, { on := 25, ground := Ground.guard }], guard := some (25, false) }) (v := ?vq79) rfl (by kernel_rfl) (by kernel_rfl) (by kernel_rfl) (fun _ _ _ h => h) (Or.inl ⟨by rfl, ?hq79⟩) (by assumption) ?rq79
        case hq79 => intro W hSw; (try obtain ⟨z0, z1, z2, z3, y0, y1, y2, y3⟩ := HC.out W hSw); go_simp; (try with_reducible rfl)
        try simp only [Act.put, List.setIfInBounds_toArray, List.set_cons_zero, List.set_cons_succ]
        refine wpAnyH_take (i := 31) (oi := { dst := some 49, op := Op.move (Operand.tmp 1), type := 25, pos := "tiers.go:152", after := #[{ on := 25, ground := Ground.guard }], guard := some (25, false) }) (v := ?vq80) rfl (by kernel_rfl) (by kernel_rfl) (by kernel_rfl) (fun _ _ _ h => h) (Or.inl ⟨by rfl, ?hq80⟩) (by assumption) ?rq80
        case hq80 => intro W hSw; (try obtain ⟨z0, z1, z2, z3, y0, y1, y2, y3⟩ := HC.out W hSw); go_simp; (try with_reducible rfl)
        try simp only [Act.put, List.setIfInBounds_toArray, List.set_cons_zero, List.set_cons_succ]
        refine wpAnyH_take (i := 32) (oi := { dst := some 50, op := Op.nilCheck (Operand.tmp 49), type := 0, pos := "tiers.go:152", after := #[{ on := 31, ground := Ground.data }, { on := 25, ground := Ground.guard }], guard := some (25, false) }) (v := ?vq81) rfl (by kernel_rfl) (by kernel_rfl) (by kernel_rfl) (fun _ _ _ h => h) (Or.inl ⟨by rfl, ?hq81⟩) (by assumption) ?rq81
        case hq81 => intro W hSw; (try obtain ⟨z0, z1, z2, z3, y0, y1, y2, y3⟩ := HC.out W hSw); go_simp; (try with_reducible rfl)
        try simp only [Act.put, List.setIfInBounds_toArray, List.set_cons_zero, List.set_cons_succ]
        refine wpAnyH_take (i := 33) (oi := { dst := some 51, op := Op.fieldAddr 61 (Operand.tmp 50) 0, type := 0, pos := "tiers.go:152", after := #[{ on := 32, ground := Ground.data }, { on := 25, ground := Ground.guard }], guard := some (25, false) }) (v := ?vq82) rfl (by kernel_rfl) (by kernel_rfl) (by kernel_rfl) (fun _ _ _ h => h) (Or.inl ⟨by rfl, ?hq82⟩) (by assumption) ?rq82
        case hq82 => intro W hSw; (try obtain ⟨z0, z1, z2, z3, y0, y1, y2, y3⟩ := HC.out W hSw); go_simp; (try with_reducible rfl)
        try simp only [Act.put, List.setIfInBounds_toArray, List.set_cons_zero, List.set_cons_succ]
        refine wpAnyH_take (i := 34) (oi := { dst := some 52, op := Op.load 58 (Operand.tmp 51), type := 58, pos := "tiers.go:152", after := #[{ on := 33, ground := Ground.data }, { on := 25, ground := Ground.guard }], guard := some (25, false) }) (v := ?vq83) rfl (by kernel_rfl) (by kernel_rfl) (by kernel_rfl) (fun _ _ _ h => h) (Or.inl ⟨by rfl, ?hq83⟩) (by assumption) ?rq83
        case hq83 => intro W hSw; (try obtain ⟨z0, z1, z2, z3, y0, y1, y2, y3⟩ := HC.out W hSw); go_simp; (try with_reducible rfl)
        try simp only [Act.put, List.setIfInBounds_toArray, List.set_cons_zero, List.set_cons_succ]
        refine wpAnyH_ready (rs := [30]) (by kernel_rfl) (by simp) ?_
        refine AllReadyH.cons (o := { dst := some 48, op := Op.call { callee := Callee.value (Operand.func 49), args := #[Operand.tmp 47], argTypes := #[58] }, type := 56, pos := "tiers.go:152", after := #[{ on := 29, ground := Ground.data }, { on := 25, ground := Ground.chain }, { on := 25, ground := Ground.guard }], guard := some (25, false) }) rfl (fun K hK => ?_) AllReadyH.nil
        go_simp
        go_wp2_with (first | (go_at_call 49; refine (HA1.out _ hHeld).mono ?_; rintro r w6 ⟨⟨R6, c6, rfl, r6⟩, b6⟩))
        refine hK.out _ _ (hHeld.trans (Fr.b0 b6) (fun _ h => h.elim)) (fun hHeld => ?_)
        clear hK K
        try simp only [Act.put, List.setIfInBounds_toArray, List.set_cons_zero, List.set_cons_succ]
        refine wpAnyH_ready (rs := [35]) (by kernel_rfl) (by simp) ?_
        refine AllReadyH.cons (o := { dst := some 53, op := Op.call { callee := Callee.value (Operand.func 49), args := #[Operand.tmp 52], argTypes := #[58] }, type := 56, pos := "tiers.go:152", after := #[{ on := 34, ground := Ground.data }, { on := 30, ground := Ground.chain }, { on := 25, ground := Ground.guard }], guard := some (25, false) }) rfl (fun K hK => ?_) AllReadyH.nil
        go_simp
        go_wp2_with (first | (go_at_call 49; refine (HA2.out _ hHeld).mono ?_; rintro r w7 ⟨⟨R7, c7, rfl, r7⟩, b7⟩))
        refine hK.out _ _ (hHeld.trans (Fr.b0 b7) (fun _ h => h.elim)) (fun hHeld => ?_)
        clear hK K
        try simp only [Act.put, List.setIfInBounds_toArray, List.set_cons_zero, List.set_cons_succ]
        refine wpAnyH_ready (rs := [36]) (by kernel_rfl) (by simp) ?_
        refine AllReadyH.cons (o := { dst := some 54, op := Op.call { callee := Callee.value (Operand.func 48), args := #[Operand.tmp 48, Operand.tmp 53], argTypes := #[56, 56] }, type := 4, pos := "tiers.go:152", after := #[{ on := 30, ground := Ground.data }, { on := 35, ground := Ground.data }, { on := 35, ground := Ground.chain }, { on := 25, ground := Ground.guard }], guard := some (25, false) }) rfl (fun K hK => ?_) AllReadyH.nil
        go_simp
        go_wp2_with (first | (go_at_call 48; refine (HQI.out _ R6 c6 R7 c7 (r6.fr0 (Fr.b0 b7)) r7).mono ?_; rintro r w8 ⟨rfl, b8⟩))
        refine hK.out _ _ (hHeld.trans (Fr.b0 b8) (fun _ h => h.elim)) (fun hHeld => ?_)
        clear hK K
        try simp only [Act.put, List.setIfInBounds_toArray, List.set_cons_zero, List.set_cons_succ]
        refine wpAnyH_take (i := 37) (oi := { dst := some 55, op := Op.unOp UnOp.not 4 (Operand.tmp 54), type := 4, pos := "tiers.go:152", after := #[{ on := 36, ground := Ground.data }, { on := 25, ground := Ground.guard }], guard := some (25, false) }) (v := ?vq84) rfl (by kernel_rfl) (by kernel_rfl) (by kernel_rfl) (fun _ _ _ h => h) (Or.inl ⟨by rfl, ?hq84⟩) (by assumption) ?rq84
        case hq84 => intro W hSw; (try obtain ⟨z0, z1, z2, z3, y0, y1, y2, y3⟩ := HC.out W hSw); go_simp; (try with_reducible rfl)
        try simp only [Act.put, List.setIfInBounds_toArray, List.set_cons_zero, List.set_cons_succ]
        refine wpAnyH_take (i := 38) (oi := { dst := some 56, op := Op.pick (Operand.tmp 43) (Operand.const (Value.bool true)) (Operand.tmp 55), type := 4, pos := "tiers.go:152", after := #[{ on := 25, ground := Ground.data }, { on := 37, ground := Ground.data }], guard := none }) (v := ?vq85) rfl (by kernel_rfl) (by kernel_rfl) (by kernel_rfl) (fun _ _ _ h => h) (Or.inl ⟨by rfl, ?hq85⟩) (by assumption) ?rq85
        case hq85 => intro W hSw; (try obtain ⟨z0, z1, z2, z3, y0, y1, y2, y3⟩ := HC.out W hSw); go_simp; (try with_reducible rfl)
        try simp only [Act.put, List.setIfInBounds_toArray, List.set_cons_zero, List.set_cons_succ]
        refine wpAnyH_done (by kernel_rfl) ?_ _
        have F8 := Lib.hid hHeld
        obtain ⟨z0, z1, z2, z3, y0, y1, y2, y3⟩ := HC.out _ hHeld
        clear r6 r7 b5 b6 b7 b8 hHeld y0 y1 y2 y3
        go_wp2_with fail
        go_loopw [64] (fun i wr => ∃ k : Nat, k ≤ lx ∧ i = .int .i64 k ∧ Hid (X.tabs.take k = Y.tabs.take k) ∧ Fr (fun _ => False) w wr) (fun i _ => lx - (intOf i).toNat)
        case atStart => exact ⟨0, Nat.zero_le _, rfl, rfl, F8.out⟩
        case round =>
          obtain ⟨k, hk, rfl, htk, ho⟩ := hrel
          have Ho := Lib.hid ho
          clear ho
          by_cases hlt : k < lx
          · obtain ⟨L, hL⟩ : ∃ L, X.tabs[k]? = some L := ⟨_, List.getElem?_eq_getElem (by rw [Htx.out]; exact hlt)⟩
            obtain ⟨M, hM⟩ : ∃ M, Y.tabs[k]? = some M := ⟨_, List.getElem?_eq_getElem (by rw [Hty.out]; exact hlt)⟩
            have HL := Lib.hid hL
            have HM := Lib.hid hM
            have H1 := Lib.hid (HR1.out wr k L Ho.out hlt hL)
            have H2 := Lib.hid (fun W f => HR2.out W k M f hlt hM)
            have hL6 := Lib.hid (HlX.out L (mem_of_get hL))
            have hM6 := Lib.hid (HlY.out M (mem_of_get hM))
            clear hL hM
            have hkw : IntKind.i64.wrap ((k : Int) + 1) = (k : Int) + 1 := by have := Hn.out; simp [IntKind.wrap, IntKind.signed, IntKind.bits]; omega
            go_wp2_with fail
            refine H1.out.mono ?_
            rintro r wa ⟨⟨Aa, ca, rfl, ra⟩, ba⟩
            have Fa := Lib.hid (Ho.out.trans (Fr.b0 ba) (fun _ h => h.elim))
            have Ra := Lib.hid ra
            clear ra ba
            go_wp2_with fail
            refine (H2.out wa Fa.out).mono ?_
            rintro r wb ⟨⟨Ab, cb, rfl, rb⟩, bb⟩
            have Fb := Lib.hid (Fa.out.trans (Fr.b0 bb) (fun _ h => h.elim))
            have HQ := Lib.hid (eqrecs_any L M Aa L.length ca Ab M.length cb wb (Ra.out.fr0 (Fr.b0 bb)) rb (by have := hL6.out; omega) (by have := hM6.out; omega))
            clear rb bb
            go_wp2_with fail
            refine HQ.out.mono ?_
            rintro r wc ⟨rfl, bc⟩
            have Fc := Lib.hid (Fb.out.trans (Fr.b0 bc) (fun _ h => h.elim))
            clear bc HQ
            by_cases hLM : L = M
            · have hd : decide (L = M) = true := decide_eq_true hLM
              have htk2 : Hid (X.tabs.take (k + 1) = Y.tabs.take (k + 1)) := by show _ = _; rw [take_snoc HL.out, take_snoc HM.out, htk.out, hLM]
              rw [hd]
              clear hLM hd
              go_wp2_with fail
              go_roundw
              case rel => exact ⟨k + 1, by omega, by go_num, htk2.out, Fc.out⟩
              case measure => simp [intOf]; omega
            · have hd : decide (L = M) = false := decide_eq_false hLM
              have hne : Hid (decide (X.tabs = Y.tabs) = false) := by
                refine decide_eq_false fun h => ?_
                have h1 := HL.out
                have h2 := HM.out
                rw [h] at h1
                rw [h1] at h2
                exact hLM (Option.some.inj h2)
              rw [hd]
              clear hLM hd
              go_wp2_with fail
              go_ret
              exact ⟨by rw [hS.out, hne.out]; rfl, Fc.out.below (fun _ h => h.elim)⟩
          · obtain rfl : k = lx := by omega
            have hE : Hid (decide (X.tabs = Y.tabs) = true) := by
              refine decide_eq_true ?_
              have h := htk.out
              rwa [take_all (by rw [Htx.out]; exact Nat.le_refl _), take_all (by rw [Hty.out]; exact Nat.le_refl _)] at h
            go_wp2_with fail
            go_ret
            exact ⟨by rw [hS.out, hE.out]; rfl, Ho.out.below (fun _ h => h.elim)⟩
    · have hS : Hid (SX = false) := by show _ = _; rw [HS2.out, decide_eq_false hnow]; simp
      have hn1 : (nx == ny) = false := by simpa using hnow
      have hn2 : decide (nx = ny) = false := decide_eq_false hnow
      have hn3 : (nx != ny) = true := by simpa using hnow
      go_enter Try.func21, Try.ntmps21
      go_wp2_with fail
      refine wp_region_held_drew (S := fun W => Fr (fun _ => False) w W) (by kernel_rfl) ((Fr.refl _ w).drew) (fun hHeld => ?_)
      refine wpAnyH_take (i := 0) (oi := { dst := some 18, op := Op.move (Operand.tmp 0), type := 25, pos := "tiers.go:152", after := #[], guard := none }) (v := ?vq86) rfl (by kernel_rfl) (by kernel_rfl) (by kernel_rfl) (fun _ _ _ h => h) (Or.inl ⟨by rfl, ?hq86⟩) (by assumption) ?rq86
      case hq86 => intro W hSw; (try obtain ⟨z0, z1, z2, z3, y0, y1, y2, y3⟩ := HC.out W hSw); go_simp; (try with_reducible rfl)
      try simp only [Act.put, List.setIfInBounds_toArray, List.set_cons_zero, List.set_cons_succ]
      refine wpAnyH_take (i := 1) (oi := { dst := some 19, op := Op.nilCheck (Operand.tmp 18), type := 0, pos := "tiers.go:152", after := #[{ on := 0, ground := Ground.data }], guard := none }) (v := ?vq87) rfl (by kernel_rfl) (by kernel_rfl) (by kernel_rfl) (fun _ _ _ h => h) (Or.inl ⟨by rfl, ?hq87⟩) (by assumption) ?rq87
      case hq87 => intro W hSw; (try obtain ⟨z0, z1, z2, z3, y0, y1, y2, y3⟩ := HC.out W hSw); go_simp; (try with_reducible rfl)
      try simp only [Act.put, List.setIfInBounds_toArray, List.set_cons_zero, List.set_cons_succ]
      refine wpAnyH_take (i := 2) (oi := { dst := some 20, op := Op.fieldAddr 61 (Operand.tmp 19) 0, type := 0, pos := "tiers.go:152", after := #[{ on := 1, ground := Ground.data }], guard := none }) (v := ?vq88) rfl (by kernel_rfl) (by kernel_rfl) (by kernel_rfl) (fun _ _ _ h => h) (Or.inl ⟨by rfl, ?hq88⟩) (by assumption) ?rq88
      case hq88 => intro W hSw; (try obtain ⟨z0, z1, z2, z3, y0, y1, y2, y3⟩ := HC.out W hSw); go_simp; (try with_reducible rfl)
      try simp only [Act.put, List.setIfInBounds_toArray, List.set_cons_zero, List.set_cons_succ]
      refine wpAnyH_take (i := 3) (oi := { dst := some 21, op := Op.fieldAddr 58 (Operand.tmp 20) 1, type := 0, pos := "tiers.go:152", after := #[{ on := 2, ground := Ground.data }], guard := none }) (v := ?vq89) rfl (by kernel_rfl) (by kernel_rfl) (by kernel_rfl) (fun _ _ _ h => h) (Or.inl ⟨by rfl, ?hq89⟩) (by assumption) ?rq89
      case hq89 => intro W hSw; (try obtain ⟨z0, z1, z2, z3, y0, y1, y2, y3⟩ := HC.out W hSw); go_simp; (try with_reducible rfl)
      try simp only [Act.put, List.setIfInBounds_toArray, List.set_cons_zero, List.set_cons_succ]
      refine wpAnyH_take (i := 4) (oi := { dst := some 22, op := Op.load 33 (Operand.tmp 21), type := 33, pos := "tiers.go:152", after := #[{ on := 3, ground := Ground.data }], guard := none }) (v := ?vq90) rfl (by kernel_rfl) (by kernel_rfl) (by kernel_rfl) (fun _ _ _ h => h) (Or.inl ⟨by rfl, ?hq90⟩) (by assumption) ?rq90
      case hq90 => intro W hSw; (try obtain ⟨z0, z1, z2, z3, y0, y1, y2, y3⟩ := HC.out W hSw); go_simp; (try with_reducible rfl)
      try simp only [Act.put, List.setIfInBounds_toArray, List.set_cons_zero, List.set_cons_succ]
      refine wpAnyH_take (i := 5) (oi := { dst := some 23, op := Op.move (Operand.tmp 1), type := 25, pos := "tiers.go:152", after := #[], guard := none }) (v := ?vq91) rfl (by kernel_rfl) (by kernel_rfl) (by kernel_rfl) (fun _ _ _ h => h) (Or.inl ⟨by rfl, ?hq91⟩) (by assumption) ?rq91
      case hq91 => intro W hSw; (try obtain ⟨z0, z1, z2, z3, y0, y1, y2, y3⟩ := HC.out W hSw); go_simp; (try with_reducible rfl)
      try simp only [Act.put, List.setIfInBounds_toArray, List.set_cons_zero, List.set_cons_succ]
      refine wpAnyH_take (i := 6) (oi := { dst := some 24, op := Op.nilCheck (Operand.tmp 23), type := 0, pos := "tiers.go:152", after := #[{ on := 5, ground := Ground.data }], guard := none }) (v := ?vq92) rfl (by kernel_rfl) (by kernel_rfl) (by kernel_rfl) (fun _ _ _ h => h) (Or.inl ⟨by rfl, ?hq92⟩) (by assumption) ?rq92
      case hq92 => intro W hSw; (try obtain ⟨z0, z1, z2, z3, y0, y1, y2, y3⟩ := HC.out W hSw); go_simp; (try with_reducible rfl)
      try simp only [Act.put, List.setIfInBounds_toArray, List.set_cons_zero, List.set_cons_succ]
      refine wpAnyH_take (i := 7) (oi := { dst := some 25, op := Op.fieldAddr 61 (Operand.tmp 24) 0, type := 0, pos := "tiers.go:152", after := #[{ on := 6, ground := Ground.data }], guard := none }) (v := ?vq93) rfl (by kernel_rfl) (by kernel_rfl) (by kernel_rfl) (fun _ _ _ h => h) (Or.inl ⟨by rfl, ?hq93⟩) (by assumption) ?rq93
      case hq93 => intro W hSw; (try obtain ⟨z0, z1, z2, z3, y0, y1, y2, y3⟩ := HC.out W hSw); go_simp; (try with_reducible rfl)
      try simp only [Act.put, List.setIfInBounds_toArray, List.set_cons_zero, List.set_cons_succ]
      refine wpAnyH_take (i := 8) (oi := { dst := some 26, op := Op.fieldAddr 58 (Operand.tmp 25) 1, type := 0, pos := "tiers.go:152", after := #[{ on := 7, ground := Ground.data }], guard := none }) (v := ?vq94) rfl (by kernel_rfl) (by kernel_rfl) (by kernel_rfl) (fun _ _ _ h => h) (Or.inl ⟨by rfl, ?hq94⟩) (by assumption) ?rq94
      case hq94 => intro W hSw; (try obtain ⟨z0, z1, z2, z3, y0, y1, y2, y3⟩ := HC.out W hSw); go_simp; (try with_reducible rfl)
      try simp only [Act.put, List.setIfInBounds_toArray, List.set_cons_zero, List.set_cons_succ]
      refine wpAnyH_take (i := 9) (oi := { dst := some 27, op := Op.load 33 (Operand.tmp 26), type := 33, pos := "tiers.go:152", after := #[{ on := 8, ground := Ground.data }], guard := none }) (v := ?vq95) rfl (by kernel_rfl) (by kernel_rfl) (by kernel_rfl) (fun _ _ _ h => h) (Or.inl ⟨by rfl, ?hq95⟩) (by assumption) ?rq95
      case hq95 => intro W hSw; (try obtain ⟨z0, z1, z2, z3, y0, y1, y2, y3⟩ := HC.out W hSw); go_simp; (try with_reducible rfl)
      try simp only [Act.put, List.setIfInBounds_toArray, List.set_cons_zero, List.set_cons_succ]
      refine wpAnyH_ready (rs := [10]) (by kernel_rfl) (by simp) ?_
      refine AllReadyH.cons (o := { dst := some 28, op := Op.call { callee := Callee.value (Operand.func 47), args := #[Operand.tmp 22, Operand.tmp 27], argTypes := #[33, 33] }, type := 4, pos := "tiers.go:152", after := #[{ on := 4, ground := Ground.data }, { on := 9, ground := Ground.data }], guard := none }) rfl (fun K hK => ?_) AllReadyH.nil
      go_simp
      go_wp2_with (first | (go_at_call 47; refine (HPs.out _ hHeld).mono ?_; rintro r w5 ⟨rfl, b5⟩))
      refine hK.out _ _ (hHeld.trans (Fr.b0 b5) (fun _ h => h.elim)) (fun hHeld => ?_)
      clear hK K
      try simp only [Act.put, List.setIfInBounds_toArray, List.set_cons_zero, List.set_cons_succ]
      refine wpAnyH_take (i := 11) (oi := { dst := some 29, op := Op.unOp UnOp.not 4 (Operand.tmp 28), type := 4, pos := "tiers.go:152", after := #[{ on := 10, ground := Ground.data }], guard := none }) (v := ?vq96) rfl (by kernel_rfl) (by kernel_rfl) (by kernel_rfl) (fun _ _ _ h => h) (Or.inl ⟨by rfl, ?hq96⟩) (by assumption) ?rq96
      case hq96 => intro W hSw; (try obtain ⟨z0, z1, z2, z3, y0, y1, y2, y3⟩ := HC.out W hSw); go_simp; (try with_reducible rfl)
      try simp only [Act.put, List.setIfInBounds_toArray, List.set_cons_zero, List.set_cons_succ]
      refine wpAnyH_take (i := 12) (oi := { dst := some 30, op := Op.move (Operand.tmp 29), type := 4, pos := "tiers.go:152", after := #[{ on := 11, ground := Ground.data }, { on := 10, ground := Ground.chain }], guard := none }) (v := ?vq97) rfl (by kernel_rfl) (by kernel_rfl) (by kernel_rfl) (fun _ _ _ h => h) (Or.inl ⟨by rfl, ?hq97⟩) (by assumption) ?rq97
      case hq97 => intro W hSw; (try obtain ⟨z0, z1, z2, z3, y0, y1, y2, y3⟩ := HC.out W hSw); go_simp; (try with_reducible rfl)
      try simp only [Act.put, List.setIfInBounds_toArray, List.set_cons_zero, List.set_cons_succ]
      refine wpAnyH_take (i := 13) (oi := { dst := some 31, op := Op.move (Operand.tmp 0), type := 25, pos := "tiers.go:152", after := #[{ on := 12, ground := Ground.guard }], guard := some (12, false) }) (v := ?vq98) rfl (by kernel_rfl) (by kernel_rfl) (by kernel_rfl) (fun _ _ _ h => h) (Or.inl ⟨by rfl, ?hq98⟩) (by assumption) ?rq98
      case hq98 => intro W hSw; (try obtain ⟨z0, z1, z2, z3, y0, y1, y2, y3⟩ := HC.out W hSw); go_simp; (try with_reducible rfl)
      try simp only [Act.put, List.setIfInBounds_toArray, List.set_cons_zero, List.set_cons_succ]
      refine wpAnyH_take (i := 14) (oi := { dst := some 32, op := Op.nilCheck (Operand.tmp 31), type := 0, pos := "tiers.go:152", after := #[{ on := 13, ground := Ground.data }, { on := 12, ground := Ground.guard }], guard := some (12, false) }) (v := ?vq99) rfl (by kernel_rfl) (by kernel_rfl) (by kernel_rfl) (fun _ _ _ h => h) (Or.inl ⟨by rfl, ?hq99⟩) (by assumption) ?rq99
      case hq99 => intro W hSw; (try obtain ⟨z0, z1, z2, z3, y0, y1, y2, y3⟩ := HC.out W hSw); go_simp; (try with_reducible rfl)
      try simp only [Act.put, List.setIfInBounds_toArray, List.set_cons_zero, List.set_cons_succ]
      refine wpAnyH_take (i := 15) (oi := { dst := some 33, op := Op.fieldAddr 61 (Operand.tmp 32) 0, type := 0, pos := "tiers.go:152", after := #[{ on := 14, ground := Ground.data }, { on := 12, ground := Ground.guard }], guard := some (12, false) }) (v := ?vq100) rfl (by kernel_rfl) (by kernel_rfl) (by kernel_rfl) (fun _ _ _ h => h) (Or.inl ⟨by rfl, ?hq100⟩) (by assumption) ?rq100
      case hq100 => intro W hSw; (try obtain ⟨z0, z1, z2, z3, y0, y1, y2, y3⟩ := HC.out W hSw); go_simp; (try with_reducible rfl)
      try simp only [Act.put, List.setIfInBounds_toArray, List.set_cons_zero, List.set_cons_succ]
      refine wpAnyH_take (i := 16) (oi := { dst := some 34, op := Op.fieldAddr 58 (Operand.tmp 33) 0, type := 0, pos := "tiers.go:152", after := #[{ on := 15, ground := Ground.data }, { on := 12, ground := Ground.guard }], guard := some (12, false) }) (v := ?vq101) rfl (by kernel_rfl) (by kernel_rfl) (by kernel_rfl) (fun _ _ _ h => h) (Or.inl ⟨by rfl, ?hq101⟩) (by assumption) ?rq101
      case hq101 => intro W hSw; (try obtain ⟨z0, z1, z2, z3, y0, y1, y2, y3⟩ := HC.out W hSw); go_simp; (try with_reducible rfl)
      try simp only [Act.put, List.setIfInBounds_toArray, List.set_cons_zero, List.set_cons_succ]
      refine wpAnyH_take (i := 17) (oi := { dst := some 35, op := Op.load 3 (Operand.tmp 34), type := 3, pos := "tiers.go:152", after := #[{ on := 16, ground := Ground.data }, { on := 12, ground := Ground.guard }], guard := some (12, false) }) (v := ?vq102) rfl (by kernel_rfl) (by kernel_rfl) (by kernel_rfl) (fun _ _ _ h => h) (Or.inl ⟨by rfl, ?hq102⟩) (by assumption) ?rq102
      case hq102 => intro W hSw; (try obtain ⟨z0, z1, z2, z3, y0, y1, y2, y3⟩ := HC.out W hSw); go_simp; (try with_reducible rfl)
      try simp only [Act.put, List.setIfInBounds_toArray, List.set_cons_zero, List.set_cons_succ]
      refine wpAnyH_take (i := 18) (oi := { dst := some 36, op := Op.move (Operand.tmp 1), type := 25, pos := "tiers.go:152", after := #[{ on := 12, ground := Ground.guard }], guard := some (12, false) }) (v := ?vq103) rfl (by kernel_rfl) (by kernel_rfl) (by kernel_rfl) (fun _ _ _ h => h) (Or.inl ⟨by rfl, ?hq103⟩) (by assumption) ?rq103
      case hq103 => intro W hSw; (try obtain ⟨z0, z1, z2, z3, y0, y1, y2, y3⟩ := HC.out W hSw); go_simp; (try with_reducible rfl)
      try simp only [Act.put, List.setIfInBounds_toArray, List.set_cons_zero, List.set_cons_succ]
      refine wpAnyH_take (i := 19) (oi := { dst := some 37, op := Op.nilCheck (Operand.tmp 36), type := 0, pos := "tiers.go:152", after := #[{ on := 18, ground := Ground.data }, { on := 12, ground := Ground.guard }], guard := some (12, false) }) (v := ?vq104) rfl (by kernel_rfl) (by kernel_rfl) (by kernel_rfl) (fun _ _ _ h => h) (Or.inl ⟨by rfl, ?hq104⟩) (by assumption) ?rq104
      case hq104 => intro W hSw; (try obtain ⟨z0, z1, z2, z3, y0, y1, y2, y3⟩ := HC.out W hSw); go_simp; (try with_reducible rfl)
      try simp only [Act.put, List.setIfInBounds_toArray, List.set_cons_zero, List.set_cons_succ]
      refine wpAnyH_take (i := 20) (oi := { dst := some 38, op := Op.fieldAddr 61 (Operand.tmp 37) 0, type := 0, pos := "tiers.go:152", after := #[{ on := 19, ground := Ground.data }, { on := 12, ground := Ground.guard }], guard := some (12, false) }) (v := ?vq105) rfl (by kernel_rfl) (by kernel_rfl) (by kernel_rfl) (fun _ _ _ h => h) (Or.inl ⟨by rfl, ?hq105⟩) (by assumption) ?rq105
      case hq105 => intro W hSw; (try obtain ⟨z0, z1, z2, z3, y0, y1, y2, y3⟩ := HC.out W hSw); go_simp; (try with_reducible rfl)
      try simp only [Act.put, List.setIfInBounds_toArray, List.set_cons_zero, List.set_cons_succ]
      refine wpAnyH_take (i := 21) (oi := { dst := some 39, op := Op.fieldAddr 58 (Operand.tmp 38) 0, type := 0, pos := "tiers.go:152", after := #[{ on := 20, ground := Ground.data }, { on := 12, ground := Ground.guard }], guard := some (12, false) }) (v := ?vq106) rfl (by kernel_rfl) (by kernel_rfl) (by kernel_rfl) (fun _ _ _ h => h) (Or.inl ⟨by rfl, ?hq106⟩) (by assumption) ?rq106
      case hq106 => intro W hSw; (try obtain ⟨z0, z1, z2, z3, y0, y1, y2, y3⟩ := HC.out W hSw); go_simp; (try with_reducible rfl)
      try simp only [Act.put, List.setIfInBounds_toArray, List.set_cons_zero, List.set_cons_succ]
      refine wpAnyH_take (i := 22) (oi := { dst := some 40, op := Op.load 3 (Operand.tmp 39), type := 3, pos := "tiers.go:152", after := #[{ on := 21, ground := Ground.data }, { on := 12, ground := Ground.guard }], guard := some (12, false) }) (v := ?vq107) rfl (by kernel_rfl) (by kernel_rfl) (by kernel_rfl) (fun _ _ _ h => h) (Or.inl ⟨by rfl, ?hq107⟩) (by assumption) ?rq107
      case hq107 => intro W hSw; (try obtain ⟨z0, z1, z2, z3, y0, y1, y2, y3⟩ := HC.out W hSw); go_simp; (try with_reducible rfl)
      try simp only [Act.put, List.setIfInBounds_toArray, List.set_cons_zero, List.set_cons_succ]
      refine wpAnyH_take (i := 23) (oi := { dst := some 41, op := Op.binOp BinOp.neq 3 (Operand.tmp 35) (Operand.tmp 40) 3, type := 4, pos := "tiers.go:152", after := #[{ on := 17, ground := Ground.data }, { on := 22, ground := Ground.data }, { on := 12, ground := Ground.guard }], guard := some (12, false) }) (v := ?vq108) rfl (by kernel_rfl) (by kernel_rfl) (by kernel_rfl) (fun _ _ _ h => h) (Or.inl ⟨by rfl, ?hq108⟩) (by assumption) ?rq108
      case hq108 => intro W hSw; (try obtain ⟨z0, z1, z2, z3, y0, y1, y2, y3⟩ := HC.out W hSw); go_simp; (try with_reducible rfl)
      try simp only [Act.put, List.setIfInBounds_toArray, List.set_cons_zero, List.set_cons_succ]
      refine wpAnyH_take (i := 24) (oi := { dst := some 42, op := Op.pick (Operand.tmp 30) (Operand.const (Value.bool true)) (Operand.tmp 41), type := 4, pos := "tiers.go:152", after := #[{ on := 12, ground := Ground.data }, { on := 23, ground := Ground.data }], guard := none }) (v := ?vq109) rfl (by kernel_rfl) (by kernel_rfl) (by kernel_rfl) (fun _ _ _ h => h) (Or.inl ⟨by rfl, ?hq109⟩) (by assumption) ?rq109
      case hq109 => intro W hSw; (try obtain ⟨z0, z1, z2, z3, y0, y1, y2, y3⟩ := HC.out W hSw); go_simp; (try with_reducible rfl)
      try simp only [Act.put, List.setIfInBounds_toArray, List.set_cons_zero, List.set_cons_succ]
      refine wpAnyH_take (i := 25) (oi := { dst := some 43, op := Op.move (Operand.tmp 42), type := 4, pos := "tiers.go:152", after := #[{ on := 24, ground := Ground.data }, { on := 12, ground := Ground.chain }], guard := none }) (v := ?vq110) rfl (by kernel_rfl) (by kernel_rfl) (by kernel_rfl) (fun _ _ _ h => h) (Or.inl ⟨by rfl, ?hq110⟩) (by assumption) ?rq110
      case hq110 => intro W hSw; (try obtain ⟨z0, z1, z2, z3, y0, y1, y2, y3⟩ := HC.out W hSw); go_simp; (try with_reducible rfl)
      try simp only [Act.put, List.setIfInBounds_toArray, List.set_cons_zero, List.set_cons_succ]
      refine wpAnyH_take (i := 26) (oi := { dst := some 44, op := Op.move (Operand.tmp 0), type := 25, pos := "tiers.go:152", after := #[{ on := 25, ground := Ground.guard }], guard := some (25, false) }) (v := undef) rfl (by kernel_rfl) (by kernel_rfl) (by kernel_rfl) (fun _ _ _ h => h) (Or.inr ⟨by rfl, rfl⟩) (by assumption) ?_
      try simp only [Act.put, List.setIfInBounds_toArray, List.set_cons_zero, List.set_cons_succ]
      refine wpAnyH_take (i := 27) (oi := { dst := some 45, op := Op.nilCheck (Operand.tmp 44), type := 0, pos := "tiers.go:152", after := #[{ on := 26, ground := Ground.data }, { on := 25, ground := Ground.guard }], guard := some (25, false) }) (v := undef) rfl (by kernel_rfl) (by kernel_rfl) (by kernel_rfl) (fun _ _ _ h => h) (Or.inr ⟨by rfl, rfl⟩) (by assumption) ?_
      try simp only [Act.put, List.setIfInBounds_toArray, List.set_cons_zero, List.set_cons_succ]
      refine wpAnyH_take (i := 28) (oi := { dst := some 46, op := Op.fieldAddr 61 (Operand.tmp 45) 0, type := 0, pos := "tiers.go:152", after := #[{ on := 27, ground := Ground.data }, { on := 25, ground := Ground.guard }], guard := some (25, false) }) (v := undef) rfl (by kernel_rfl) (by kernel_rfl) (by kernel_rfl) (fun _ _ _ h => h) (Or.inr ⟨by rfl, rfl⟩) (by assumption) ?_
      try simp only [Act.put, List.setIfInBounds_toArray, List.set_cons_zero, List.set_cons_succ]
      refine wpAnyH_take (i := 29) (oi := { dst := some 47, op := Op.load 58 (Operand.tmp 46), type := 58, pos := "tiers.go:152", after := #[{ on := 28, ground := Ground.data }, { on := 25, ground := Ground.guard }], guard := some (25, false) }) (v := undef) rfl (by kernel_rfl) (by kernel_rfl) (by kernel_rfl) (fun _ _ _ h => h) (Or.inr ⟨by rfl, rfl⟩) (by assumption) ?_
      try simp only [Act.put, List.setIfInBounds_toArray, List.set_cons_zero, List.set_cons_succ]
      refine wpAnyH_take (i := 30) (oi := { dst := some 48, op := Op.call { callee := Callee.value (Operand.func 49), args := #[Operand.tmp 47], argTypes := #[58] }, type := 56, pos := "tiers.go:152", after := #[{ on := 29, ground := Ground.data }, { on := 25, ground := Ground.chain }, { on := 25, ground := Ground.guard }], guard := some (25, false) }) (v := undef) rfl (by kernel_rfl) (by kernel_rfl) (by kernel_rfl) (fun _ _ _ h => h) (Or.inr ⟨by rfl, rfl⟩) (by assumption) ?_
      try simp only [Act.put, List.setIfInBounds_toArray, List.set_cons_zero, List.set_cons_succ]
      refine wpAnyH_take (i := 31) (oi := { dst := some 49, op := Op.move (Operand.tmp 1), type := 25, pos := "tiers.go:152", after := #[{ on := 25, ground := Ground.guard }], guard := some (25, false) }) (v := undef) rfl (by kernel_rfl) (by kernel_rfl) (by kernel_rfl) (fun _ _ _ h => h) (Or.inr ⟨by rfl, rfl⟩) (by assumption) ?_
      try simp only [Act.put, List.setIfInBounds_toArray, List.set_cons_zero, List.set_cons_succ]
      refine wpAnyH_take (i := 32) (oi := { dst := some 50, op := Op.nilCheck (Operand.tmp 49), type := 0, pos := "tiers.go:152", after := #[{ on := 31, ground := Ground.data }, { on := 25, ground := Ground.guard }], guard := some (25, false) }) (v := undef) rfl (by kernel_rfl) (by kernel_rfl) (by kernel_rfl) (fun _ _ _ h => h) (Or.inr ⟨by rfl, rfl⟩) (by assumption) ?_
      try simp only [Act.put, List.setIfInBounds_toArray, List.set_cons_zero, List.set_cons_succ]
      refine wpAnyH_take (i := 33) (oi := { dst := some 51, op := Op.fieldAddr 61 (Operand.tmp 50) 0, type := 0, pos := "tiers.go:152", after := #[{ on := 32, ground := Ground.data }, { on := 25, ground := Ground.guard }], guard := some (25, false) }) (v := undef) rfl (by kernel_rfl) (by kernel_rfl) (by kernel_rfl) (fun _ _ _ h => h) (Or.inr ⟨by rfl, rfl⟩) (by assumption) ?_
      try simp only [Act.put, List.setIfInBounds_toArray, List.set_cons_zero, List.set_cons_succ]
      refine wpAnyH_take (i := 34) (oi := { dst := some 52, op := Op.load 58 (Operand.tmp 51), type := 58, pos := "tiers.go:152", after := #[{ on := 33, ground := Ground.data }, { on := 25, ground := Ground.guard }], guard := some (25, false) }) (v := undef) rfl (by kernel_rfl) (by kernel_rfl) (by kernel_rfl) (fun _ _ _ h => h) (Or.inr ⟨by rfl, rfl⟩) (by assumption) ?_
      try simp only [Act.put, List.setIfInBounds_toArray, List.set_cons_zero, List.set_cons_succ]
      refine wpAnyH_take (i := 35) (oi := { dst := some 53, op := Op.call { callee := Callee.value (Operand.func 49), args := #[Operand.tmp 52], argTypes := #[58] }, type := 56, pos := "tiers.go:152", after := #[{ on := 34, ground := Ground.data }, { on := 30, ground := Ground.chain }, { on := 25, ground := Ground.guard }], guard := some (25, false) }) (v := undef) rfl (by kernel_rfl) (by kernel_rfl) (by kernel_rfl) (fun _ _ _ h => h) (Or.inr ⟨by rfl, rfl⟩) (by assumption) ?_
      try simp only [Act.put, List.setIfInBounds_toArray, List.set_cons_zero, List.set_cons_succ]
      refine wpAnyH_take (i := 36) (oi := { dst := some 54, op := Op.call { callee := Callee.value (Operand.func 48), args := #[Operand.tmp 48, Operand.tmp 53], argTypes := #[56, 56] }, type := 4, pos := "tiers.go:152", after := #[{ on := 30, ground := Ground.data }, { on := 35, ground := Ground.data }, { on := 35, ground := Ground.chain }, { on := 25, ground := Ground.guard }], guard := some (25, false) }) (v := undef) rfl (by kernel_rfl) (by kernel_rfl) (by kernel_rfl) (fun _ _ _ h => h) (Or.inr ⟨by rfl, rfl⟩) (by assumption) ?_
      try simp only [Act.put, List.setIfInBounds_toArray, List.set_cons_zero, List.set_cons_succ]
      refine wpAnyH_take (i := 37) (oi := { dst := some 55, op := Op.unOp UnOp.not 4 (Operand.tmp 54), type := 4, pos := "tiers.go:152", after := #[{ on := 36, ground := Ground.data }, { on := 25, ground := Ground.guard }], guard := some (25, false) }) (v := undef) rfl (by kernel_rfl) (by kernel_rfl) (by kernel_rfl) (fun _ _ _ h => h) (Or.inr ⟨by rfl, rfl⟩) (by assumption) ?_
      try simp only [Act.put, List.setIfInBounds_toArray, List.set_cons_zero, List.set_cons_succ]
      refine wpAnyH_take (i := 38) (oi := { dst := some 56, op := Op.pick (Operand.tmp 43) (Operand.const (Value.bool true)) (Operand.tmp 55), type := 4, pos := "tiers.go:152", after := #[{ on := 25, ground := Ground.data }, { on := 37, ground := Ground.data }], guard := none }) (v := ?vq111) rfl (by kernel_rfl) (by kernel_rfl) (by kernel_rfl) (fun _ _ _ h => h) (Or.inl ⟨by rfl, ?hq111⟩) (by assumption) ?rq111
      case hq111 => intro W hSw; (try obtain ⟨z0, z1, z2, z3, y0, y1, y2, y3⟩ := HC.out W hSw); go_simp; (try with_reducible rfl)
      try simp only [Act.put, List.setIfInBounds_toArray, List.set_cons_zero, List.set_cons_succ]
      refine wpAnyH_done (by kernel_rfl) ?_ _
      go_wp2_with fail
      go_ret
      exact ⟨by rw [hS.out]; rfl, hHeld.below (fun _ h => h.elim)⟩
end Go.Proofs.Ytlhhcancfgjfkaa
