/- Walk of tiers: Copy. -/
import Derived.Test.YtlhhcancfgjfkaaTiersNew
namespace Go.Proofs.Ytlhhcancfgjfkaa
set_option linter.all false
open Go.RowKit

theorem below_none {w w1 w' : World} (h1 : Fr (fun _ => False) w w1) (h2 : Fr (fun j => w.heap.size ≤ j) w1 w') : Fr (fun _ => False) w w' := h1.trans h2 (fun _ h => .inr h)

set_option maxRecDepth 100000 in
set_option maxHeartbeats 8000000 in
theorem tcopy_any (t base : Nat) (X : TiersX) (w : World) (h : TiersAt w t base X) (hn : X.tiers.length ≤ 1099511627776) (hm : X.floors.length ≤ 1099511627776) :
    Calls Try.prog 25 #[.pointer (some ⟨t, 0, none⟩)] w fun r w' => (∃ t', r = .returned (.pointer (some ⟨t', 0, none⟩)) ∧ TiersAt w' t' w.heap.size X) ∧ Below w.heap.size w w' := by
  obtain ⟨A, c, B, d, T0, ct0, tb0, hin⟩ := h
  have HOf : Hid (∀ w', Fr (fun _ => False) w w' → Calls Try.prog 37 #[.agg #[.string X.name, .slice A X.tiers.length c], .int .i64 X.now, .slice B X.floors.length d] w' fun r w'' => (∃ A' c' B' d', r = .returned (.agg #[.int .i64 X.now, .string X.name, .slice A' X.tiers.length c', .slice B' X.floors.length d']) ∧ w''.ownsRow w.heap.size 30 4 (.slice A' X.tiers.length c') X.tiers.length (tcells X.tiers) ∧ w''.ownsRow w.heap.size 3 1 (.slice B' X.floors.length d') X.floors.length (ints X.floors) ∧ w.heap.size ≤ w''.heap.size) ∧ Below w'.heap.size w' w'') :=
    fun w' h => by
      refine (of_own X.name X.tiers A X.tiers.length c X.now X.floors B X.floors.length d w' ((own_any hin.tiers).2.2.1.fr0 h) hn ((own_any hin.floors).2.2.1.fr0 h) hm).mono ?_
      rintro r w'' ⟨⟨A', c', B', d', e, h1, h2⟩, b⟩
      exact ⟨⟨A', c', B', d', e, own_le h1 h.size, own_le h2 h.size, Nat.le_trans h.size b.size⟩, b⟩
  have Hin := Lib.hid hin
  have HC : Hid (∀ W, Fr (fun _ => False) w W → W.cell? ⟨t, 0, none⟩ = some (.int .i64 X.now) ∧ W.cell? ⟨t, 1, none⟩ = some (.string X.name) ∧ W.cell? ⟨t, 2, none⟩ = some (.slice A X.tiers.length c) ∧ W.cell? ⟨t, 3, none⟩ = some (.slice B X.floors.length d) ∧ W.cell? ⟨t, 4, none⟩ = some (.slice T0 X.tiers.length ct0)) := fun W f => ⟨(hin.blk.fr f (fun h => h)).cell 0, (hin.blk.fr f (fun h => h)).cell 1, (hin.blk.fr f (fun h => h)).cell 2, (hin.blk.fr f (fun h => h)).cell 3, (hin.blk.fr f (fun h => h)).cell 4⟩
  clear hin
  obtain ⟨i0, hi, hz0, hz1, hz2⟩ := info_parts info_ptab
  go_enter Try.func25, Try.ntmps25
  go_wp2_with fail
  refine wp_region_held_drew (S := fun W => Fr (fun _ => False) w W) (by kernel_rfl) ((Fr.refl _ w).drew) (fun hHeld => ?_)
  refine wpAnyH_take (i := 0) (oi := { dst := some 8, op := Op.move (Operand.tmp 0), type := 25, pos := "tiers.go:168", after := #[], guard := none }) (v := ?vq1) rfl (by kernel_rfl) (by kernel_rfl) (by kernel_rfl) (fun _ _ _ h => h) (Or.inl ⟨by rfl, ?hq1⟩) (by assumption) ?rq1
  case hq1 => intro W hSw; (try obtain ⟨a0, a1, a2, a3, a4⟩ := HC.out W hSw); go_simp; (try with_reducible rfl)
  try simp only [Act.put, List.setIfInBounds_toArray, List.set_cons_zero, List.set_cons_succ]
  refine wpAnyH_take (i := 1) (oi := { dst := some 9, op := Op.nilCheck (Operand.tmp 8), type := 0, pos := "tiers.go:168", after := #[{ on := 0, ground := Ground.data }], guard := none }) (v := ?vq2) rfl (by kernel_rfl) (by kernel_rfl) (by kernel_rfl) (fun _ _ _ h => h) (Or.inl ⟨by rfl, ?hq2⟩) (by assumption) ?rq2
  case hq2 => intro W hSw; (try obtain ⟨a0, a1, a2, a3, a4⟩ := HC.out W hSw); go_simp; (try with_reducible rfl)
  try simp only [Act.put, List.setIfInBounds_toArray, List.set_cons_zero, List.set_cons_succ]
  refine wpAnyH_take (i := 2) (oi := { dst := some 10, op := Op.fieldAddr 61 (Operand.tmp 9) 0, type := 0, pos := "tiers.go:168", after := #[{ on := 1, ground := Ground.data }], guard := none }) (v := ?vq3) rfl (by kernel_rfl) (by kernel_rfl) (by kernel_rfl) (fun _ _ _ h => h) (Or.inl ⟨by rfl, ?hq3⟩) (by assumption) ?rq3
  case hq3 => intro W hSw; (try obtain ⟨a0, a1, a2, a3, a4⟩ := HC.out W hSw); go_simp; (try with_reducible rfl)
  try simp only [Act.put, List.setIfInBounds_toArray, List.set_cons_zero, List.set_cons_succ]
  refine wpAnyH_take (i := 3) (oi := { dst := some 11, op := Op.fieldAddr 58 (Operand.tmp 10) 1, type := 0, pos := "tiers.go:168", after := #[{ on := 2, ground := Ground.data }], guard := none }) (v := ?vq4) rfl (by kernel_rfl) (by kernel_rfl) (by kernel_rfl) (fun _ _ _ h => h) (Or.inl ⟨by rfl, ?hq4⟩) (by assumption) ?rq4
  case hq4 => intro W hSw; (try obtain ⟨a0, a1, a2, a3, a4⟩ := HC.out W hSw); go_simp; (try with_reducible rfl)
  try simp only [Act.put, List.setIfInBounds_toArray, List.set_cons_zero, List.set_cons_succ]
  refine wpAnyH_take (i := 4) (oi := { dst := some 12, op := Op.load 33 (Operand.tmp 11), type := 33, pos := "tiers.go:168", after := #[{ on := 3, ground := Ground.data }], guard := none }) (v := ?vq5) rfl (by kernel_rfl) (by kernel_rfl) (by kernel_rfl) (fun _ _ _ h => h) (Or.inl ⟨by rfl, ?hq5⟩) (by assumption) ?rq5
  case hq5 => intro W hSw; (try obtain ⟨a0, a1, a2, a3, a4⟩ := HC.out W hSw); go_simp; (try with_reducible rfl)
  try simp only [Act.put, List.setIfInBounds_toArray, List.set_cons_zero, List.set_cons_succ]
  refine wpAnyH_take (i := 5) (oi := { dst := some 13, op := Op.move (Operand.tmp 0), type := 25, pos := "tiers.go:168", after := #[], guard := none }) (v := ?vq6) rfl (by kernel_rfl) (by kernel_rfl) (by kernel_rfl) (fun _ _ _ h => h) (Or.inl ⟨by rfl, ?hq6⟩) (by assumption) ?rq6
  case hq6 => intro W hSw; (try obtain ⟨a0, a1, a2, a3, a4⟩ := HC.out W hSw); go_simp; (try with_reducible rfl)
  try simp only [Act.put, List.setIfInBounds_toArray, List.set_cons_zero, List.set_cons_succ]
  refine wpAnyH_take (i := 6) (oi := { dst := some 14, op := Op.nilCheck (Operand.tmp 13), type := 0, pos := "tiers.go:168", after := #[{ on := 5, ground := Ground.data }], guard := none }) (v := ?vq7) rfl (by kernel_rfl) (by kernel_rfl) (by kernel_rfl) (fun _ _ _ h => h) (Or.inl ⟨by rfl, ?hq7⟩) (by assumption) ?rq7
  case hq7 => intro W hSw; (try obtain ⟨a0, a1, a2, a3, a4⟩ := HC.out W hSw); go_simp; (try with_reducible rfl)
  try simp only [Act.put, List.setIfInBounds_toArray, List.set_cons_zero, List.set_cons_succ]
  refine wpAnyH_take (i := 7) (oi := { dst := some 15, op := Op.fieldAddr 61 (Operand.tmp 14) 0, type := 0, pos := "tiers.go:168", after := #[{ on := 6, ground := Ground.data }], guard := none }) (v := ?vq8) rfl (by kernel_rfl) (by kernel_rfl) (by kernel_rfl) (fun _ _ _ h => h) (Or.inl ⟨by rfl, ?hq8⟩) (by assumption) ?rq8
  case hq8 => intro W hSw; (try obtain ⟨a0, a1, a2, a3, a4⟩ := HC.out W hSw); go_simp; (try with_reducible rfl)
  try simp only [Act.put, List.setIfInBounds_toArray, List.set_cons_zero, List.set_cons_succ]
  refine wpAnyH_take (i := 8) (oi := { dst := some 16, op := Op.fieldAddr 58 (Operand.tmp 15) 0, type := 0, pos := "tiers.go:168", after := #[{ on := 7, ground := Ground.data }], guard := none }) (v := ?vq9) rfl (by kernel_rfl) (by kernel_rfl) (by kernel_rfl) (fun _ _ _ h => h) (Or.inl ⟨by rfl, ?hq9⟩) (by assumption) ?rq9
  case hq9 => intro W hSw; (try obtain ⟨a0, a1, a2, a3, a4⟩ := HC.out W hSw); go_simp; (try with_reducible rfl)
  try simp only [Act.put, List.setIfInBounds_toArray, List.set_cons_zero, List.set_cons_succ]
  refine wpAnyH_take (i := 9) (oi := { dst := some 17, op := Op.load 3 (Operand.tmp 16), type := 3, pos := "tiers.go:168", after := #[{ on := 8, ground := Ground.data }], guard := none }) (v := ?vq10) rfl (by kernel_rfl) (by kernel_rfl) (by kernel_rfl) (fun _ _ _ h => h) (Or.inl ⟨by rfl, ?hq10⟩) (by assumption) ?rq10
  case hq10 => intro W hSw; (try obtain ⟨a0, a1, a2, a3, a4⟩ := HC.out W hSw); go_simp; (try with_reducible rfl)
  try simp only [Act.put, List.setIfInBounds_toArray, List.set_cons_zero, List.set_cons_succ]
  refine wpAnyH_take (i := 10) (oi := { dst := some 18, op := Op.move (Operand.tmp 0), type := 25, pos := "tiers.go:168", after := #[], guard := none }) (v := ?vq11) rfl (by kernel_rfl) (by kernel_rfl) (by kernel_rfl) (fun _ _ _ h => h) (Or.inl ⟨by rfl, ?hq11⟩) (by assumption) ?rq11
  case hq11 => intro W hSw; (try obtain ⟨a0, a1, a2, a3, a4⟩ := HC.out W hSw); go_simp; (try with_reducible rfl)
  try simp only [Act.put, List.setIfInBounds_toArray, List.set_cons_zero, List.set_cons_succ]
  refine wpAnyH_take (i := 11) (oi := { dst := some 19, op := Op.nilCheck (Operand.tmp 18), type := 0, pos := "tiers.go:168", after := #[{ on := 10, ground := Ground.data }], guard := none }) (v := ?vq12) rfl (by kernel_rfl) (by kernel_rfl) (by kernel_rfl) (fun _ _ _ h => h) (Or.inl ⟨by rfl, ?hq12⟩) (by assumption) ?rq12
  case hq12 => intro W hSw; (try obtain ⟨a0, a1, a2, a3, a4⟩ := HC.out W hSw); go_simp; (try with_reducible rfl)
  try simp only [Act.put, List.setIfInBounds_toArray, List.set_cons_zero, List.set_cons_succ]
  refine wpAnyH_take (i := 12) (oi := { dst := some 20, op := Op.fieldAddr 61 (Operand.tmp 19) 0, type := 0, pos := "tiers.go:168", after := #[{ on := 11, ground := Ground.data }], guard := none }) (v := ?vq13) rfl (by kernel_rfl) (by kernel_rfl) (by kernel_rfl) (fun _ _ _ h => h) (Or.inl ⟨by rfl, ?hq13⟩) (by assumption) ?rq13
  case hq13 => intro W hSw; (try obtain ⟨a0, a1, a2, a3, a4⟩ := HC.out W hSw); go_simp; (try with_reducible rfl)
  try simp only [Act.put, List.setIfInBounds_toArray, List.set_cons_zero, List.set_cons_succ]
  refine wpAnyH_take (i := 13) (oi := { dst := some 21, op := Op.fieldAddr 58 (Operand.tmp 20) 2, type := 0, pos := "tiers.go:168", after := #[{ on := 12, ground := Ground.data }], guard := none }) (v := ?vq14) rfl (by kernel_rfl) (by kernel_rfl) (by kernel_rfl) (fun _ _ _ h => h) (Or.inl ⟨by rfl, ?hq14⟩) (by assumption) ?rq14
  case hq14 => intro W hSw; (try obtain ⟨a0, a1, a2, a3, a4⟩ := HC.out W hSw); go_simp; (try with_reducible rfl)
  try simp only [Act.put, List.setIfInBounds_toArray, List.set_cons_zero, List.set_cons_succ]
  refine wpAnyH_take (i := 14) (oi := { dst := some 22, op := Op.load 56 (Operand.tmp 21), type := 56, pos := "tiers.go:168", after := #[{ on := 13, ground := Ground.data }], guard := none }) (v := ?vq15) rfl (by kernel_rfl) (by kernel_rfl) (by kernel_rfl) (fun _ _ _ h => h) (Or.inl ⟨by rfl, ?hq15⟩) (by assumption) ?rq15
  case hq15 => intro W hSw; (try obtain ⟨a0, a1, a2, a3, a4⟩ := HC.out W hSw); go_simp; (try with_reducible rfl)
  try simp only [Act.put, List.setIfInBounds_toArray, List.set_cons_zero, List.set_cons_succ]
  refine wpAnyH_ready (rs := [15]) (by kernel_rfl) (by simp) ?_
  refine AllReadyH.cons (o := { dst := some 23, op := Op.call { callee := Callee.value (Operand.func 37), args := #[Operand.tmp 12, Operand.tmp 17, Operand.tmp 22], argTypes := #[33, 3, 56] }, type := 58, pos := "tiers.go:168", after := #[{ on := 4, ground := Ground.data }, { on := 9, ground := Ground.data }, { on := 14, ground := Ground.data }], guard := none }) rfl (fun K hK => ?_) AllReadyH.nil
  go_simp
  go_wp2_with (first | (go_at_call 37; refine (HOf.out _ hHeld).mono ?_; rintro r w2 ⟨⟨A', c', B', d', rfl, ho1, ho2, hsz⟩, b2⟩))
  have Ho1 := Lib.hid ho1
  have Ho2 := Lib.hid ho2
  clear ho1 ho2
  refine hK.out _ _ (hHeld.trans (Fr.b0 b2) (fun _ h => h.elim)) (fun hHeld => ?_)
  clear hK K
  try simp only [Act.put, List.setIfInBounds_toArray, List.set_cons_zero, List.set_cons_succ]
  refine wpAnyH_take (i := 16) (oi := { dst := some 24, op := Op.build 61 #[(0, Operand.tmp 23)], type := 61, pos := "tiers.go:168", after := #[{ on := 15, ground := Ground.data }], guard := none }) (v := ?vq16) rfl (by kernel_rfl) (by kernel_rfl) (by kernel_rfl) (fun _ _ _ h => h) (Or.inl ⟨by rfl, ?hq16⟩) (by assumption) ?rq16
  case hq16 => intro W hSw; (try obtain ⟨a0, a1, a2, a3, a4⟩ := HC.out W hSw); go_simp; (try with_reducible rfl)
  try simp only [Act.put, List.setIfInBounds_toArray, List.set_cons_zero, List.set_cons_succ]
  refine wpAnyH_ready (rs := [17]) (by kernel_rfl) (by simp) ?_
  refine AllReadyH.cons (o := { dst := some 25, op := Op.box 61 (Operand.tmp 24), type := 25, pos := "tiers.go:168", after := #[{ on := 16, ground := Ground.data }], guard := none }) rfl (fun K hK => ?_) AllReadyH.nil
  go_simp
  refine hK.out _ _ (hHeld.trans (Fr.none_alloc _ _) (fun _ h => h.elim)) (fun hHeld => ?_)
  clear hK K
  try simp only [Act.put, List.setIfInBounds_toArray, List.set_cons_zero, List.set_cons_succ]
  refine wpAnyH_take (i := 18) (oi := { dst := some 3, op := Op.assign (Operand.tmp 25), type := 25, pos := "tiers.go:168", after := #[{ on := 17, ground := Ground.data }, { on := 15, ground := Ground.chain }, { on := 0, ground := Ground.phase }, { on := 1, ground := Ground.phase }, { on := 2, ground := Ground.phase }, { on := 3, ground := Ground.phase }, { on := 4, ground := Ground.phase }, { on := 5, ground := Ground.phase }, { on := 6, ground := Ground.phase }, { on := 7, ground := Ground.phase }, { on := 8, ground := Ground.phase }, { on := 9, ground := Ground.phase }, { on := 10, ground := Ground.phase }, { on := 11, ground := Ground.phase }, { on := 12, ground := Ground.phase }, { on := 13, ground := Ground.phase }, { on := 14, ground := Ground.phase }, { on := 15, ground := Ground.phase }, { on := 16, ground := Ground.phase }, { on := 17, ground := Ground.phase }], guard := none }) (v := ?vq17) rfl (by kernel_rfl) (by kernel_rfl) (by kernel_rfl) (fun _ _ _ h => h) (Or.inl ⟨by rfl, ?hq17⟩) (by assumption) ?rq17
  case hq17 => intro W hSw; (try obtain ⟨a0, a1, a2, a3, a4⟩ := HC.out W hSw); go_simp; (try with_reducible rfl)
  try simp only [Act.put, List.setIfInBounds_toArray, List.set_cons_zero, List.set_cons_succ]
  refine wpAnyH_done (by kernel_rfl) ?_ _
  obtain ⟨t', htd⟩ : ∃ t', w2.heap.size = t' := ⟨_, rfl⟩
  obtain ⟨W3, hW3⟩ : ∃ W3, W3 = w2.alloc (.cells #[.int .i64 X.now, .string X.name, .slice A' X.tiers.length c', .slice B' X.floors.length d', .slice none 0 0] 61) := ⟨_, rfl⟩
  simp only [htd]
  try rw [← hW3] at hHeld ⊢
  have F3 := Lib.hid hHeld
  have hs3 : w.heap.size ≤ W3.heap.size := hHeld.size
  have hP0 : TiersP W3 t' w.heap.size X A' c' B' d' none 0 [] 0 := by
    have hb : Blk W3 t' 61 #[.int .i64 X.now, .string X.name, .slice A' X.tiers.length c', .slice B' X.floors.length d', .slice none 0 0] := by rw [hW3]; exact Blk.new' htd.symm _ _
    exact ⟨hb, by rw [hW3]; exact own_fr0 Ho1.out (Fr.none_alloc _ _), by rw [hW3]; exact own_fr0 Ho2.out (Fr.none_alloc _ _), World.ownsRow_nil _ _ _ _, fun i p x l h => by simp at h, fun p hp => by simp at hp, by simp, fun p hp => by simp at hp, by omega⟩
  have HP0 := Lib.hid hP0
  obtain ⟨a0, a1, a2, a3, a4⟩ := HC.out W3 F3.out
  obtain ⟨s, hs⟩ : ∃ s, w.heap.size = s := ⟨_, rfl⟩
  rw [hs] at HP0 hs3
  clear hP0 Ho1 Ho2 hHeld hW3 HOf b2 hsz htd
  go_wp2_with fail
  go_loopw [31] (fun i wr => ∃ (k : Nat) (T : Option Addr) (ct : Nat) (tb : List (Nat × Nat)), k ≤ X.tiers.length ∧ i = .int .i64 k ∧ TiersP wr t' s X A' c' B' d' T ct tb k ∧ Fr (fun j => s ≤ j) W3 wr) (fun i _ => X.tiers.length - (intOf i).toNat)
  case atStart => exact ⟨0, none, 0, [], Nat.zero_le _, rfl, HP0.out, Fr.refl _ _⟩
  case round =>
    obtain ⟨k, T, ct, tb, hk, rfl, hp, hf⟩ := hrel
    have FW : Hid (Fr (fun _ => False) w wr) := below_none F3.out (by rw [hs]; exact hf)
    have Hf : Hid (Fr (fun j => s ≤ j) W3 wr) := hf
    clear a0 a1 a2 a3 a4
    by_cases hlt : k < X.tiers.length
    · obtain ⟨g, b, x, l, h1, h2, h3, hT0⟩ := (Hin.out.fr0 FW.out).tabAt hlt
      obtain ⟨ad, e, hc⟩ := (own_any (Hin.out.fr0 FW.out).row).2.2.1.2 (by omega)
      subst e
      have p0 := hc k _ (ptrs_get h1)
      have hs1 : s ≤ wr.heap.size := Nat.le_trans hs3 hf.size
      have kn : 0 ≤ (k : Int) ∧ (k : Int) < (X.tiers.length : Int) := by omega
      have HNw : Hid (Calls Try.prog 53 #[.pointer (some ⟨g, 0, none⟩)] wr.drew fun r w' => (∃ g' b', r = .returned (.pointer (some ⟨g', 0, none⟩)) ∧ TabAt w' g' x.every b' l ∧ wr.heap.size ≤ g' ∧ wr.heap.size ≤ b') ∧ Below wr.drew.heap.size wr.drew w') := tabcopy_any g x.every b l wr.drew (hT0.fr0 (Fr.refl _ wr).drew)
      have FD : Hid (Fr (fun _ => False) wr wr.drew) := (Fr.refl _ wr).drew
      have D2 : wr.drew.cell? ⟨t', 4, none⟩ = some (.slice T k ct) := hp.blk.cell 4
      have HP5 : Hid (∀ w5, Fr (fun _ => False) wr.drew w5 → w5.cell? ⟨t', 4, none⟩ = some (.slice T k ct) ∧ s ≤ w5.heap.size) := fun w5 h => ⟨((hp.fr0 FD.out).fr0 h).blk.cell 4, Nat.le_trans hs1 h.size⟩
      have HM6 : ∀ w5, Fr (fun _ => False) wr.drew w5 → ∀ o T6 c6 w6, Mv (rowF (.slice T k ct)) (rowF (.slice T6 (k + 1) c6)) (w5.alloc o) w6 → Blk w6 t' 61 _ := fun w5 h o T6 c6 w6 hm =>
        (((hp.fr0 FD.out).fr0 h).fr0 (Fr.none_alloc w5 o)).blk.fr hm.fr (fun hj => own_blk_ne (((hp.fr0 FD.out).fr0 h).fr0 (Fr.none_alloc w5 o)).row (((hp.fr0 FD.out).fr0 h).fr0 (Fr.none_alloc w5 o)).blk (by decide) hj)
      have HP6 : Hid (∀ w5, Fr (fun _ => False) wr.drew w5 → ∀ o T6 c6 w6, Mv (rowF (.slice T k ct)) (rowF (.slice T6 (k + 1) c6)) (w5.alloc o) w6 → w6.cell? ⟨t', 4, none⟩ = some (.slice T k ct)) := fun w5 h o T6 c6 w6 hm => (HM6 w5 h o T6 c6 w6 hm).cell 4
      have HF6 : Hid (∀ w5, Fr (fun _ => False) wr.drew w5 → ∀ o T6 c6 w6, Mv (rowF (.slice T k ct)) (rowF (.slice T6 (k + 1) c6)) (w5.alloc o) w6 → w6.frozen? ⟨t', 4, none⟩ = false) := fun w5 h o T6 c6 w6 hm => (HM6 w5 h o T6 c6 w6 hm).frozen 4
      have HZ : Hid (∀ w5, Fr (fun _ => False) wr.drew w5 → ∀ o g b T6 c6 w6, TabAt w5 g x.every b l → wr.heap.size ≤ g → wr.heap.size ≤ b → w6.ownsRow s 79 1 (.slice T6 (k + 1) c6) (k + 1) (ptrs tb ++ [.pointer (some ⟨g, 0, none⟩)]) → Mv (rowF (.slice T k ct)) (rowF (.slice T6 (k + 1) c6)) (w5.alloc o) w6 →
          TiersP (w6.setCell ⟨t', 4, none⟩ (.slice T6 (k + 1) c6)) t' s X A' c' B' d' T6 c6 (tb ++ [(g, b)]) (k + 1) ∧ Fr (fun j => s ≤ j) W3 (w6.setCell ⟨t', 4, none⟩ (.slice T6 (k + 1) c6))) := by
        intro w5 h o g b T6 c6 w6 ht hg hb ho hm
        have q := hp.snoc (FD.out.trans h (fun _ h => h.elim)) hs1 hg hb (x := x) (l := l) h2 h3 ht o ho hm
        exact ⟨q.1, Hf.out.trans q.2 (fun _ h => .inl h)⟩
      have Hk : Hid (k + 1 ≤ maxLen ∧ (k + 1) * 8 ≤ 140737488355328) := ⟨by unfold maxLen; omega, by omega⟩
      have HT := Lib.hid hp
      clear hp hf HM6 hc hT0 h1 h2 h3
      go_wp2_with fail
      refine wp_region_any (by kernel_rfl) ?_
      change wpAny _ _ _ _ _ _ _ (World.drew _)
      refine wpAny_take (i := 0) (oi := { dst := some 35, op := Op.move (Operand.tmp 3), type := 25, pos := "tiers.go:170", after := #[], guard := none }) (v := ?vq18) rfl (by kernel_rfl) (by kernel_rfl) (by kernel_rfl) (fun _ _ _ h => h) (Or.inl ⟨by rfl, ?hq18⟩) ?rq18
      case hq18 => intro W; go_simp; (try with_reducible rfl)
      try simp only [Act.put, List.setIfInBounds_toArray, List.set_cons_zero, List.set_cons_succ]
      refine wpAny_take (i := 1) (oi := { dst := some 36, op := Op.move (Operand.tmp 3), type := 25, pos := "tiers.go:170", after := #[], guard := none }) (v := ?vq19) rfl (by kernel_rfl) (by kernel_rfl) (by kernel_rfl) (fun _ _ _ h => h) (Or.inl ⟨by rfl, ?hq19⟩) ?rq19
      case hq19 => intro W; go_simp; (try with_reducible rfl)
      try simp only [Act.put, List.setIfInBounds_toArray, List.set_cons_zero, List.set_cons_succ]
      refine wpAny_take (i := 2) (oi := { dst := some 37, op := Op.nilCheck (Operand.tmp 36), type := 0, pos := "tiers.go:170", after := #[{ on := 1, ground := Ground.data }], guard := none }) (v := ?vq20) rfl (by kernel_rfl) (by kernel_rfl) (by kernel_rfl) (fun _ _ _ h => h) (Or.inl ⟨by rfl, ?hq20⟩) ?rq20
      case hq20 => intro W; go_simp; (try with_reducible rfl)
      try simp only [Act.put, List.setIfInBounds_toArray, List.set_cons_zero, List.set_cons_succ]
      refine wpAny_take (i := 3) (oi := { dst := some 38, op := Op.fieldAddr 61 (Operand.tmp 37) 1, type := 0, pos := "tiers.go:170", after := #[{ on := 2, ground := Ground.data }], guard := none }) (v := ?vq21) rfl (by kernel_rfl) (by kernel_rfl) (by kernel_rfl) (fun _ _ _ h => h) (Or.inl ⟨by rfl, ?hq21⟩) ?rq21
      case hq21 => intro W; go_simp; (try with_reducible rfl)
      try simp only [Act.put, List.setIfInBounds_toArray, List.set_cons_zero, List.set_cons_succ]
      refine wpAny_take (i := 5) (oi := { dst := some 40, op := Op.move (Operand.tmp 5), type := 79, pos := "tiers.go:170", after := #[], guard := none }) (v := ?vq22) rfl (by kernel_rfl) (by kernel_rfl) (by kernel_rfl) (fun _ _ _ h => h) (Or.inl ⟨by rfl, ?hq22⟩) ?rq22
      case hq22 => intro W; go_simp; (try with_reducible rfl)
      try simp only [Act.put, List.setIfInBounds_toArray, List.set_cons_zero, List.set_cons_succ]
      refine wpAny_ready (rs := [4, 6]) (by kernel_rfl) (by simp) ?_
      refine AllReady.cons (o := { dst := some 39, op := Op.load 59 (Operand.tmp 38), type := 59, pos := "tiers.go:170", after := #[{ on := 3, ground := Ground.data }], guard := none }) rfl (fun K hK => ?_) ?_
      · go_simp
        refine hK _ _ ?_
        clear hK K
        try simp only [Act.put, List.setIfInBounds_toArray, List.set_cons_zero, List.set_cons_succ]
        refine wpAny_ready (rs := [6]) (by kernel_rfl) (by simp) ?_
        refine AllReady.cons (o := { dst := some 41, op := Op.call { callee := Callee.value (Operand.func 53), args := #[Operand.tmp 40], argTypes := #[79] }, type := 79, pos := "tiers.go:170", after := #[{ on := 5, ground := Ground.data }], guard := none }) rfl (fun K hK => ?_) AllReady.nil
        go_simp
        go_wp2_with (first | (go_at_call 53; refine HNw.out.mono ?_; rintro r w5 ⟨⟨g', b', rfl, g5⟩, b5⟩; have q5 := (HP5.out w5 (Fr.b0 b5)).1; have q5a := fun o => (HP5.out (w5.alloc o) ((Fr.b0 b5).trans (Fr.none_alloc w5 o) (fun _ h => h.elim))).1; try dsimp only))
        refine wpAny_ready (rs := [7]) (by kernel_rfl) (by simp) ?_
        refine AllReady.cons (o := { dst := some 42, op := Op.buildSlice 59 1 #[(0, Operand.tmp 41)], type := 59, pos := "tiers.go:170", after := #[{ on := 6, ground := Ground.data }], guard := none }) rfl (fun K hK => ?_) AllReady.nil
        go_simp
        refine hK _ _ ?_
        clear hK K
        try simp only [Act.put, List.setIfInBounds_toArray, List.set_cons_zero, List.set_cons_succ]
        refine wpAny_ready (rs := [8]) (by kernel_rfl) (by simp) ?_
        refine AllReady.cons (o := { dst := some 43, op := Op.call { callee := Callee.builtin Builtin.append, args := #[Operand.tmp 39, Operand.tmp 42], argTypes := #[59, 59] }, type := 59, pos := "tiers.go:170", after := #[{ on := 4, ground := Ground.data }, { on := 7, ground := Ground.data }, { on := 6, ground := Ground.chain }], guard := none }) rfl (fun K hK => ?_) AllReady.nil
        rw [if_pos (by rfl)]
        refine op_app3 (.tmp 39) (.tmp 42) 59 rfl 79 i0 (.pointer none) 1 8 Try.underlying59 hi hz0 hz1 hz2 rfl (by decide) (.slice T k ct) k _ rfl s (Nat.le_trans (HP5.out w5 (Fr.b0 b5)).2 (Fr.none_alloc w5 _).size) (own_fr0 (own_fr0 (own_fr0 HT.out.row (FD.out)) (Fr.b0 b5)) (Fr.none_alloc _ _)) (some ⟨w5.heap.size, 0, none⟩) 1 1 [.pointer (some ⟨g', 0, none⟩)] rfl (Rd.new w5 [.pointer (some ⟨g', 0, none⟩)] _ 1 rfl) (by simp [Value.oneCell']) Hk.out.1 Hk.out.2 ?_
        intro T6 c6 w6 ho6 hm6 _
        have q6 := HP6.out w5 (Fr.b0 b5) _ _ _ _ hm6
        have f6 := HF6.out w5 (Fr.b0 b5) _ _ _ _ hm6
        have Hz := Lib.hid (HZ.out w5 (Fr.b0 b5) _ _ _ _ _ _ g5.1 g5.2.1 g5.2.2 ho6 hm6)
        clear ho6 hm6 D2
        refine hK _ _ ?_
        clear hK K
        try simp only [Act.put, List.setIfInBounds_toArray, List.set_cons_zero, List.set_cons_succ]
        refine wpAny_take (i := 9) (oi := { dst := some 44, op := Op.nilCheck (Operand.tmp 35), type := 0, pos := "tiers.go:170", after := #[{ on := 0, ground := Ground.data }, { on := 0, ground := Ground.phase }, { on := 1, ground := Ground.phase }, { on := 2, ground := Ground.phase }, { on := 3, ground := Ground.phase }, { on := 4, ground := Ground.phase }, { on := 5, ground := Ground.phase }, { on := 6, ground := Ground.phase }, { on := 7, ground := Ground.phase }, { on := 8, ground := Ground.phase }], guard := none }) (v := ?vq23) rfl (by kernel_rfl) (by kernel_rfl) (by kernel_rfl) (fun _ _ _ h => h) (Or.inl ⟨by rfl, ?hq23⟩) ?rq23
        case hq23 => intro W; go_simp; (try with_reducible rfl)
        try simp only [Act.put, List.setIfInBounds_toArray, List.set_cons_zero, List.set_cons_succ]
        refine wpAny_take (i := 10) (oi := { dst := some 45, op := Op.fieldAddr 61 (Operand.tmp 44) 1, type := 0, pos := "tiers.go:170", after := #[{ on := 9, ground := Ground.data }, { on := 0, ground := Ground.phase }, { on := 1, ground := Ground.phase }, { on := 2, ground := Ground.phase }, { on := 3, ground := Ground.phase }, { on := 4, ground := Ground.phase }, { on := 5, ground := Ground.phase }, { on := 6, ground := Ground.phase }, { on := 7, ground := Ground.phase }, { on := 8, ground := Ground.phase }], guard := none }) (v := ?vq24) rfl (by kernel_rfl) (by kernel_rfl) (by kernel_rfl) (fun _ _ _ h => h) (Or.inl ⟨by rfl, ?hq24⟩) ?rq24
        case hq24 => intro W; go_simp; (try with_reducible rfl)
        try simp only [Act.put, List.setIfInBounds_toArray, List.set_cons_zero, List.set_cons_succ]
        refine wpAny_ready (rs := [11]) (by kernel_rfl) (by simp) ?_
        refine AllReady.cons (o := { dst := none, op := Op.store 59 (Operand.tmp 45) (Operand.tmp 43), type := 0, pos := "tiers.go:170", after := #[{ on := 10, ground := Ground.data }, { on := 8, ground := Ground.data }, { on := 8, ground := Ground.chain }, { on := 0, ground := Ground.phase }, { on := 1, ground := Ground.phase }, { on := 2, ground := Ground.phase }, { on := 3, ground := Ground.phase }, { on := 4, ground := Ground.phase }, { on := 5, ground := Ground.phase }, { on := 6, ground := Ground.phase }, { on := 7, ground := Ground.phase }, { on := 8, ground := Ground.phase }], guard := none }) rfl (fun K hK => ?_) AllReady.nil
        go_simp
        refine hK _ _ ?_
        clear hK K
        try simp only [Act.put, List.setIfInBounds_toArray, List.set_cons_zero, List.set_cons_succ]
        refine wpAny_done (by kernel_rfl) ?_ _
        go_wp2_with fail
        go_roundw
        case rel => exact ⟨k + 1, T6, c6, _, by omega, by go_num, Hz.out.1, Hz.out.2⟩
        case measure => simp [intOf]; omega
      refine AllReady.cons (o := { dst := some 41, op := Op.call { callee := Callee.value (Operand.func 53), args := #[Operand.tmp 40], argTypes := #[79] }, type := 79, pos := "tiers.go:170", after := #[{ on := 5, ground := Ground.data }], guard := none }) rfl (fun K hK => ?_) ?_
      · go_simp
        go_wp2_with (first | (go_at_call 53; refine HNw.out.mono ?_; rintro r w5 ⟨⟨g', b', rfl, g5⟩, b5⟩; have q5 := (HP5.out w5 (Fr.b0 b5)).1; have q5a := fun o => (HP5.out (w5.alloc o) ((Fr.b0 b5).trans (Fr.none_alloc w5 o) (fun _ h => h.elim))).1; try dsimp only))
        try simp only [Act.put, List.setIfInBounds_toArray, List.set_cons_zero, List.set_cons_succ]
        refine wpAny_ready (rs := [4, 7]) (by kernel_rfl) (by simp) ?_
        refine AllReady.cons (o := { dst := some 39, op := Op.load 59 (Operand.tmp 38), type := 59, pos := "tiers.go:170", after := #[{ on := 3, ground := Ground.data }], guard := none }) rfl (fun K hK => ?_) ?_
        · go_simp
          refine hK _ _ ?_
          clear hK K
          try simp only [Act.put, List.setIfInBounds_toArray, List.set_cons_zero, List.set_cons_succ]
          refine wpAny_ready (rs := [7]) (by kernel_rfl) (by simp) ?_
          refine AllReady.cons (o := { dst := some 42, op := Op.buildSlice 59 1 #[(0, Operand.tmp 41)], type := 59, pos := "tiers.go:170", after := #[{ on := 6, ground := Ground.data }], guard := none }) rfl (fun K hK => ?_) AllReady.nil
          go_simp
          refine hK _ _ ?_
          clear hK K
          try simp only [Act.put, List.setIfInBounds_toArray, List.set_cons_zero, List.set_cons_succ]
          refine wpAny_ready (rs := [8]) (by kernel_rfl) (by simp) ?_
          refine AllReady.cons (o := { dst := some 43, op := Op.call { callee := Callee.builtin Builtin.append, args := #[Operand.tmp 39, Operand.tmp 42], argTypes := #[59, 59] }, type := 59, pos := "tiers.go:170", after := #[{ on := 4, ground := Ground.data }, { on := 7, ground := Ground.data }, { on := 6, ground := Ground.chain }], guard := none }) rfl (fun K hK => ?_) AllReady.nil
          rw [if_pos (by rfl)]
          refine op_app3 (.tmp 39) (.tmp 42) 59 rfl 79 i0 (.pointer none) 1 8 Try.underlying59 hi hz0 hz1 hz2 rfl (by decide) (.slice T k ct) k _ rfl s (Nat.le_trans (HP5.out w5 (Fr.b0 b5)).2 (Fr.none_alloc w5 _).size) (own_fr0 (own_fr0 (own_fr0 HT.out.row (FD.out)) (Fr.b0 b5)) (Fr.none_alloc _ _)) (some ⟨w5.heap.size, 0, none⟩) 1 1 [.pointer (some ⟨g', 0, none⟩)] rfl (Rd.new w5 [.pointer (some ⟨g', 0, none⟩)] _ 1 rfl) (by simp [Value.oneCell']) Hk.out.1 Hk.out.2 ?_
          intro T6 c6 w6 ho6 hm6 _
          have q6 := HP6.out w5 (Fr.b0 b5) _ _ _ _ hm6
          have f6 := HF6.out w5 (Fr.b0 b5) _ _ _ _ hm6
          have Hz := Lib.hid (HZ.out w5 (Fr.b0 b5) _ _ _ _ _ _ g5.1 g5.2.1 g5.2.2 ho6 hm6)
          clear ho6 hm6 D2
          refine hK _ _ ?_
          clear hK K
          try simp only [Act.put, List.setIfInBounds_toArray, List.set_cons_zero, List.set_cons_succ]
          refine wpAny_take (i := 9) (oi := { dst := some 44, op := Op.nilCheck (Operand.tmp 35), type := 0, pos := "tiers.go:170", after := #[{ on := 0, ground := Ground.data }, { on := 0, ground := Ground.phase }, { on := 1, ground := Ground.phase }, { on := 2, ground := Ground.phase }, { on := 3, ground := Ground.phase }, { on := 4, ground := Ground.phase }, { on := 5, ground := Ground.phase }, { on := 6, ground := Ground.phase }, { on := 7, ground := Ground.phase }, { on := 8, ground := Ground.phase }], guard := none }) (v := ?vq25) rfl (by kernel_rfl) (by kernel_rfl) (by kernel_rfl) (fun _ _ _ h => h) (Or.inl ⟨by rfl, ?hq25⟩) ?rq25
          case hq25 => intro W; go_simp; (try with_reducible rfl)
          try simp only [Act.put, List.setIfInBounds_toArray, List.set_cons_zero, List.set_cons_succ]
          refine wpAny_take (i := 10) (oi := { dst := some 45, op := Op.fieldAddr 61 (Operand.tmp 44) 1, type := 0, pos := "tiers.go:170", after := #[{ on := 9, ground := Ground.data }, { on := 0, ground := Ground.phase }, { on := 1, ground := Ground.phase }, { on := 2, ground := Ground.phase }, { on := 3, ground := Ground.phase }, { on := 4, ground := Ground.phase }, { on := 5, ground := Ground.phase }, { on := 6, ground := Ground.phase }, { on := 7, ground := Ground.phase }, { on := 8, ground := Ground.phase }], guard := none }) (v := ?vq26) rfl (by kernel_rfl) (by kernel_rfl) (by kernel_rfl) (fun _ _ _ h => h) (Or.inl ⟨by rfl, ?hq26⟩) ?rq26
          case hq26 => intro W; go_simp; (try with_reducible rfl)
          try simp only [Act.put, List.setIfInBounds_toArray, List.set_cons_zero, List.set_cons_succ]
          refine wpAny_ready (rs := [11]) (by kernel_rfl) (by simp) ?_
          refine AllReady.cons (o := { dst := none, op := Op.store 59 (Operand.tmp 45) (Operand.tmp 43), type := 0, pos := "tiers.go:170", after := #[{ on := 10, ground := Ground.data }, { on := 8, ground := Ground.data }, { on := 8, ground := Ground.chain }, { on := 0, ground := Ground.phase }, { on := 1, ground := Ground.phase }, { on := 2, ground := Ground.phase }, { on := 3, ground := Ground.phase }, { on := 4, ground := Ground.phase }, { on := 5, ground := Ground.phase }, { on := 6, ground := Ground.phase }, { on := 7, ground := Ground.phase }, { on := 8, ground := Ground.phase }], guard := none }) rfl (fun K hK => ?_) AllReady.nil
          go_simp
          refine hK _ _ ?_
          clear hK K
          try simp only [Act.put, List.setIfInBounds_toArray, List.set_cons_zero, List.set_cons_succ]
          refine wpAny_done (by kernel_rfl) ?_ _
          go_wp2_with fail
          go_roundw
          case rel => exact ⟨k + 1, T6, c6, _, by omega, by go_num, Hz.out.1, Hz.out.2⟩
          case measure => simp [intOf]; omega
        refine AllReady.cons (o := { dst := some 42, op := Op.buildSlice 59 1 #[(0, Operand.tmp 41)], type := 59, pos := "tiers.go:170", after := #[{ on := 6, ground := Ground.data }], guard := none }) rfl (fun K hK => ?_) ?_
        · go_simp
          refine hK _ _ ?_
          clear hK K
          try simp only [Act.put, List.setIfInBounds_toArray, List.set_cons_zero, List.set_cons_succ]
          refine wpAny_ready (rs := [4]) (by kernel_rfl) (by simp) ?_
          refine AllReady.cons (o := { dst := some 39, op := Op.load 59 (Operand.tmp 38), type := 59, pos := "tiers.go:170", after := #[{ on := 3, ground := Ground.data }], guard := none }) rfl (fun K hK => ?_) AllReady.nil
          go_simp
          refine hK _ _ ?_
          clear hK K
          try simp only [Act.put, List.setIfInBounds_toArray, List.set_cons_zero, List.set_cons_succ]
          refine wpAny_ready (rs := [8]) (by kernel_rfl) (by simp) ?_
          refine AllReady.cons (o := { dst := some 43, op := Op.call { callee := Callee.builtin Builtin.append, args := #[Operand.tmp 39, Operand.tmp 42], argTypes := #[59, 59] }, type := 59, pos := "tiers.go:170", after := #[{ on := 4, ground := Ground.data }, { on := 7, ground := Ground.data }, { on := 6, ground := Ground.chain }], guard := none }) rfl (fun K hK => ?_) AllReady.nil
          rw [if_pos (by rfl)]
          refine op_app3 (.tmp 39) (.tmp 42) 59 rfl 79 i0 (.pointer none) 1 8 Try.underlying59 hi hz0 hz1 hz2 rfl (by decide) (.slice T k ct) k _ rfl s (Nat.le_trans (HP5.out w5 (Fr.b0 b5)).2 (Fr.none_alloc w5 _).size) (own_fr0 (own_fr0 (own_fr0 HT.out.row (FD.out)) (Fr.b0 b5)) (Fr.none_alloc _ _)) (some ⟨w5.heap.size, 0, none⟩) 1 1 [.pointer (some ⟨g', 0, none⟩)] rfl (Rd.new w5 [.pointer (some ⟨g', 0, none⟩)] _ 1 rfl) (by simp [Value.oneCell']) Hk.out.1 Hk.out.2 ?_
          intro T6 c6 w6 ho6 hm6 _
          have q6 := HP6.out w5 (Fr.b0 b5) _ _ _ _ hm6
          have f6 := HF6.out w5 (Fr.b0 b5) _ _ _ _ hm6
          have Hz := Lib.hid (HZ.out w5 (Fr.b0 b5) _ _ _ _ _ _ g5.1 g5.2.1 g5.2.2 ho6 hm6)
          clear ho6 hm6 D2
          refine hK _ _ ?_
          clear hK K
          try simp only [Act.put, List.setIfInBounds_toArray, List.set_cons_zero, List.set_cons_succ]
          refine wpAny_take (i := 9) (oi := { dst := some 44, op := Op.nilCheck (Operand.tmp 35), type := 0, pos := "tiers.go:170", after := #[{ on := 0, ground := Ground.data }, { on := 0, ground := Ground.phase }, { on := 1, ground := Ground.phase }, { on := 2, ground := Ground.phase }, { on := 3, ground := Ground.phase }, { on := 4, ground := Ground.phase }, { on := 5, ground := Ground.phase }, { on := 6, ground := Ground.phase }, { on := 7, ground := Ground.phase }, { on := 8, ground := Ground.phase }], guard := none }) (v := ?vq27) rfl (by kernel_rfl) (by kernel_rfl) (by kernel_rfl) (fun _ _ _ h => h) (Or.inl ⟨by rfl, ?hq27⟩) ?rq27
          case hq27 => intro W; go_simp; (try with_reducible rfl)
          try simp only [Act.put, List.setIfInBounds_toArray, List.set_cons_zero, List.set_cons_succ]
          refine wpAny_take (i := 10) (oi := { dst := some 45, op := Op.fieldAddr 61 (Operand.tmp 44) 1, type := 0, pos := "tiers.go:170", after := #[{ on := 9, ground := Ground.data }, { on := 0, ground := Ground.phase }, { on := 1, ground := Ground.phase }, { on := 2, ground := Ground.phase }, { on := 3, ground := Ground.phase }, { on := 4, ground := Ground.phase }, { on := 5, ground := Ground.phase }, { on := 6, ground := Ground.phase }, { on := 7, ground := Ground.phase }, { on := 8, ground := Ground.phase }], guard := none }) (v := ?vq28) rfl (by kernel_rfl) (by kernel_rfl) (by kernel_rfl) (fun _ _ _ h => h) (Or.inl ⟨by rfl, ?hq28⟩) ?rq28
          case hq28 => intro W; go_simp; (try with_reducible rfl)
          try simp only [Act.put, List.setIfInBounds_toArray, List.set_cons_zero, List.set_cons_succ]
          refine wpAny_ready (rs := [11]) (by kernel_rfl) (by simp) ?_
          refine AllReady.cons (o := { dst := none, op := Op.store 59 (Operand.tmp 45) (Operand.tmp 43), type := 0, pos := "tiers.go:170", after := #[{ on := 10, ground := Ground.data }, { on := 8, ground := Ground.data }, { on := 8, ground := Ground.chain }, { on := 0, ground := Ground.phase }, { on := 1, ground := Ground.phase }, { on := 2, ground := Ground.phase }, { on := 3, ground := Ground.phase }, { on := 4, ground := Ground.phase }, { on := 5, ground := Ground.phase }, { on := 6, ground := Ground.phase }, { on := 7, ground := Ground.phase }, { on := 8, ground := Ground.phase }], guard := none }) rfl (fun K hK => ?_) AllReady.nil
          go_simp
          refine hK _ _ ?_
          clear hK K
          try simp only [Act.put, List.setIfInBounds_toArray, List.set_cons_zero, List.set_cons_succ]
          refine wpAny_done (by kernel_rfl) ?_ _
          go_wp2_with fail
          go_roundw
          case rel => exact ⟨k + 1, T6, c6, _, by omega, by go_num, Hz.out.1, Hz.out.2⟩
          case measure => simp [intOf]; omega
        exact AllReady.nil
      exact AllReady.nil
    · obtain rfl : k = X.tiers.length := by omega
      have Hp := Lib.hid hp
      clear hp hf
      go_wp2_with fail
      go_ret
      exact ⟨⟨t', rfl, by rw [hs]; exact Hp.out.done Hin.out.tlen⟩, FW.out.below (fun _ h => h.elim)⟩
end Go.Proofs.Ytlhhcancfgjfkaa
