/- Walk of sedimentlaw11.alive. -/
import Derived.Test.YtlhhcancfgjfkaaGreatTiersAsk
namespace Go.Proofs.YtlhhcancfgjfkaaGreat
set_option linter.all false
open Go.RowKit

def a11N : ByteArray := { data := #[97] }
def a11S : List SampV := [⟨a11N, 21, 4⟩, ⟨a11N, 25, 6⟩]
def a11X0 : TiersX := newX webN webT 25 []
def a11X1 : TiersX := putX a11X0 a11S
def a11L : List RecV := [⟨a11N, 21, ⟨1, 0, 4, 4, 4⟩⟩, ⟨a11N, 25, ⟨1, 0, 6, 6, 6⟩⟩]
theorem a11_new : newE webN webT 25 [] = 0 := by decide +kernel
theorem a11_put : putE a11X0 a11S = 0 := by decide +kernel
theorem a11_askB : askB a11N 20 30 = true := by decide +kernel
theorem a11_askT : askT a11X1 20 = 0 := by decide +kernel
theorem a11_askL : askL a11X1 a11N 20 30 = a11L := by decide +kernel
theorem a11_len : lenX a11X1 = 3 := by decide +kernel
theorem a11_now : a11X1.now = 25 := by decide +kernel
theorem a11_tiers : a11X1.tiers = webT := by unfold a11X1 putX; rw [if_pos a11_put]; rfl
theorem a11_swf : ∀ s ∈ a11S, s.wf := by
  intro s hs
  simp only [a11S, List.mem_cons, List.not_mem_nil, or_false] at hs
  rcases hs with rfl | rfl <;> (unfold SampV.wf in64 maxLen; decide)
theorem a11_short : ∀ l ∈ a11X1.tabs, l.length ≤ 1000 := by decide +kernel
theorem a11_web : ∀ t ∈ webT, t.wf := by
  intro t ht
  simp only [webT, List.mem_cons, List.not_mem_nil, or_false] at ht
  rcases ht with rfl | rfl <;> (unfold TierV.wf i64 maxLen; decide)
theorem a11_aggeq (w : World) : (binOp .eql 106 (.agg #[.int .i64 1, .int .i64 0, .int .u64 6, .int .i64 6, .int .i64 6]) (.agg #[.int .i64 1, .int .i64 0, .int .u64 6, .int .i64 6, .int .i64 6])).run Tryz.prog w = .ok (.bool true) w := by
  have h := run_eqagg 9998 ⟨1, 0, 6, 6, 6⟩ ⟨1, 0, 6, 6, 6⟩ w
  unfold AggV.val at h
  rw [run_eql_struct, h, show aggEq ⟨1, 0, 6, 6, 6⟩ ⟨1, 0, 6, 6, 6⟩ = true by decide]
  rfl

set_option maxRecDepth 100000 in
set_option maxHeartbeats 4000000 in
theorem alive11_any (w : World) : Calls Tryz.prog 9 #[] w fun r w' => r = .returned (.bool true) ∧ Below w.heap.size w w' := by
  have HW := Lib.hid web_any
  have HN : Hid (∀ A c w, 2 ≤ c → Rd w 4 A 2 (tcells webT) → Calls Tryz.prog 10 #[.agg #[.string webN, .slice A 2 c], .int .i64 25, .slice none 0 0] w fun r w' => (∃ t, r = .returned (.tuple #[.pointer (some ⟨t, 0, none⟩), .int .i64 0]) ∧ TiersAt w' t w.heap.size a11X0) ∧ Below w.heap.size w w') := fun A c w hc hr => by
    refine (tnew_any webN (by decide) webT A 2 c 25 (by unfold i64; omega) [] none 0 0 w hr hc a11_web (by omega) Rd.nil_ (by omega)).mono ?_
    rintro r w' ⟨⟨h, _⟩, hb⟩
    exact ⟨h a11_new, hb⟩
  have HP : Hid (∀ t base F w A c, TiersOn w t base a11X0 F → Rd w 3 A 2 (scells a11S) → Calls Tryz.prog 11 #[.pointer (some ⟨t, 0, none⟩), .slice A 2 c] w fun r w' => r = .returned (.int .i64 0) ∧ TiersOn w' t base a11X1 F ∧ Fr F w w') := fun t base F w A c h hr => by
    refine (tput_any t base a11X0 F a11S A 2 c w h (by decide) (by decide) (by decide) (by decide) a11_web hr a11_swf).mono ?_
    rintro r w' ⟨rfl, h1, h2⟩
    exact ⟨by rw [a11_put], h1, h2.mono (fun _ h => .inl h.1)⟩
  have HA : Hid (∀ t base w, TiersAt w t base a11X1 → Calls Tryz.prog 36 #[.pointer (some ⟨t, 0, none⟩), .string a11N, .int .i64 20, .int .i64 30] w fun r w' => (∃ A c, r = .returned (.tuple #[.agg #[.int .i64 0, .slice A 2 c], .int .i64 0]) ∧ Rd w' 7 A 2 (rcells a11L)) ∧ Below w.heap.size w w') := fun t base w h => by
    refine (task_any t base a11X1 a11N (by decide) 20 30 w h (by rw [a11_tiers]; decide) (by rw [a11_tiers]; decide) (fun m hm => Nat.le_trans (a11_short m hm) (by omega)) (by rw [a11_now]; omega) (by rw [a11_tiers]; exact a11_web)).mono ?_
    rintro r w' ⟨⟨h, _⟩, hb⟩
    obtain ⟨A, c, rfl, ho⟩ := h a11_askB
    rw [a11_askL] at ho ⊢
    rw [a11_askT]
    exact ⟨⟨A, c, rfl, (own_any ho).2.2.1⟩, hb⟩
  have HL0 : Hid (∀ t base w, TiersAt w t base a11X1 → Calls Tryz.prog 48 #[.pointer (some ⟨t, 0, none⟩)] w fun r w' => r = .returned (.int .i64 3) ∧ w = w') := fun t base w h => by
    refine (tlen_any t base a11X1 w h (by rw [a11_tiers]; decide) (fun m hm => Nat.le_trans (a11_short m hm) (by omega))).mono ?_
    rintro r w' ⟨rfl, h2⟩
    exact ⟨by rw [a11_len]; rfl, h2⟩
  have HOf : Hid (∀ W A c, Rd W 1 A 1 [.int .i64 6] → Calls Tryz.prog 47 #[.slice A 1 c] W fun r w' => r = .returned (.agg #[.int .i64 1, .int .i64 0, .int .u64 6, .int .i64 6, .int .i64 6]) ∧ Below W.heap.size W w') := fun W A c hrd => ofone_any 6 (by unfold in64; omega) A c W hrd
  unfold polV at HW
  go_enter Tryz.func9, Tryz.ntmps9
  go_wp2_with fail
  refine (HW.out w).mono ?_
  rintro r w1 ⟨⟨A1, c1, rfl, hc1, r1⟩, b1⟩
  have O1 := Lib.hid ((Own.start w).below b1)
  have R1 := Lib.hid r1
  clear b1 r1
  go_wp2_with fail
  refine (HN.out A1 c1 w1 hc1 R1.out).mono ?_
  rintro r w2 ⟨⟨t, rfl, T2⟩, b2⟩
  have O2 := Lib.hid (O1.out.below b2)
  obtain ⟨F, T2⟩ := T2.on
  have HT2 := Lib.hid T2
  clear b2 T2
  go_wp2_with fail
  have HT2b := Lib.hid (HT2.out.fr0 (Fr.none_alloc w2 (.cells #[.string a11N, .int .i64 21, .int .i64 4, .string a11N, .int .i64 25, .int .i64 6] 103)))
  refine (HP.out t _ F _ _ _ HT2b.out (Rd.newS rfl _ _ 2 3 rfl)).mono ?_
  rintro r w3 ⟨rfl, T3, f3⟩
  have O3 : Hid (Below w.heap.size w w3) := (O2.out.skip (Fr.none_alloc _ _)).bel.trans (f3.below_of (Nat.le_trans O2.out.bel.size (by simp)) (fun j hj => Nat.le_trans O1.out.bel.size (HT2.out.ge j hj).1))
  have HT3 := Lib.hid T3
  clear T3 f3 HT2b
  go_wp2_with fail
  refine (HA.out t _ w3 HT3.out.at_).mono ?_
  rintro r w4 ⟨⟨A4, c4, rfl, R4⟩, b4⟩
  have HT4 := Lib.hid (HT3.out.fr0 (Fr.b0 b4))
  have O4 : Hid (Own w w4 (fun _ => False)) := (show Own w w3 (fun _ => False) from ⟨O3.out, fun _ h => h.elim⟩).below b4
  have HR4 := Lib.hid R4
  clear b4 R4
  go_wp2_with fail
  obtain ⟨W1, hW1⟩ : ∃ W1, W1 = w4.alloc (.cells #[.int .i64 0, .slice A4 2 c4] 85) := ⟨_, rfl⟩
  rw [← hW1]
  have B1 : Hid (Blk W1 w4.heap.size 85 #[.int .i64 0, .slice A4 2 c4]) := hW1 ▸ Blk.new w4 85 #[.int .i64 0, .slice A4 2 c4]
  have F1 : Hid (Fr (fun _ => False) w4 W1) := hW1 ▸ Fr.none_alloc _ _
  clear hW1
  obtain ⟨ad, _, rfl, _⟩ := HR4.out.rec_ (k := 0) (by omega)
  have HC : Hid (∀ W, Fr (fun _ => False) W1 W → W.cell? ⟨w4.heap.size, 0, none⟩ = some (.int .i64 0) ∧ W.cell? ⟨w4.heap.size, 1, none⟩ = some (.slice (some ad) 2 c4) ∧ W.cell? ⟨t, 0, none⟩ = some (.int .i64 25) ∧ W.cell? ⟨ad.block, ad.off + 1, none⟩ = some (.int .i64 21) ∧ W.cell? ⟨ad.block, ad.off + 9, none⟩ = some (.int .i64 1) ∧ W.cell? ⟨ad.block, ad.off + 10, none⟩ = some (.int .i64 0) ∧ W.cell? ⟨ad.block, ad.off + 11, none⟩ = some (.int .u64 6) ∧ W.cell? ⟨ad.block, ad.off + 12, none⟩ = some (.int .i64 6) ∧ W.cell? ⟨ad.block, ad.off + 13, none⟩ = some (.int .i64 6)) := fun W f => by
    have R := (HR4.out.fr0 F1.out).fr0 f
    obtain ⟨ad', e, hc⟩ := R.2 (by omega)
    injection e with e
    subst e
    have B2 := B1.out.fr f (fun h => h)
    obtain ⟨A, c, B, d, T, ct, tb, hi⟩ := ((HT4.out.fr0 F1.out).fr0 f).at_
    have k0 := hi.blk.cell 0
    rw [a11_now] at k0
    refine ⟨B2.cell 0, B2.cell 1, k0, ?_, ?_, ?_, ?_, ?_, ?_⟩
    · exact hc 1 _ rfl
    · exact hc 9 _ rfl
    · exact hc 10 _ rfl
    · exact hc 11 _ rfl
    · exact hc 12 _ rfl
    · exact hc 13 _ rfl
  have HL : Hid (∀ W, Fr (fun _ => False) W1 W → Calls Tryz.prog 48 #[.pointer (some ⟨t, 0, none⟩)] W fun r w' => r = .returned (.int .i64 3) ∧ W = w') := fun W f => HL0.out t _ W ((HT4.out.fr0 F1.out).fr0 f).at_
  have hq := a11_aggeq
  clear HW HN HP HA HL0
  refine wp_region_held_drew (S := fun W => Fr (fun _ => False) W1 W) (by kernel_rfl) ((Fr.refl _ W1).drew) (fun hHeld => ?_)
  refine wpAnyH_take (i := 0) (oi := { dst := some 29, op := Op.move (Operand.tmp 4), type := 30, pos := "law.go:28", after := #[], guard := none }) (v := ?vq1) rfl (by kernel_rfl) (by kernel_rfl) (by kernel_rfl) (fun _ _ _ h => h) (Or.inl ⟨by rfl, ?hq1⟩) (by assumption) ?rq1
  case hq1 => intro W hSw; (try obtain ⟨z0, z1, z2, z3, z4, z5, z6, z7, z8⟩ := HC.out W hSw); go_simp; (try with_reducible rfl)
  try simp only [Act.put, List.setIfInBounds_toArray, List.set_cons_zero, List.set_cons_succ]
  refine wpAnyH_take (i := 1) (oi := { dst := some 30, op := Op.binOp BinOp.eql 30 (Operand.tmp 29) (Operand.const (Value.int IntKind.i64 0)) 30, type := 4, pos := "law.go:28", after := #[{ on := 0, ground := Ground.data }], guard := none }) (v := ?vq2) rfl (by kernel_rfl) (by kernel_rfl) (by kernel_rfl) (fun _ _ _ h => h) (Or.inl ⟨by rfl, ?hq2⟩) (by assumption) ?rq2
  case hq2 => intro W hSw; (try obtain ⟨z0, z1, z2, z3, z4, z5, z6, z7, z8⟩ := HC.out W hSw); go_simp; (try with_reducible rfl)
  try simp only [Act.put, List.setIfInBounds_toArray, List.set_cons_zero, List.set_cons_succ]
  refine wpAnyH_take (i := 2) (oi := { dst := some 31, op := Op.move (Operand.tmp 30), type := 4, pos := "law.go:28", after := #[{ on := 1, ground := Ground.data }], guard := none }) (v := ?vq3) rfl (by kernel_rfl) (by kernel_rfl) (by kernel_rfl) (fun _ _ _ h => h) (Or.inl ⟨by rfl, ?hq3⟩) (by assumption) ?rq3
  case hq3 => intro W hSw; (try obtain ⟨z0, z1, z2, z3, z4, z5, z6, z7, z8⟩ := HC.out W hSw); go_simp; (try with_reducible rfl)
  try simp only [Act.put, List.setIfInBounds_toArray, List.set_cons_zero, List.set_cons_succ]
  refine wpAnyH_take (i := 3) (oi := { dst := some 32, op := Op.fieldAddr 85 (Operand.tmp 3) 0, type := 0, pos := "law.go:28", after := #[{ on := 2, ground := Ground.guard }], guard := some (2, true) }) (v := ?vq4) rfl (by kernel_rfl) (by kernel_rfl) (by kernel_rfl) (fun _ _ _ h => h) (Or.inl ⟨by rfl, ?hq4⟩) (by assumption) ?rq4
  case hq4 => intro W hSw; (try obtain ⟨z0, z1, z2, z3, z4, z5, z6, z7, z8⟩ := HC.out W hSw); go_simp; (try with_reducible rfl)
  try simp only [Act.put, List.setIfInBounds_toArray, List.set_cons_zero, List.set_cons_succ]
  refine wpAnyH_take (i := 4) (oi := { dst := some 33, op := Op.load 3 (Operand.tmp 32), type := 3, pos := "law.go:28", after := #[{ on := 3, ground := Ground.data }, { on := 2, ground := Ground.guard }], guard := some (2, true) }) (v := ?vq5) rfl (by kernel_rfl) (by kernel_rfl) (by kernel_rfl) (fun _ _ _ h => h) (Or.inl ⟨by rfl, ?hq5⟩) (by assumption) ?rq5
  case hq5 => intro W hSw; (try obtain ⟨z0, z1, z2, z3, z4, z5, z6, z7, z8⟩ := HC.out W hSw); go_simp; (try with_reducible rfl)
  try simp only [Act.put, List.setIfInBounds_toArray, List.set_cons_zero, List.set_cons_succ]
  refine wpAnyH_take (i := 5) (oi := { dst := some 34, op := Op.binOp BinOp.eql 3 (Operand.tmp 33) (Operand.const (Value.int IntKind.i64 0)) 3, type := 4, pos := "law.go:28", after := #[{ on := 4, ground := Ground.data }, { on := 2, ground := Ground.guard }], guard := some (2, true) }) (v := ?vq6) rfl (by kernel_rfl) (by kernel_rfl) (by kernel_rfl) (fun _ _ _ h => h) (Or.inl ⟨by rfl, ?hq6⟩) (by assumption) ?rq6
  case hq6 => intro W hSw; (try obtain ⟨z0, z1, z2, z3, z4, z5, z6, z7, z8⟩ := HC.out W hSw); go_simp; (try with_reducible rfl)
  try simp only [Act.put, List.setIfInBounds_toArray, List.set_cons_zero, List.set_cons_succ]
  refine wpAnyH_take (i := 6) (oi := { dst := some 35, op := Op.pick (Operand.tmp 31) (Operand.tmp 34) (Operand.const (Value.bool false)), type := 4, pos := "law.go:28", after := #[{ on := 2, ground := Ground.data }, { on := 5, ground := Ground.data }], guard := none }) (v := ?vq7) rfl (by kernel_rfl) (by kernel_rfl) (by kernel_rfl) (fun _ _ _ h => h) (Or.inl ⟨by rfl, ?hq7⟩) (by assumption) ?rq7
  case hq7 => intro W hSw; (try obtain ⟨z0, z1, z2, z3, z4, z5, z6, z7, z8⟩ := HC.out W hSw); go_simp; (try with_reducible rfl)
  try simp only [Act.put, List.setIfInBounds_toArray, List.set_cons_zero, List.set_cons_succ]
  refine wpAnyH_take (i := 7) (oi := { dst := some 36, op := Op.move (Operand.tmp 35), type := 4, pos := "law.go:28", after := #[{ on := 6, ground := Ground.data }, { on := 2, ground := Ground.chain }], guard := none }) (v := ?vq8) rfl (by kernel_rfl) (by kernel_rfl) (by kernel_rfl) (fun _ _ _ h => h) (Or.inl ⟨by rfl, ?hq8⟩) (by assumption) ?rq8
  case hq8 => intro W hSw; (try obtain ⟨z0, z1, z2, z3, z4, z5, z6, z7, z8⟩ := HC.out W hSw); go_simp; (try with_reducible rfl)
  try simp only [Act.put, List.setIfInBounds_toArray, List.set_cons_zero, List.set_cons_succ]
  refine wpAnyH_take (i := 8) (oi := { dst := some 37, op := Op.fieldAddr 85 (Operand.tmp 3) 1, type := 0, pos := "law.go:28", after := #[{ on := 7, ground := Ground.guard }], guard := some (7, true) }) (v := ?vq9) rfl (by kernel_rfl) (by kernel_rfl) (by kernel_rfl) (fun _ _ _ h => h) (Or.inl ⟨by rfl, ?hq9⟩) (by assumption) ?rq9
  case hq9 => intro W hSw; (try obtain ⟨z0, z1, z2, z3, z4, z5, z6, z7, z8⟩ := HC.out W hSw); go_simp; (try with_reducible rfl)
  try simp only [Act.put, List.setIfInBounds_toArray, List.set_cons_zero, List.set_cons_succ]
  refine wpAnyH_take (i := 9) (oi := { dst := some 38, op := Op.load 34 (Operand.tmp 37), type := 34, pos := "law.go:28", after := #[{ on := 8, ground := Ground.data }, { on := 7, ground := Ground.guard }], guard := some (7, true) }) (v := ?vq10) rfl (by kernel_rfl) (by kernel_rfl) (by kernel_rfl) (fun _ _ _ h => h) (Or.inl ⟨by rfl, ?hq10⟩) (by assumption) ?rq10
  case hq10 => intro W hSw; (try obtain ⟨z0, z1, z2, z3, z4, z5, z6, z7, z8⟩ := HC.out W hSw); go_simp; (try with_reducible rfl)
  try simp only [Act.put, List.setIfInBounds_toArray, List.set_cons_zero, List.set_cons_succ]
  refine wpAnyH_take (i := 10) (oi := { dst := some 39, op := Op.call { callee := Callee.builtin Builtin.len, args := #[Operand.tmp 38], argTypes := #[34] }, type := 3, pos := "law.go:28", after := #[{ on := 9, ground := Ground.data }, { on := 7, ground := Ground.guard }], guard := some (7, true) }) (v := ?vq11) rfl (by kernel_rfl) (by kernel_rfl) (by kernel_rfl) (fun _ _ _ h => h) (Or.inl ⟨by rfl, ?hq11⟩) (by assumption) ?rq11
  case hq11 => intro W hSw; (try obtain ⟨z0, z1, z2, z3, z4, z5, z6, z7, z8⟩ := HC.out W hSw); go_simp; (try with_reducible rfl)
  try simp only [Act.put, List.setIfInBounds_toArray, List.set_cons_zero, List.set_cons_succ]
  refine wpAnyH_take (i := 11) (oi := { dst := some 40, op := Op.binOp BinOp.eql 3 (Operand.tmp 39) (Operand.const (Value.int IntKind.i64 2)) 3, type := 4, pos := "law.go:28", after := #[{ on := 10, ground := Ground.data }, { on := 7, ground := Ground.guard }], guard := some (7, true) }) (v := ?vq12) rfl (by kernel_rfl) (by kernel_rfl) (by kernel_rfl) (fun _ _ _ h => h) (Or.inl ⟨by rfl, ?hq12⟩) (by assumption) ?rq12
  case hq12 => intro W hSw; (try obtain ⟨z0, z1, z2, z3, z4, z5, z6, z7, z8⟩ := HC.out W hSw); go_simp; (try with_reducible rfl)
  try simp only [Act.put, List.setIfInBounds_toArray, List.set_cons_zero, List.set_cons_succ]
  refine wpAnyH_take (i := 12) (oi := { dst := some 41, op := Op.pick (Operand.tmp 36) (Operand.tmp 40) (Operand.const (Value.bool false)), type := 4, pos := "law.go:28", after := #[{ on := 7, ground := Ground.data }, { on := 11, ground := Ground.data }], guard := none }) (v := ?vq13) rfl (by kernel_rfl) (by kernel_rfl) (by kernel_rfl) (fun _ _ _ h => h) (Or.inl ⟨by rfl, ?hq13⟩) (by assumption) ?rq13
  case hq13 => intro W hSw; (try obtain ⟨z0, z1, z2, z3, z4, z5, z6, z7, z8⟩ := HC.out W hSw); go_simp; (try with_reducible rfl)
  try simp only [Act.put, List.setIfInBounds_toArray, List.set_cons_zero, List.set_cons_succ]
  refine wpAnyH_take (i := 13) (oi := { dst := some 42, op := Op.move (Operand.tmp 41), type := 4, pos := "law.go:28", after := #[{ on := 12, ground := Ground.data }, { on := 7, ground := Ground.chain }], guard := none }) (v := ?vq14) rfl (by kernel_rfl) (by kernel_rfl) (by kernel_rfl) (fun _ _ _ h => h) (Or.inl ⟨by rfl, ?hq14⟩) (by assumption) ?rq14
  case hq14 => intro W hSw; (try obtain ⟨z0, z1, z2, z3, z4, z5, z6, z7, z8⟩ := HC.out W hSw); go_simp; (try with_reducible rfl)
  try simp only [Act.put, List.setIfInBounds_toArray, List.set_cons_zero, List.set_cons_succ]
  refine wpAnyH_take (i := 14) (oi := { dst := some 43, op := Op.fieldAddr 85 (Operand.tmp 3) 1, type := 0, pos := "law.go:28", after := #[{ on := 13, ground := Ground.guard }], guard := some (13, true) }) (v := ?vq15) rfl (by kernel_rfl) (by kernel_rfl) (by kernel_rfl) (fun _ _ _ h => h) (Or.inl ⟨by rfl, ?hq15⟩) (by assumption) ?rq15
  case hq15 => intro W hSw; (try obtain ⟨z0, z1, z2, z3, z4, z5, z6, z7, z8⟩ := HC.out W hSw); go_simp; (try with_reducible rfl)
  try simp only [Act.put, List.setIfInBounds_toArray, List.set_cons_zero, List.set_cons_succ]
  refine wpAnyH_take (i := 15) (oi := { dst := some 44, op := Op.load 34 (Operand.tmp 43), type := 34, pos := "law.go:28", after := #[{ on := 14, ground := Ground.data }, { on := 13, ground := Ground.guard }], guard := some (13, true) }) (v := ?vq16) rfl (by kernel_rfl) (by kernel_rfl) (by kernel_rfl) (fun _ _ _ h => h) (Or.inl ⟨by rfl, ?hq16⟩) (by assumption) ?rq16
  case hq16 => intro W hSw; (try obtain ⟨z0, z1, z2, z3, z4, z5, z6, z7, z8⟩ := HC.out W hSw); go_simp; (try with_reducible rfl)
  try simp only [Act.put, List.setIfInBounds_toArray, List.set_cons_zero, List.set_cons_succ]
  refine wpAnyH_take (i := 16) (oi := { dst := some 45, op := Op.indexAddr 34 (Operand.tmp 44) (Operand.const (Value.int IntKind.i64 0)), type := 0, pos := "law.go:28", after := #[{ on := 15, ground := Ground.data }, { on := 13, ground := Ground.guard }], guard := some (13, true) }) (v := ?vq17) rfl (by kernel_rfl) (by kernel_rfl) (by kernel_rfl) (fun _ _ _ h => h) (Or.inl ⟨by rfl, ?hq17⟩) (by assumption) ?rq17
  case hq17 => intro W hSw; (try obtain ⟨z0, z1, z2, z3, z4, z5, z6, z7, z8⟩ := HC.out W hSw); go_simp; (try with_reducible rfl)
  try simp only [Act.put, List.setIfInBounds_toArray, List.set_cons_zero, List.set_cons_succ]
  refine wpAnyH_take (i := 17) (oi := { dst := some 46, op := Op.fieldAddr 108 (Operand.tmp 45) 1, type := 0, pos := "law.go:28", after := #[{ on := 16, ground := Ground.data }, { on := 13, ground := Ground.guard }], guard := some (13, true) }) (v := ?vq18) rfl (by kernel_rfl) (by kernel_rfl) (by kernel_rfl) (fun _ _ _ h => h) (Or.inl ⟨by rfl, ?hq18⟩) (by assumption) ?rq18
  case hq18 => intro W hSw; (try obtain ⟨z0, z1, z2, z3, z4, z5, z6, z7, z8⟩ := HC.out W hSw); go_simp; (try with_reducible rfl)
  try simp only [Act.put, List.setIfInBounds_toArray, List.set_cons_zero, List.set_cons_succ]
  refine wpAnyH_take (i := 18) (oi := { dst := some 47, op := Op.load 3 (Operand.tmp 46), type := 3, pos := "law.go:28", after := #[{ on := 17, ground := Ground.data }, { on := 13, ground := Ground.guard }], guard := some (13, true) }) (v := ?vq19) rfl (by kernel_rfl) (by kernel_rfl) (by kernel_rfl) (fun _ _ _ h => h) (Or.inl ⟨by rfl, ?hq19⟩) (by assumption) ?rq19
  case hq19 => intro W hSw; (try obtain ⟨z0, z1, z2, z3, z4, z5, z6, z7, z8⟩ := HC.out W hSw); go_simp; (try with_reducible rfl)
  try simp only [Act.put, List.setIfInBounds_toArray, List.set_cons_zero, List.set_cons_succ]
  refine wpAnyH_take (i := 19) (oi := { dst := some 48, op := Op.binOp BinOp.eql 3 (Operand.tmp 47) (Operand.const (Value.int IntKind.i64 21)) 3, type := 4, pos := "law.go:28", after := #[{ on := 18, ground := Ground.data }, { on := 13, ground := Ground.guard }], guard := some (13, true) }) (v := ?vq20) rfl (by kernel_rfl) (by kernel_rfl) (by kernel_rfl) (fun _ _ _ h => h) (Or.inl ⟨by rfl, ?hq20⟩) (by assumption) ?rq20
  case hq20 => intro W hSw; (try obtain ⟨z0, z1, z2, z3, z4, z5, z6, z7, z8⟩ := HC.out W hSw); go_simp; (try with_reducible rfl)
  try simp only [Act.put, List.setIfInBounds_toArray, List.set_cons_zero, List.set_cons_succ]
  refine wpAnyH_take (i := 20) (oi := { dst := some 49, op := Op.pick (Operand.tmp 42) (Operand.tmp 48) (Operand.const (Value.bool false)), type := 4, pos := "law.go:28", after := #[{ on := 13, ground := Ground.data }, { on := 19, ground := Ground.data }], guard := none }) (v := ?vq21) rfl (by kernel_rfl) (by kernel_rfl) (by kernel_rfl) (fun _ _ _ h => h) (Or.inl ⟨by rfl, ?hq21⟩) (by assumption) ?rq21
  case hq21 => intro W hSw; (try obtain ⟨z0, z1, z2, z3, z4, z5, z6, z7, z8⟩ := HC.out W hSw); go_simp; (try with_reducible rfl)
  try simp only [Act.put, List.setIfInBounds_toArray, List.set_cons_zero, List.set_cons_succ]
  refine wpAnyH_take (i := 21) (oi := { dst := some 50, op := Op.move (Operand.tmp 49), type := 4, pos := "law.go:28", after := #[{ on := 20, ground := Ground.data }, { on := 13, ground := Ground.chain }], guard := none }) (v := ?vq22) rfl (by kernel_rfl) (by kernel_rfl) (by kernel_rfl) (fun _ _ _ h => h) (Or.inl ⟨by rfl, ?hq22⟩) (by assumption) ?rq22
  case hq22 => intro W hSw; (try obtain ⟨z0, z1, z2, z3, z4, z5, z6, z7, z8⟩ := HC.out W hSw); go_simp; (try with_reducible rfl)
  try simp only [Act.put, List.setIfInBounds_toArray, List.set_cons_zero, List.set_cons_succ]
  refine wpAnyH_take (i := 22) (oi := { dst := some 51, op := Op.fieldAddr 85 (Operand.tmp 3) 1, type := 0, pos := "law.go:28", after := #[{ on := 21, ground := Ground.guard }], guard := some (21, true) }) (v := ?vq23) rfl (by kernel_rfl) (by kernel_rfl) (by kernel_rfl) (fun _ _ _ h => h) (Or.inl ⟨by rfl, ?hq23⟩) (by assumption) ?rq23
  case hq23 => intro W hSw; (try obtain ⟨z0, z1, z2, z3, z4, z5, z6, z7, z8⟩ := HC.out W hSw); go_simp; (try with_reducible rfl)
  try simp only [Act.put, List.setIfInBounds_toArray, List.set_cons_zero, List.set_cons_succ]
  refine wpAnyH_take (i := 23) (oi := { dst := some 52, op := Op.load 34 (Operand.tmp 51), type := 34, pos := "law.go:28", after := #[{ on := 22, ground := Ground.data }, { on := 21, ground := Ground.guard }], guard := some (21, true) }) (v := ?vq24) rfl (by kernel_rfl) (by kernel_rfl) (by kernel_rfl) (fun _ _ _ h => h) (Or.inl ⟨by rfl, ?hq24⟩) (by assumption) ?rq24
  case hq24 => intro W hSw; (try obtain ⟨z0, z1, z2, z3, z4, z5, z6, z7, z8⟩ := HC.out W hSw); go_simp; (try with_reducible rfl)
  try simp only [Act.put, List.setIfInBounds_toArray, List.set_cons_zero, List.set_cons_succ]
  refine wpAnyH_take (i := 24) (oi := { dst := some 53, op := Op.indexAddr 34 (Operand.tmp 52) (Operand.const (Value.int IntKind.i64 1)), type := 0, pos := "law.go:28", after := #[{ on := 23, ground := Ground.data }, { on := 21, ground := Ground.guard }], guard := some (21, true) }) (v := ?vq25) rfl (by kernel_rfl) (by kernel_rfl) (by kernel_rfl) (fun _ _ _ h => h) (Or.inl ⟨by rfl, ?hq25⟩) (by assumption) ?rq25
  case hq25 => intro W hSw; (try obtain ⟨z0, z1, z2, z3, z4, z5, z6, z7, z8⟩ := HC.out W hSw); go_simp; (try with_reducible rfl)
  try simp only [Act.put, List.setIfInBounds_toArray, List.set_cons_zero, List.set_cons_succ]
  refine wpAnyH_take (i := 25) (oi := { dst := some 54, op := Op.fieldAddr 108 (Operand.tmp 53) 2, type := 0, pos := "law.go:28", after := #[{ on := 24, ground := Ground.data }, { on := 21, ground := Ground.guard }], guard := some (21, true) }) (v := ?vq26) rfl (by kernel_rfl) (by kernel_rfl) (by kernel_rfl) (fun _ _ _ h => h) (Or.inl ⟨by rfl, ?hq26⟩) (by assumption) ?rq26
  case hq26 => intro W hSw; (try obtain ⟨z0, z1, z2, z3, z4, z5, z6, z7, z8⟩ := HC.out W hSw); go_simp; (try with_reducible rfl)
  try simp only [Act.put, List.setIfInBounds_toArray, List.set_cons_zero, List.set_cons_succ]
  refine wpAnyH_take (i := 26) (oi := { dst := some 55, op := Op.load 106 (Operand.tmp 54), type := 106, pos := "law.go:28", after := #[{ on := 25, ground := Ground.data }, { on := 21, ground := Ground.guard }], guard := some (21, true) }) (v := ?vq27) rfl (by kernel_rfl) (by kernel_rfl) (by kernel_rfl) (fun _ _ _ h => h) (Or.inl ⟨by rfl, ?hq27⟩) (by assumption) ?rq27
  case hq27 => intro W hSw; (try obtain ⟨z0, z1, z2, z3, z4, z5, z6, z7, z8⟩ := HC.out W hSw); go_simp; (try with_reducible rfl)
  try simp only [Act.put, List.setIfInBounds_toArray, List.set_cons_zero, List.set_cons_succ]
  refine wpAnyH_ready (rs := [27]) (by kernel_rfl) (by simp) ?_
  refine AllReadyH.cons (o := { dst := some 56, op := Op.buildSlice 39 1 #[(0, Operand.const (Value.int IntKind.i64 6))], type := 39, pos := "law.go:28", after := #[{ on := 21, ground := Ground.guard }], guard := some (21, true) }) rfl (fun K hK => ?_) AllReadyH.nil
  go_simp
  refine hK.out _ _ ((Fr.none_alloc W1 _).drew) (fun hHeld => ?_)
  clear hK K
  try simp only [Act.put, List.setIfInBounds_toArray, List.set_cons_zero, List.set_cons_succ]
  refine wpAnyH_ready (rs := [28]) (by kernel_rfl) (by simp) ?_
  refine AllReadyH.cons (o := { dst := some 57, op := Op.call { callee := Callee.value (Operand.func 47), args := #[Operand.tmp 56], argTypes := #[39] }, type := 106, pos := "law.go:28", after := #[{ on := 27, ground := Ground.data }, { on := 21, ground := Ground.chain }, { on := 21, ground := Ground.guard }], guard := some (21, true) }) rfl (fun K hK => ?_) AllReadyH.nil
  go_simp
  go_wp2_with (first | (go_at_call 47; refine (HOf.out _ _ _ (Rd.newS (w := W1) (k := W1.heap.size) rfl _ _ 1 1 rfl).drew).mono ?_; rintro r w6 ⟨rfl, b6⟩))
  refine hK.out _ _ (hHeld.trans (Fr.b0 b6) (fun _ h => h.elim)) (fun hHeld => ?_)
  clear hK K
  try simp only [Act.put, List.setIfInBounds_toArray, List.set_cons_zero, List.set_cons_succ]
  refine wpAnyH_take (i := 29) (oi := { dst := some 58, op := Op.binOp BinOp.eql 106 (Operand.tmp 55) (Operand.tmp 57) 106, type := 4, pos := "law.go:28", after := #[{ on := 26, ground := Ground.data }, { on := 28, ground := Ground.data }, { on := 21, ground := Ground.guard }], guard := some (21, true) }) (v := ?vq28) rfl (by kernel_rfl) (by kernel_rfl) (by kernel_rfl) (fun _ _ _ h => h) (Or.inl ⟨by rfl, ?hq28⟩) (by assumption) ?rq28
  case hq28 => intro W hSw; (try obtain ⟨z0, z1, z2, z3, z4, z5, z6, z7, z8⟩ := HC.out W hSw); go_simp; (try with_reducible rfl)
  try simp only [Act.put, List.setIfInBounds_toArray, List.set_cons_zero, List.set_cons_succ]
  refine wpAnyH_take (i := 30) (oi := { dst := some 59, op := Op.pick (Operand.tmp 50) (Operand.tmp 58) (Operand.const (Value.bool false)), type := 4, pos := "law.go:28", after := #[{ on := 21, ground := Ground.data }, { on := 29, ground := Ground.data }], guard := none }) (v := ?vq29) rfl (by kernel_rfl) (by kernel_rfl) (by kernel_rfl) (fun _ _ _ h => h) (Or.inl ⟨by rfl, ?hq29⟩) (by assumption) ?rq29
  case hq29 => intro W hSw; (try obtain ⟨z0, z1, z2, z3, z4, z5, z6, z7, z8⟩ := HC.out W hSw); go_simp; (try with_reducible rfl)
  try simp only [Act.put, List.setIfInBounds_toArray, List.set_cons_zero, List.set_cons_succ]
  refine wpAnyH_take (i := 31) (oi := { dst := some 60, op := Op.move (Operand.tmp 59), type := 4, pos := "law.go:28", after := #[{ on := 30, ground := Ground.data }, { on := 28, ground := Ground.chain }], guard := none }) (v := ?vq30) rfl (by kernel_rfl) (by kernel_rfl) (by kernel_rfl) (fun _ _ _ h => h) (Or.inl ⟨by rfl, ?hq30⟩) (by assumption) ?rq30
  case hq30 => intro W hSw; (try obtain ⟨z0, z1, z2, z3, z4, z5, z6, z7, z8⟩ := HC.out W hSw); go_simp; (try with_reducible rfl)
  try simp only [Act.put, List.setIfInBounds_toArray, List.set_cons_zero, List.set_cons_succ]
  refine wpAnyH_take (i := 32) (oi := { dst := some 61, op := Op.move (Operand.tmp 1), type := 29, pos := "law.go:28", after := #[{ on := 31, ground := Ground.guard }], guard := some (31, true) }) (v := ?vq31) rfl (by kernel_rfl) (by kernel_rfl) (by kernel_rfl) (fun _ _ _ h => h) (Or.inl ⟨by rfl, ?hq31⟩) (by assumption) ?rq31
  case hq31 => intro W hSw; (try obtain ⟨z0, z1, z2, z3, z4, z5, z6, z7, z8⟩ := HC.out W hSw); go_simp; (try with_reducible rfl)
  try simp only [Act.put, List.setIfInBounds_toArray, List.set_cons_zero, List.set_cons_succ]
  refine wpAnyH_ready (rs := [33]) (by kernel_rfl) (by simp) ?_
  refine AllReadyH.cons (o := { dst := some 62, op := Op.call { callee := Callee.value (Operand.func 48), args := #[Operand.tmp 61], argTypes := #[29] }, type := 3, pos := "law.go:28", after := #[{ on := 32, ground := Ground.data }, { on := 31, ground := Ground.chain }, { on := 31, ground := Ground.guard }], guard := some (31, true) }) rfl (fun K hK => ?_) AllReadyH.nil
  go_simp
  go_wp2_with (first | (go_at_call 48; refine (HL.out _ hHeld).mono ?_; rintro r w7 ⟨rfl, rfl⟩))
  refine hK.out _ _ (hHeld) (fun hHeld => ?_)
  clear hK K
  try simp only [Act.put, List.setIfInBounds_toArray, List.set_cons_zero, List.set_cons_succ]
  refine wpAnyH_take (i := 34) (oi := { dst := some 63, op := Op.binOp BinOp.eql 3 (Operand.tmp 62) (Operand.const (Value.int IntKind.i64 3)) 3, type := 4, pos := "law.go:28", after := #[{ on := 33, ground := Ground.data }, { on := 31, ground := Ground.guard }], guard := some (31, true) }) (v := ?vq32) rfl (by kernel_rfl) (by kernel_rfl) (by kernel_rfl) (fun _ _ _ h => h) (Or.inl ⟨by rfl, ?hq32⟩) (by assumption) ?rq32
  case hq32 => intro W hSw; (try obtain ⟨z0, z1, z2, z3, z4, z5, z6, z7, z8⟩ := HC.out W hSw); go_simp; (try with_reducible rfl)
  try simp only [Act.put, List.setIfInBounds_toArray, List.set_cons_zero, List.set_cons_succ]
  refine wpAnyH_take (i := 35) (oi := { dst := some 64, op := Op.pick (Operand.tmp 60) (Operand.tmp 63) (Operand.const (Value.bool false)), type := 4, pos := "law.go:28", after := #[{ on := 31, ground := Ground.data }, { on := 34, ground := Ground.data }], guard := none }) (v := ?vq33) rfl (by kernel_rfl) (by kernel_rfl) (by kernel_rfl) (fun _ _ _ h => h) (Or.inl ⟨by rfl, ?hq33⟩) (by assumption) ?rq33
  case hq33 => intro W hSw; (try obtain ⟨z0, z1, z2, z3, z4, z5, z6, z7, z8⟩ := HC.out W hSw); go_simp; (try with_reducible rfl)
  try simp only [Act.put, List.setIfInBounds_toArray, List.set_cons_zero, List.set_cons_succ]
  refine wpAnyH_take (i := 36) (oi := { dst := some 65, op := Op.move (Operand.tmp 64), type := 4, pos := "law.go:28", after := #[{ on := 35, ground := Ground.data }, { on := 33, ground := Ground.chain }], guard := none }) (v := ?vq34) rfl (by kernel_rfl) (by kernel_rfl) (by kernel_rfl) (fun _ _ _ h => h) (Or.inl ⟨by rfl, ?hq34⟩) (by assumption) ?rq34
  case hq34 => intro W hSw; (try obtain ⟨z0, z1, z2, z3, z4, z5, z6, z7, z8⟩ := HC.out W hSw); go_simp; (try with_reducible rfl)
  try simp only [Act.put, List.setIfInBounds_toArray, List.set_cons_zero, List.set_cons_succ]
  refine wpAnyH_take (i := 37) (oi := { dst := some 66, op := Op.move (Operand.tmp 1), type := 29, pos := "law.go:28", after := #[{ on := 36, ground := Ground.guard }], guard := some (36, true) }) (v := ?vq35) rfl (by kernel_rfl) (by kernel_rfl) (by kernel_rfl) (fun _ _ _ h => h) (Or.inl ⟨by rfl, ?hq35⟩) (by assumption) ?rq35
  case hq35 => intro W hSw; (try obtain ⟨z0, z1, z2, z3, z4, z5, z6, z7, z8⟩ := HC.out W hSw); go_simp; (try with_reducible rfl)
  try simp only [Act.put, List.setIfInBounds_toArray, List.set_cons_zero, List.set_cons_succ]
  refine wpAnyH_take (i := 38) (oi := { dst := some 67, op := Op.nilCheck (Operand.tmp 66), type := 0, pos := "law.go:28", after := #[{ on := 37, ground := Ground.data }, { on := 36, ground := Ground.guard }], guard := some (36, true) }) (v := ?vq36) rfl (by kernel_rfl) (by kernel_rfl) (by kernel_rfl) (fun _ _ _ h => h) (Or.inl ⟨by rfl, ?hq36⟩) (by assumption) ?rq36
  case hq36 => intro W hSw; (try obtain ⟨z0, z1, z2, z3, z4, z5, z6, z7, z8⟩ := HC.out W hSw); go_simp; (try with_reducible rfl)
  try simp only [Act.put, List.setIfInBounds_toArray, List.set_cons_zero, List.set_cons_succ]
  refine wpAnyH_take (i := 39) (oi := { dst := some 68, op := Op.fieldAddr 44 (Operand.tmp 67) 0, type := 0, pos := "law.go:28", after := #[{ on := 38, ground := Ground.data }, { on := 36, ground := Ground.guard }], guard := some (36, true) }) (v := ?vq37) rfl (by kernel_rfl) (by kernel_rfl) (by kernel_rfl) (fun _ _ _ h => h) (Or.inl ⟨by rfl, ?hq37⟩) (by assumption) ?rq37
  case hq37 => intro W hSw; (try obtain ⟨z0, z1, z2, z3, z4, z5, z6, z7, z8⟩ := HC.out W hSw); go_simp; (try with_reducible rfl)
  try simp only [Act.put, List.setIfInBounds_toArray, List.set_cons_zero, List.set_cons_succ]
  refine wpAnyH_take (i := 40) (oi := { dst := some 69, op := Op.fieldAddr 41 (Operand.tmp 68) 0, type := 0, pos := "law.go:28", after := #[{ on := 39, ground := Ground.data }, { on := 36, ground := Ground.guard }], guard := some (36, true) }) (v := ?vq38) rfl (by kernel_rfl) (by kernel_rfl) (by kernel_rfl) (fun _ _ _ h => h) (Or.inl ⟨by rfl, ?hq38⟩) (by assumption) ?rq38
  case hq38 => intro W hSw; (try obtain ⟨z0, z1, z2, z3, z4, z5, z6, z7, z8⟩ := HC.out W hSw); go_simp; (try with_reducible rfl)
  try simp only [Act.put, List.setIfInBounds_toArray, List.set_cons_zero, List.set_cons_succ]
  refine wpAnyH_take (i := 41) (oi := { dst := some 70, op := Op.load 3 (Operand.tmp 69), type := 3, pos := "law.go:28", after := #[{ on := 40, ground := Ground.data }, { on := 36, ground := Ground.guard }], guard := some (36, true) }) (v := ?vq39) rfl (by kernel_rfl) (by kernel_rfl) (by kernel_rfl) (fun _ _ _ h => h) (Or.inl ⟨by rfl, ?hq39⟩) (by assumption) ?rq39
  case hq39 => intro W hSw; (try obtain ⟨z0, z1, z2, z3, z4, z5, z6, z7, z8⟩ := HC.out W hSw); go_simp; (try with_reducible rfl)
  try simp only [Act.put, List.setIfInBounds_toArray, List.set_cons_zero, List.set_cons_succ]
  refine wpAnyH_take (i := 42) (oi := { dst := some 71, op := Op.binOp BinOp.eql 3 (Operand.tmp 70) (Operand.const (Value.int IntKind.i64 25)) 3, type := 4, pos := "law.go:28", after := #[{ on := 41, ground := Ground.data }, { on := 36, ground := Ground.guard }], guard := some (36, true) }) (v := ?vq40) rfl (by kernel_rfl) (by kernel_rfl) (by kernel_rfl) (fun _ _ _ h => h) (Or.inl ⟨by rfl, ?hq40⟩) (by assumption) ?rq40
  case hq40 => intro W hSw; (try obtain ⟨z0, z1, z2, z3, z4, z5, z6, z7, z8⟩ := HC.out W hSw); go_simp; (try with_reducible rfl)
  try simp only [Act.put, List.setIfInBounds_toArray, List.set_cons_zero, List.set_cons_succ]
  refine wpAnyH_take (i := 43) (oi := { dst := some 72, op := Op.pick (Operand.tmp 65) (Operand.tmp 71) (Operand.const (Value.bool false)), type := 4, pos := "law.go:28", after := #[{ on := 36, ground := Ground.data }, { on := 42, ground := Ground.data }], guard := none }) (v := ?vq41) rfl (by kernel_rfl) (by kernel_rfl) (by kernel_rfl) (fun _ _ _ h => h) (Or.inl ⟨by rfl, ?hq41⟩) (by assumption) ?rq41
  case hq41 => intro W hSw; (try obtain ⟨z0, z1, z2, z3, z4, z5, z6, z7, z8⟩ := HC.out W hSw); go_simp; (try with_reducible rfl)
  try simp only [Act.put, List.setIfInBounds_toArray, List.set_cons_zero, List.set_cons_succ]
  refine wpAnyH_take (i := 44) (oi := { dst := some 0, op := Op.assign (Operand.tmp 72), type := 4, pos := "law.go:28", after := #[{ on := 43, ground := Ground.data }, { on := 36, ground := Ground.chain }, { on := 0, ground := Ground.phase }, { on := 1, ground := Ground.phase }, { on := 2, ground := Ground.phase }, { on := 3, ground := Ground.phase }, { on := 4, ground := Ground.phase }, { on := 5, ground := Ground.phase }, { on := 6, ground := Ground.phase }, { on := 7, ground := Ground.phase }, { on := 8, ground := Ground.phase }, { on := 9, ground := Ground.phase }, { on := 10, ground := Ground.phase }, { on := 11, ground := Ground.phase }, { on := 12, ground := Ground.phase }, { on := 13, ground := Ground.phase }, { on := 14, ground := Ground.phase }, { on := 15, ground := Ground.phase }, { on := 16, ground := Ground.phase }, { on := 17, ground := Ground.phase }, { on := 18, ground := Ground.phase }, { on := 19, ground := Ground.phase }, { on := 20, ground := Ground.phase }, { on := 21, ground := Ground.phase }, { on := 22, ground := Ground.phase }, { on := 23, ground := Ground.phase }, { on := 24, ground := Ground.phase }, { on := 25, ground := Ground.phase }, { on := 26, ground := Ground.phase }, { on := 27, ground := Ground.phase }, { on := 28, ground := Ground.phase }, { on := 29, ground := Ground.phase }, { on := 30, ground := Ground.phase }, { on := 31, ground := Ground.phase }, { on := 32, ground := Ground.phase }, { on := 33, ground := Ground.phase }, { on := 34, ground := Ground.phase }, { on := 35, ground := Ground.phase }, { on := 36, ground := Ground.phase }, { on := 37, ground := Ground.phase }, { on := 38, ground := Ground.phase }, { on := 39, ground := Ground.phase }, { on := 40, ground := Ground.phase }, { on := 41, ground := Ground.phase }, { on := 42, ground := Ground.phase }, { on := 43, ground := Ground.phase }], guard := none }) (v := ?vq42) rfl (by kernel_rfl) (by kernel_rfl) (by kernel_rfl) (fun _ _ _ h => h) (Or.inl ⟨by rfl, ?hq42⟩) (by assumption) ?rq42
  case hq42 => intro W hSw; (try obtain ⟨z0, z1, z2, z3, z4, z5, z6, z7, z8⟩ := HC.out W hSw); go_simp; (try with_reducible rfl)
  try simp only [Act.put, List.setIfInBounds_toArray, List.set_cons_zero, List.set_cons_succ]
  refine wpAnyH_done (by kernel_rfl) ?_ _
  go_wp2_with fail
  go_ret
  exact ⟨rfl, (O4.out.skip (F1.out.trans hHeld (fun _ h => h.elim))).bel⟩
end Go.Proofs.YtlhhcancfgjfkaaGreat
