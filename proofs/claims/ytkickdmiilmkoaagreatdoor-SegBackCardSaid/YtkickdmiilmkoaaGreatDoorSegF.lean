/- Walks of seg.GetHead, seg.Put. -/
import Derived.Test.YtkickdmiilmkoaaGreatDoorSegE
import Derived.Test.YtkickdmiilmkoaaGreatDoorBook
namespace Go.Proofs.YtkickdmiilmkoaaGreatDoor
open Go.RowKit

def HeadV.hval (h : HeadV) : Value := .agg #[.int .u64 h.id, .int .i64 h.tier, .int .i64 h.shard, .int .i64 h.place, .int .i64 h.of]
set_option maxHeartbeats 2000000 in
theorem gethead_any (l : List UInt8) (hl : l.length ≤ 1099511627776) (w : World) :
    Calls Tryz.prog 39 #[.string (bstr l)] w fun r w' => r = .returned (.tuple #[(hdV l).hval, .int .i64 (hdE l)]) ∧ Below w.heap.size w w' := by
  have HR := Lib.hid (fun w' => rd_any l hl w')
  obtain ⟨S, hS⟩ : ∃ S, bstr l = S := ⟨_, rfl⟩
  obtain ⟨E, hE⟩ : ∃ E, hdE l = E := ⟨_, rfl⟩
  obtain ⟨h, hh⟩ : ∃ h, hdV l = h := ⟨_, rfl⟩
  rw [hS, hE, hh] at HR
  rw [hS, hE, hh]
  obtain ⟨id, ti, sh, pl, of_, rc⟩ := h
  unfold HeadV.val at HR
  unfold HeadV.hval
  clear hS hE hh
  go_enter Tryz.func39, Tryz.ntmps39
  go_wp2_with fail
  refine (HR.out _).mono ?_
  rintro r w1 ⟨rfl, b1⟩
  have B1 := Lib.hid ((Blk.new w 76 #[.int .u64 0, .int .i64 0, .int .i64 0, .int .i64 0, .int .i64 0]).below b1)
  have O1 := Lib.hid ((((Own.start w).skip (Fr.none_alloc w (.cells #[.int .u64 0, .int .i64 0, .int .i64 0, .int .i64 0, .int .i64 0] 76))).below b1).also (G := fun k => k = w.heap.size) (fun k hk => by omega))
  have a0 := fun o => (B1.out.alloc o).cell 0
  have a1 := fun o => (B1.out.alloc o).cell 1
  have a2 := fun o => (B1.out.alloc o).cell 2
  have a3 := fun o => (B1.out.alloc o).cell 3
  have a4 := fun o => (B1.out.alloc o).cell 4
  have g0 := fun o => (B1.out.alloc o).frozen 0
  have g1 := fun o => (B1.out.alloc o).frozen 1
  have g2 := fun o => (B1.out.alloc o).frozen 2
  have g3 := fun o => (B1.out.alloc o).frozen 3
  have g4 := fun o => (B1.out.alloc o).frozen 4
  simp only [List.getElem?_toArray, List.getElem?_cons_succ, List.getElem?_cons_zero] at a0 a1 a2 a3 a4
  clear b1 HR
  go_wp2_with fail
  clear a0 a1 a2 a3 a4 g0 g1 g2 g3 g4
  have B9 := (B1.out.alloc (.cells #[.int .u64 id, .int .i64 ti, .int .i64 sh, .int .i64 pl, .int .i64 of_, .int .i64 rc] 136)).set5 (a := .int .u64 id) (b := .int .i64 ti) (c := .int .i64 sh) (d := .int .i64 pl) (e := .int .i64 of_)
  have O9 := O1.out.fr (((Fr.refl (fun k => k = w.heap.size) w1).alloc (.cells #[.int .u64 id, .int .i64 ti, .int .i64 sh, .int .i64 pl, .int .i64 of_, .int .i64 rc] 136)).set5 (g := w.heap.size) (.inl rfl) (.int .u64 id) (.int .i64 ti) (.int .i64 sh) (.int .i64 pl) (.int .i64 of_))
  obtain ⟨W9, hW9⟩ : ∃ W9, W9 = (((((w1.alloc (.cells #[.int .u64 id, .int .i64 ti, .int .i64 sh, .int .i64 pl, .int .i64 of_, .int .i64 rc] 136)).setCell ⟨w.heap.size, 0, none⟩ (.int .u64 id)).setCell ⟨w.heap.size, 1, none⟩ (.int .i64 ti)).setCell ⟨w.heap.size, 2, none⟩ (.int .i64 sh)).setCell ⟨w.heap.size, 3, none⟩ (.int .i64 pl)).setCell ⟨w.heap.size, 4, none⟩ (.int .i64 of_) := ⟨_, rfl⟩
  rw [← hW9] at B9 O9 ⊢
  have b0 := B9.cell 0
  have b1 := B9.cell 1
  have b2 := B9.cell 2
  have b3 := B9.cell 3
  have b4 := B9.cell 4
  simp only [List.getElem?_toArray, List.getElem?_cons_succ, List.getElem?_cons_zero] at b0 b1 b2 b3 b4
  refine bodyPost_ret (v := .tuple #[.agg #[.int .u64 id, .int .i64 ti, .int .i64 sh, .int .i64 pl, .int .i64 of_], .int .i64 E]) ?_ rfl ⟨rfl, O9.bel⟩
  simp [results, Tryz.results39, go_sem, b0, b1, b2, b3, b4]

/-- May the record at k be laid there? -/
def stepB (l : List RecV) (k : Nat) : Bool := match l[k]? with
  | some x => recOk x && (match k with | 0 => true | j + 1 => match l[j]? with | some y => lessB y x | none => true)
  | none => true
def segOk (l : List RecV) : Bool := (List.range l.length).all (stepB l)
def partL (l : List RecV) (k : Nat) : List RecV := (l.drop (3 * k)).take 3
def blocksL (id ti sh : Int) (l : List RecV) : List (List UInt8) := (List.range (blocksV l.length)).map fun (k : Nat) => blockB ⟨id, ti, sh, (k : Nat), (blocksV l.length : Nat), ((partL l k).length : Nat)⟩ (partL l k)
def strs (bs : List (List UInt8)) : List Value := bs.map fun b => .string (bstr b)
theorem segOk_false {l : List RecV} {k : Nat} (hk : k < l.length) (h : stepB l k = false) : segOk l = false := by
  unfold segOk
  rw [List.all_eq_false]
  exact ⟨k, List.mem_range.2 hk, by simp [h]⟩
theorem segOk_all {l : List RecV} (h : ∀ k, k < l.length → stepB l k = true) : segOk l = true := by
  unfold segOk
  rw [List.all_eq_true]
  exact fun k hk => h k (List.mem_range.1 hk)
theorem segOk_at {l : List RecV} (h : segOk l = true) {k : Nat} (hk : k < l.length) : stepB l k = true := by
  unfold segOk at h
  rw [List.all_eq_true] at h
  exact h k (List.mem_range.2 hk)
theorem segOk_recs {l : List RecV} (h : segOk l = true) : l.all recOk = true := by
  rw [List.all_eq_true]
  intro x hx
  obtain ⟨k, hk, e⟩ := List.getElem_of_mem hx
  have := segOk_at h hk
  unfold stepB at this
  rw [List.getElem?_eq_getElem hk, e] at this
  simp only [Bool.and_eq_true] at this
  exact this.1
theorem stepB_bad {l : List RecV} {k : Nat} {x : RecV} (hx : l[k]? = some x) (h : recOk x = false) : stepB l k = false := by
  unfold stepB
  rw [hx]
  simp [h]
theorem stepB_zero {l : List RecV} {x : RecV} (hx : l[0]? = some x) (h : recOk x = true) : stepB l 0 = true := by
  unfold stepB
  rw [hx]
  simp [h]
theorem stepB_succ {l : List RecV} {k : Nat} {x y : RecV} (hx : l[k + 1]? = some x) (hy : l[k]? = some y) (h : recOk x = true) : stepB l (k + 1) = lessB y x := by
  unfold stepB
  rw [hx]
  simp [h, hy]
theorem part_len {l : List RecV} {k : Nat} (hk : k < blocksV l.length) : (partL l k).length = min (3 * (k + 1)) l.length - 3 * k := by
  unfold partL blocksV at *
  rw [List.length_take, List.length_drop]; omega
theorem part_le (l : List RecV) (k : Nat) : (partL l k).length ≤ 3 := by unfold partL; rw [List.length_take]; omega
theorem part_mem {l : List RecV} {k : Nat} {x : RecV} (h : x ∈ partL l k) : x ∈ l := List.mem_of_mem_drop (List.mem_of_mem_take h)
theorem part_all {l : List RecV} {k : Nat} (h : l.all recOk = true) : (partL l k).all recOk = true := by
  rw [List.all_eq_true] at h ⊢
  exact fun x hx => h x (part_mem hx)
theorem strs_len (bs : List (List UInt8)) : (strs bs).length = bs.length := by simp [strs]
theorem blocksL_len (id ti sh : Int) (l : List RecV) : (blocksL id ti sh l).length = blocksV l.length := by simp [blocksL]
theorem rcells_part {l : List RecV} {k m : Nat} (hm : m = (partL l k).length) (hr : (rcells l).length = l.length * 7) : ((rcells l).drop (3 * k * 7)).take (m * 7) = rcells (partL l k) := by
  subst hm
  unfold rcells partL
  have hd : ∀ (l : List RecV) (j : Nat), (l.flatMap RecV.cells).drop (j * 7) = (l.drop j).flatMap RecV.cells := by
    intro l
    induction l with
    | nil => intro j; simp
    | cons a l ih =>
      intro j
      rcases j with _ | j
      · simp
      · rw [List.flatMap_cons, List.drop_append, List.drop_of_length_le (by rw [rec_len]; omega), rec_len, List.nil_append, show (j + 1) * 7 - 7 = j * 7 by omega, ih]; rfl
  have ht : ∀ (l : List RecV) (j : Nat), (l.flatMap RecV.cells).take (j * 7) = (l.take j).flatMap RecV.cells := by
    intro l
    induction l with
    | nil => intro j; simp
    | cons a l ih =>
      intro j
      rcases j with _ | j
      · simp
      · rw [List.flatMap_cons, List.take_append, List.take_of_length_le (by rw [rec_len]; omega), rec_len, show (j + 1) * 7 - 7 = j * 7 by omega, ih, List.take_succ_cons, List.flatMap_cons]
  rw [hd, ht]
  congr 1
  rw [List.length_take]
  rcases Nat.le_total 3 (l.drop (3 * k)).length with h | h
  · rw [Nat.min_eq_left h]
  · rw [Nat.min_eq_right h, List.take_of_length_le (Nat.le_refl _), List.take_of_length_le h]
theorem info_str : (Tryz.prog.info? 9).map (fun i => (i.zero, i.size, i.bytes)) = some (some (.string ByteArray.empty), 1, 16) := by kernel_rfl

set_option maxRecDepth 100000 in
set_option maxHeartbeats 8000000 in
theorem segput_any (id ti sh : Int) (hid : 0 ≤ id ∧ id < 18446744073709551616) (l : List RecV) (hl : ∀ r ∈ l, r.wf) (A : Option Addr) (n c : Nat) (w : World) (hr : Rd w 7 A n (rcells l)) (hn : n ≤ 12288) (hc : n ≤ c) :
    Calls Tryz.prog 36 #[.int .u64 id, .int .i64 ti, .int .i64 sh, .slice A n c] w fun r w' => ((rightB id ti sh && segOk l) = true → ∃ R cs, r = .returned (.tuple #[.slice R (blocksV n) cs, .int .i64 0]) ∧ w'.ownsRow w.heap.size 9 1 (.slice R (blocksV n) cs) (blocksV n) (strs (blocksL id ti sh l))) ∧ ((rightB id ti sh && segOk l) = false → r = .returned (.tuple #[.slice none 0 0, .int .i64 1])) ∧ Below w.heap.size w w' := by
  have hlen := hr.recs_len
  have HR := Lib.hid (fun w' => right_any id ti sh w')
  have HB := Lib.hid (fun w' => blocks_any n (by omega) w')
  have Hr := Lib.hid hr
  have Hl := Lib.hid hl
  have Hlen := Lib.hid hlen
  have Hid_ := Lib.hid hid
  clear hr hl hlen hid
  cases hR : rightB id ti sh
  · rw [hR] at HR
    clear hR
    go_enter Tryz.func36, Tryz.ntmps36
    go_wp2_with fail
    refine (HR.out _).mono ?_
    rintro r w1 ⟨rfl, rfl⟩
    go_wp2_with fail
    go_ret2
    exact ⟨fun h => (by cases h), fun _ => rfl, Below.refl _ _⟩
  rw [hR] at HR
  have hRt : Hid (0 ≤ ti ∧ ti < 10 ∧ 0 ≤ sh ∧ sh < 8) := by show _ ∧ _; unfold rightB at hR; simp at hR; omega
  clear hR
  obtain ⟨i0, hi, hz0, hz1, hz2⟩ := info_parts info_str
  go_enter Tryz.func36, Tryz.ntmps36
  go_wp2_with fail
  refine (HR.out _).mono ?_
  rintro r w1 ⟨rfl, rfl⟩
  go_wp2_with fail
  go_loopw [24] (fun i wr => ∃ k : Nat, k ≤ n ∧ i = .int .i64 k ∧ Hid (∀ j, j < k → stepB l j = true) ∧ Below w.heap.size w wr) (fun i _ => n - (intOf i).toNat)
  case atStart => exact ⟨0, Nat.zero_le _, rfl, fun j hj => absurd hj (by omega), Below.refl _ _⟩
  case round =>
    obtain ⟨k, hk, rfl, hall, hb⟩ := hrel
    have Hb := Lib.hid hb
    have HA := Lib.hid (Hr.out.fr0 (Fr.b0 hb))
    clear hb
    by_cases hlt : k < n
    · obtain ⟨ad, ⟨xnm, xst, ⟨xc, xh, xlo, xm, xx⟩⟩, rfl, hx, d0, d1, d2, d3, d4, d5, d6⟩ := HA.out.rec_ hlt
      simp only at d0 d1 d2 d3 d4 d5 d6
      have hwx := Hl.out _ (mem_of_get hx)
      have hxn := hwx.2.2
      simp only at hxn
      have HV := Lib.hid (fun w' => recvalid_any ⟨xnm, xst, ⟨xc, xh, xlo, xm, xx⟩⟩ hxn w')
      have HX := Lib.hid hx
      clear hx hwx hxn
      have B1 := Lib.hid (Blk.new wr 63 #[.string xnm, .int .i64 xst, .int .i64 xc, .int .i64 xh, .int .u64 xlo, .int .i64 xm, .int .i64 xx])
      have F1 : Hid (Fr (fun _ => False) wr (wr.alloc (.cells #[.string xnm, .int .i64 xst, .int .i64 xc, .int .i64 xh, .int .u64 xlo, .int .i64 xm, .int .i64 xx] 63))) := Fr.none_alloc _ _
      have hk7 : ((k : Int) * 7).toNat = k * 7 := by omega
      go_wp2_with fail
      clear d0 d1 d2 d3 d4 d5 d6
      obtain ⟨W1, hW1⟩ : ∃ W1, W1 = wr.alloc (.cells #[.string xnm, .int .i64 xst, .int .i64 xc, .int .i64 xh, .int .u64 xlo, .int .i64 xm, .int .i64 xx] 63) := ⟨_, rfl⟩
      rw [← hW1] at B1 F1 ⊢
      clear hW1
      have HC1 : Hid (∀ W, Fr (fun _ => False) W1 W → (W.cell? ⟨wr.heap.size, 0, none⟩ = some (.string xnm) ∧ W.cell? ⟨wr.heap.size, 1, none⟩ = some (.int .i64 xst) ∧ W.cell? ⟨wr.heap.size, 2, none⟩ = some (.int .i64 xc) ∧ W.cell? ⟨wr.heap.size, 3, none⟩ = some (.int .i64 xh) ∧ W.cell? ⟨wr.heap.size, 4, none⟩ = some (.int .u64 xlo) ∧ W.cell? ⟨wr.heap.size, 5, none⟩ = some (.int .i64 xm) ∧ W.cell? ⟨wr.heap.size, 6, none⟩ = some (.int .i64 xx))) := fun W f => by
        have b := B1.out.fr f (fun h => h)
        exact ⟨b.cell 0, b.cell 1, b.cell 2, b.cell 3, b.cell 4, b.cell 5, b.cell 6⟩
      have HBe : Hid (∀ W, Fr (fun _ => False) W1 W → Below w.heap.size w W) := fun W f => Hb.out.trans ((F1.out.trans f (fun _ h => h.elim)).below_of Hb.out.size (fun _ h => h.elim))
      obtain ⟨x0, x1, x2, x3, x4, x5, x6⟩ := HC1.out W1.drew (Fr.refl _ W1).drew
      have F2 : Fr (fun _ => False) W1 W1.drew := (Fr.refl _ W1).drew
      cases hok : recOk ⟨xnm, xst, ⟨xc, xh, xlo, xm, xx⟩⟩
      · have HF : Hid (segOk l = false) := segOk_false (by rw [Hlen.out]; exact hlt) (stepB_bad HX.out hok)
        have H1 : Hid (∀ W, Fr (fun _ => False) W1 W → Calls Tryz.prog 29 #[.agg #[.string xnm, .int .i64 xst, .int .i64 xc, .int .i64 xh, .int .u64 xlo, .int .i64 xm, .int .i64 xx]] W fun r w'' => r = .returned (.bool false) ∧ Fr (fun _ => False) W1 w'') := fun W hf => by
          refine (HV.out W).mono ?_
          rintro r w'' ⟨e, b⟩
          rw [← hok]
          exact ⟨e, hf.trans (Fr.b0 b) (fun _ h => h.elim)⟩
        clear hok
        refine wp_region_any (by kernel_rfl) ?_
        change wpAny _ _ _ _ _ _ _ (World.drew _)
        refine wpAny_ready (rs := [0]) (by kernel_rfl) (by simp) ?_
        refine AllReady.cons (o := { dst := some 29, op := Op.load 63 (Operand.tmp 11), type := 63, pos := "seg.go:70", after := #[], guard := none }) rfl (fun K hK => ?_) AllReady.nil
        go_simp
        refine hK _ _ ?_
        clear hK K
        try simp only [Act.put, List.setIfInBounds_toArray, List.set_cons_zero, List.set_cons_succ]
        refine wpAny_ready (rs := [1]) (by kernel_rfl) (by simp) ?_
        refine AllReady.cons (o := { dst := some 30, op := Op.call { callee := Callee.value (Operand.func 29), args := #[Operand.tmp 29], argTypes := #[63] }, type := 4, pos := "seg.go:70", after := #[{ on := 0, ground := Ground.data }], guard := none }) rfl (fun K hK => ?_) AllReady.nil
        go_simp
        go_wp2_with (first | (go_at_call 29; refine (H1.out _ (by assumption)).mono ?_; rintro r w5 ⟨rfl, f5⟩; obtain ⟨y0, y1, y2, y3, y4, y5, y6⟩ := HC1.out w5 f5))
        refine wpAny_take (i := 2) (oi := { dst := some 31, op := Op.unOp UnOp.not 4 (Operand.tmp 30), type := 4, pos := "seg.go:70", after := #[{ on := 1, ground := Ground.data }], guard := none }) (v := ?vq1) rfl (by kernel_rfl) (by kernel_rfl) (by kernel_rfl) (fun _ _ _ h => h) (Or.inl ⟨by rfl, ?hq1⟩) ?rq1
        case hq1 => intro W; go_simp; (try with_reducible rfl)
        try simp only [Act.put, List.setIfInBounds_toArray, List.set_cons_zero, List.set_cons_succ]
        refine wpAny_take (i := 3) (oi := { dst := some 32, op := Op.move (Operand.tmp 31), type := 4, pos := "seg.go:70", after := #[{ on := 2, ground := Ground.data }, { on := 1, ground := Ground.chain }], guard := none }) (v := ?vq2) rfl (by kernel_rfl) (by kernel_rfl) (by kernel_rfl) (fun _ _ _ h => h) (Or.inl ⟨by rfl, ?hq2⟩) ?rq2
        case hq2 => intro W; go_simp; (try with_reducible rfl)
        try simp only [Act.put, List.setIfInBounds_toArray, List.set_cons_zero, List.set_cons_succ]
        refine wpAny_take (i := 4) (oi := { dst := some 33, op := Op.move (Operand.tmp 10), type := 3, pos := "seg.go:70", after := #[{ on := 3, ground := Ground.guard }], guard := some (3, false) }) (v := undef) rfl (by kernel_rfl) (by kernel_rfl) (by kernel_rfl) (fun _ _ _ h => h) (Or.inr ⟨by rfl, rfl⟩) ?_
        try simp only [Act.put, List.setIfInBounds_toArray, List.set_cons_zero, List.set_cons_succ]
        refine wpAny_take (i := 5) (oi := { dst := some 34, op := Op.binOp BinOp.gtr 3 (Operand.tmp 33) (Operand.const (Value.int IntKind.i64 0)) 3, type := 4, pos := "seg.go:70", after := #[{ on := 4, ground := Ground.data }, { on := 3, ground := Ground.guard }], guard := some (3, false) }) (v := undef) rfl (by kernel_rfl) (by kernel_rfl) (by kernel_rfl) (fun _ _ _ h => h) (Or.inr ⟨by rfl, rfl⟩) ?_
        try simp only [Act.put, List.setIfInBounds_toArray, List.set_cons_zero, List.set_cons_succ]
        refine wpAny_take (i := 6) (oi := { dst := some 35, op := Op.move (Operand.tmp 34), type := 4, pos := "seg.go:70", after := #[{ on := 5, ground := Ground.data }, { on := 3, ground := Ground.chain }, { on := 3, ground := Ground.guard }], guard := some (3, false) }) (v := undef) rfl (by kernel_rfl) (by kernel_rfl) (by kernel_rfl) (fun _ _ _ h => h) (Or.inr ⟨by rfl, rfl⟩) ?_
        try simp only [Act.put, List.setIfInBounds_toArray, List.set_cons_zero, List.set_cons_succ]
        refine wpAny_take (i := 7) (oi := { dst := some 36, op := Op.move (Operand.tmp 3), type := 49, pos := "seg.go:70", after := #[{ on := 6, ground := Ground.guard }], guard := some (6, true) }) (v := undef) rfl (by kernel_rfl) (by kernel_rfl) (by kernel_rfl) (fun _ _ _ h => h) (Or.inr ⟨by rfl, rfl⟩) ?_
        try simp only [Act.put, List.setIfInBounds_toArray, List.set_cons_zero, List.set_cons_succ]
        refine wpAny_take (i := 8) (oi := { dst := some 37, op := Op.move (Operand.tmp 10), type := 3, pos := "seg.go:70", after := #[{ on := 6, ground := Ground.guard }], guard := some (6, true) }) (v := undef) rfl (by kernel_rfl) (by kernel_rfl) (by kernel_rfl) (fun _ _ _ h => h) (Or.inr ⟨by rfl, rfl⟩) ?_
        try simp only [Act.put, List.setIfInBounds_toArray, List.set_cons_zero, List.set_cons_succ]
        refine wpAny_take (i := 9) (oi := { dst := some 38, op := Op.binOp BinOp.sub 3 (Operand.tmp 37) (Operand.const (Value.int IntKind.i64 1)) 3, type := 3, pos := "seg.go:70", after := #[{ on := 8, ground := Ground.data }, { on := 6, ground := Ground.guard }], guard := some (6, true) }) (v := undef) rfl (by kernel_rfl) (by kernel_rfl) (by kernel_rfl) (fun _ _ _ h => h) (Or.inr ⟨by rfl, rfl⟩) ?_
        try simp only [Act.put, List.setIfInBounds_toArray, List.set_cons_zero, List.set_cons_succ]
        refine wpAny_take (i := 10) (oi := { dst := some 39, op := Op.indexAddr 49 (Operand.tmp 36) (Operand.tmp 38), type := 0, pos := "seg.go:70", after := #[{ on := 7, ground := Ground.data }, { on := 9, ground := Ground.data }, { on := 6, ground := Ground.guard }], guard := some (6, true) }) (v := undef) rfl (by kernel_rfl) (by kernel_rfl) (by kernel_rfl) (fun _ _ _ h => h) (Or.inr ⟨by rfl, rfl⟩) ?_
        try simp only [Act.put, List.setIfInBounds_toArray, List.set_cons_zero, List.set_cons_succ]
        refine wpAny_take (i := 11) (oi := { dst := some 40, op := Op.load 63 (Operand.tmp 39), type := 63, pos := "seg.go:70", after := #[{ on := 10, ground := Ground.data }, { on := 6, ground := Ground.guard }], guard := some (6, true) }) (v := undef) rfl (by kernel_rfl) (by kernel_rfl) (by kernel_rfl) (fun _ _ _ h => h) (Or.inr ⟨by rfl, rfl⟩) ?_
        try simp only [Act.put, List.setIfInBounds_toArray, List.set_cons_zero, List.set_cons_succ]
        refine wpAny_take (i := 12) (oi := { dst := some 41, op := Op.load 63 (Operand.tmp 11), type := 63, pos := "seg.go:70", after := #[{ on := 6, ground := Ground.guard }], guard := some (6, true) }) (v := undef) rfl (by kernel_rfl) (by kernel_rfl) (by kernel_rfl) (fun _ _ _ h => h) (Or.inr ⟨by rfl, rfl⟩) ?_
        try simp only [Act.put, List.setIfInBounds_toArray, List.set_cons_zero, List.set_cons_succ]
        refine wpAny_take (i := 13) (oi := { dst := some 42, op := Op.call { callee := Callee.value (Operand.func 101), args := #[Operand.tmp 40, Operand.tmp 41], argTypes := #[63, 63] }, type := 4, pos := "seg.go:70", after := #[{ on := 11, ground := Ground.data }, { on := 12, ground := Ground.data }, { on := 6, ground := Ground.chain }, { on := 6, ground := Ground.guard }], guard := some (6, true) }) (v := undef) rfl (by kernel_rfl) (by kernel_rfl) (by kernel_rfl) (fun _ _ _ h => h) (Or.inr ⟨by rfl, rfl⟩) ?_
        try simp only [Act.put, List.setIfInBounds_toArray, List.set_cons_zero, List.set_cons_succ]
        refine wpAny_take (i := 14) (oi := { dst := some 43, op := Op.unOp UnOp.not 4 (Operand.tmp 42), type := 4, pos := "seg.go:70", after := #[{ on := 13, ground := Ground.data }, { on := 6, ground := Ground.guard }], guard := some (6, true) }) (v := undef) rfl (by kernel_rfl) (by kernel_rfl) (by kernel_rfl) (fun _ _ _ h => h) (Or.inr ⟨by rfl, rfl⟩) ?_
        try simp only [Act.put, List.setIfInBounds_toArray, List.set_cons_zero, List.set_cons_succ]
        refine wpAny_take (i := 15) (oi := { dst := some 44, op := Op.pick (Operand.tmp 35) (Operand.tmp 43) (Operand.const (Value.bool false)), type := 4, pos := "seg.go:70", after := #[{ on := 6, ground := Ground.data }, { on := 14, ground := Ground.data }, { on := 3, ground := Ground.guard }], guard := some (3, false) }) (v := undef) rfl (by kernel_rfl) (by kernel_rfl) (by kernel_rfl) (fun _ _ _ h => h) (Or.inr ⟨by rfl, rfl⟩) ?_
        try simp only [Act.put, List.setIfInBounds_toArray, List.set_cons_zero, List.set_cons_succ]
        refine wpAny_take (i := 16) (oi := { dst := some 45, op := Op.pick (Operand.tmp 32) (Operand.const (Value.bool true)) (Operand.tmp 44), type := 4, pos := "seg.go:70", after := #[{ on := 3, ground := Ground.data }, { on := 15, ground := Ground.data }], guard := none }) (v := ?vq3) rfl (by kernel_rfl) (by kernel_rfl) (by kernel_rfl) (fun _ _ _ h => h) (Or.inl ⟨by rfl, ?hq3⟩) ?rq3
        case hq3 => intro W; go_simp; (try with_reducible rfl)
        try simp only [Act.put, List.setIfInBounds_toArray, List.set_cons_zero, List.set_cons_succ]
        refine wpAny_done (by kernel_rfl) ?_ _
        have HW5 := Lib.hid (HBe.out _ f5)
        clear x0 x1 x2 x3 x4 x5 x6 y0 y1 y2 y3 y4 y5 y6
        go_wp2_with fail
        go_ret2
        exact ⟨fun h => (by rw [HF.out] at h; cases h), fun _ => rfl, HW5.out⟩
      have H1 : Hid (∀ W, Fr (fun _ => False) W1 W → Calls Tryz.prog 29 #[.agg #[.string xnm, .int .i64 xst, .int .i64 xc, .int .i64 xh, .int .u64 xlo, .int .i64 xm, .int .i64 xx]] W fun r w'' => r = .returned (.bool true) ∧ Fr (fun _ => False) W1 w'') := fun W hf => by
        refine (HV.out W).mono ?_
        rintro r w'' ⟨e, b⟩
        rw [← hok]
        exact ⟨e, hf.trans (Fr.b0 b) (fun _ h => h.elim)⟩
      have HOK := Lib.hid hok
      clear hok
      rcases Nat.eq_zero_or_pos k with rfl | hpos
      · have hall1 : Hid (∀ j, j < 0 + 1 → stepB l j = true) := fun j hj => by
          obtain rfl : j = 0 := by omega
          exact stepB_zero HX.out HOK.out
        refine wp_region_any (by kernel_rfl) ?_
        change wpAny _ _ _ _ _ _ _ (World.drew _)
        refine wpAny_ready (rs := [0]) (by kernel_rfl) (by simp) ?_
        refine AllReady.cons (o := { dst := some 29, op := Op.load 63 (Operand.tmp 11), type := 63, pos := "seg.go:70", after := #[], guard := none }) rfl (fun K hK => ?_) AllReady.nil
        go_simp
        refine hK _ _ ?_
        clear hK K
        try simp only [Act.put, List.setIfInBounds_toArray, List.set_cons_zero, List.set_cons_succ]
        refine wpAny_ready (rs := [1]) (by kernel_rfl) (by simp) ?_
        refine AllReady.cons (o := { dst := some 30, op := Op.call { callee := Callee.value (Operand.func 29), args := #[Operand.tmp 29], argTypes := #[63] }, type := 4, pos := "seg.go:70", after := #[{ on := 0, ground := Ground.data }], guard := none }) rfl (fun K hK => ?_) AllReady.nil
        go_simp
        go_wp2_with (first | (go_at_call 29; refine (H1.out _ (by assumption)).mono ?_; rintro r w5 ⟨rfl, f5⟩; obtain ⟨y0, y1, y2, y3, y4, y5, y6⟩ := HC1.out w5 f5))
        refine wpAny_take (i := 2) (oi := { dst := some 31, op := Op.unOp UnOp.not 4 (Operand.tmp 30), type := 4, pos := "seg.go:70", after := #[{ on := 1, ground := Ground.data }], guard := none }) (v := ?vq4) rfl (by kernel_rfl) (by kernel_rfl) (by kernel_rfl) (fun _ _ _ h => h) (Or.inl ⟨by rfl, ?hq4⟩) ?rq4
        case hq4 => intro W; go_simp; (try with_reducible rfl)
        try simp only [Act.put, List.setIfInBounds_toArray, List.set_cons_zero, List.set_cons_succ]
        refine wpAny_take (i := 3) (oi := { dst := some 32, op := Op.move (Operand.tmp 31), type := 4, pos := "seg.go:70", after := #[{ on := 2, ground := Ground.data }, { on := 1, ground := Ground.chain }], guard := none }) (v := ?vq5) rfl (by kernel_rfl) (by kernel_rfl) (by kernel_rfl) (fun _ _ _ h => h) (Or.inl ⟨by rfl, ?hq5⟩) ?rq5
        case hq5 => intro W; go_simp; (try with_reducible rfl)
        try simp only [Act.put, List.setIfInBounds_toArray, List.set_cons_zero, List.set_cons_succ]
        refine wpAny_take (i := 4) (oi := { dst := some 33, op := Op.move (Operand.tmp 10), type := 3, pos := "seg.go:70", after := #[{ on := 3, ground := Ground.guard }], guard := some (3, false) }) (v := ?vq6) rfl (by kernel_rfl) (by kernel_rfl) (by kernel_rfl) (fun _ _ _ h => h) (Or.inl ⟨by rfl, ?hq6⟩) ?rq6
        case hq6 => intro W; go_simp; (try with_reducible rfl)
        try simp only [Act.put, List.setIfInBounds_toArray, List.set_cons_zero, List.set_cons_succ]
        refine wpAny_take (i := 5) (oi := { dst := some 34, op := Op.binOp BinOp.gtr 3 (Operand.tmp 33) (Operand.const (Value.int IntKind.i64 0)) 3, type := 4, pos := "seg.go:70", after := #[{ on := 4, ground := Ground.data }, { on := 3, ground := Ground.guard }], guard := some (3, false) }) (v := ?vq7) rfl (by kernel_rfl) (by kernel_rfl) (by kernel_rfl) (fun _ _ _ h => h) (Or.inl ⟨by rfl, ?hq7⟩) ?rq7
        case hq7 => intro W; go_simp; (try with_reducible rfl)
        try simp only [Act.put, List.setIfInBounds_toArray, List.set_cons_zero, List.set_cons_succ]
        refine wpAny_take (i := 6) (oi := { dst := some 35, op := Op.move (Operand.tmp 34), type := 4, pos := "seg.go:70", after := #[{ on := 5, ground := Ground.data }, { on := 3, ground := Ground.chain }, { on := 3, ground := Ground.guard }], guard := some (3, false) }) (v := ?vq8) rfl (by kernel_rfl) (by kernel_rfl) (by kernel_rfl) (fun _ _ _ h => h) (Or.inl ⟨by rfl, ?hq8⟩) ?rq8
        case hq8 => intro W; go_simp; (try with_reducible rfl)
        try simp only [Act.put, List.setIfInBounds_toArray, List.set_cons_zero, List.set_cons_succ]
        refine wpAny_take (i := 7) (oi := { dst := some 36, op := Op.move (Operand.tmp 3), type := 49, pos := "seg.go:70", after := #[{ on := 6, ground := Ground.guard }], guard := some (6, true) }) (v := undef) rfl (by kernel_rfl) (by kernel_rfl) (by kernel_rfl) (fun _ _ _ h => h) (Or.inr ⟨by rfl, rfl⟩) ?_
        try simp only [Act.put, List.setIfInBounds_toArray, List.set_cons_zero, List.set_cons_succ]
        refine wpAny_take (i := 8) (oi := { dst := some 37, op := Op.move (Operand.tmp 10), type := 3, pos := "seg.go:70", after := #[{ on := 6, ground := Ground.guard }], guard := some (6, true) }) (v := undef) rfl (by kernel_rfl) (by kernel_rfl) (by kernel_rfl) (fun _ _ _ h => h) (Or.inr ⟨by rfl, rfl⟩) ?_
        try simp only [Act.put, List.setIfInBounds_toArray, List.set_cons_zero, List.set_cons_succ]
        refine wpAny_take (i := 9) (oi := { dst := some 38, op := Op.binOp BinOp.sub 3 (Operand.tmp 37) (Operand.const (Value.int IntKind.i64 1)) 3, type := 3, pos := "seg.go:70", after := #[{ on := 8, ground := Ground.data }, { on := 6, ground := Ground.guard }], guard := some (6, true) }) (v := undef) rfl (by kernel_rfl) (by kernel_rfl) (by kernel_rfl) (fun _ _ _ h => h) (Or.inr ⟨by rfl, rfl⟩) ?_
        try simp only [Act.put, List.setIfInBounds_toArray, List.set_cons_zero, List.set_cons_succ]
        refine wpAny_take (i := 10) (oi := { dst := some 39, op := Op.indexAddr 49 (Operand.tmp 36) (Operand.tmp 38), type := 0, pos := "seg.go:70", after := #[{ on := 7, ground := Ground.data }, { on := 9, ground := Ground.data }, { on := 6, ground := Ground.guard }], guard := some (6, true) }) (v := undef) rfl (by kernel_rfl) (by kernel_rfl) (by kernel_rfl) (fun _ _ _ h => h) (Or.inr ⟨by rfl, rfl⟩) ?_
        try simp only [Act.put, List.setIfInBounds_toArray, List.set_cons_zero, List.set_cons_succ]
        refine wpAny_take (i := 11) (oi := { dst := some 40, op := Op.load 63 (Operand.tmp 39), type := 63, pos := "seg.go:70", after := #[{ on := 10, ground := Ground.data }, { on := 6, ground := Ground.guard }], guard := some (6, true) }) (v := undef) rfl (by kernel_rfl) (by kernel_rfl) (by kernel_rfl) (fun _ _ _ h => h) (Or.inr ⟨by rfl, rfl⟩) ?_
        try simp only [Act.put, List.setIfInBounds_toArray, List.set_cons_zero, List.set_cons_succ]
        refine wpAny_take (i := 12) (oi := { dst := some 41, op := Op.load 63 (Operand.tmp 11), type := 63, pos := "seg.go:70", after := #[{ on := 6, ground := Ground.guard }], guard := some (6, true) }) (v := undef) rfl (by kernel_rfl) (by kernel_rfl) (by kernel_rfl) (fun _ _ _ h => h) (Or.inr ⟨by rfl, rfl⟩) ?_
        try simp only [Act.put, List.setIfInBounds_toArray, List.set_cons_zero, List.set_cons_succ]
        refine wpAny_take (i := 13) (oi := { dst := some 42, op := Op.call { callee := Callee.value (Operand.func 101), args := #[Operand.tmp 40, Operand.tmp 41], argTypes := #[63, 63] }, type := 4, pos := "seg.go:70", after := #[{ on := 11, ground := Ground.data }, { on := 12, ground := Ground.data }, { on := 6, ground := Ground.chain }, { on := 6, ground := Ground.guard }], guard := some (6, true) }) (v := undef) rfl (by kernel_rfl) (by kernel_rfl) (by kernel_rfl) (fun _ _ _ h => h) (Or.inr ⟨by rfl, rfl⟩) ?_
        try simp only [Act.put, List.setIfInBounds_toArray, List.set_cons_zero, List.set_cons_succ]
        refine wpAny_take (i := 14) (oi := { dst := some 43, op := Op.unOp UnOp.not 4 (Operand.tmp 42), type := 4, pos := "seg.go:70", after := #[{ on := 13, ground := Ground.data }, { on := 6, ground := Ground.guard }], guard := some (6, true) }) (v := undef) rfl (by kernel_rfl) (by kernel_rfl) (by kernel_rfl) (fun _ _ _ h => h) (Or.inr ⟨by rfl, rfl⟩) ?_
        try simp only [Act.put, List.setIfInBounds_toArray, List.set_cons_zero, List.set_cons_succ]
        refine wpAny_take (i := 15) (oi := { dst := some 44, op := Op.pick (Operand.tmp 35) (Operand.tmp 43) (Operand.const (Value.bool false)), type := 4, pos := "seg.go:70", after := #[{ on := 6, ground := Ground.data }, { on := 14, ground := Ground.data }, { on := 3, ground := Ground.guard }], guard := some (3, false) }) (v := ?vq9) rfl (by kernel_rfl) (by kernel_rfl) (by kernel_rfl) (fun _ _ _ h => h) (Or.inl ⟨by rfl, ?hq9⟩) ?rq9
        case hq9 => intro W; go_simp; (try with_reducible rfl)
        try simp only [Act.put, List.setIfInBounds_toArray, List.set_cons_zero, List.set_cons_succ]
        refine wpAny_take (i := 16) (oi := { dst := some 45, op := Op.pick (Operand.tmp 32) (Operand.const (Value.bool true)) (Operand.tmp 44), type := 4, pos := "seg.go:70", after := #[{ on := 3, ground := Ground.data }, { on := 15, ground := Ground.data }], guard := none }) (v := ?vq10) rfl (by kernel_rfl) (by kernel_rfl) (by kernel_rfl) (fun _ _ _ h => h) (Or.inl ⟨by rfl, ?hq10⟩) ?rq10
        case hq10 => intro W; go_simp; (try with_reducible rfl)
        try simp only [Act.put, List.setIfInBounds_toArray, List.set_cons_zero, List.set_cons_succ]
        refine wpAny_done (by kernel_rfl) ?_ _
        have HW5 := Lib.hid (HBe.out _ f5)
        clear x0 x1 x2 x3 x4 x5 x6 y0 y1 y2 y3 y4 y5 y6
        go_wp2
        go_roundw
        case rel => exact ⟨1, by omega, by go_num, hall1.out, HW5.out⟩
        case measure => simp [intOf]; omega
      · obtain ⟨j, rfl⟩ : ∃ j, k = j + 1 := ⟨k - 1, by omega⟩
        obtain ⟨ad2, ⟨ynm, yst, ⟨yc, yh, ylo, ym, yx⟩⟩, hae, hy, e0, e1, e2, e3, e4, e5, e6⟩ := HA.out.rec_ (k := j) (by omega)
        injection hae with hae
        subst hae
        simp only at e0 e1 e2 e3 e4 e5 e6
        have HL := Lib.hid (fun w' => less_any ⟨ynm, yst, ⟨yc, yh, ylo, ym, yx⟩⟩ ⟨xnm, xst, ⟨xc, xh, xlo, xm, xx⟩⟩ w')
        unfold RecV.val at HL
        simp only at HL
        have hst := stepB_succ HX.out hy HOK.out
        obtain ⟨V, hV⟩ : ∃ V, lessB ⟨ynm, yst, ⟨yc, yh, ylo, ym, yx⟩⟩ ⟨xnm, xst, ⟨xc, xh, xlo, xm, xx⟩⟩ = V := ⟨_, rfl⟩
        rw [hV] at HL hst
        have HST := Lib.hid hst
        have HC2 : Hid (∀ W, Fr (fun _ => False) W1 W → (W.cell? (ad.add (j * 7)) = some (.string ynm) ∧ W.cell? ⟨(ad.add (j * 7)).block, (ad.add (j * 7)).off + 1, none⟩ = some (.int .i64 yst) ∧ W.cell? ⟨(ad.add (j * 7)).block, (ad.add (j * 7)).off + 2, none⟩ = some (.int .i64 yc) ∧ W.cell? ⟨(ad.add (j * 7)).block, (ad.add (j * 7)).off + 3, none⟩ = some (.int .i64 yh) ∧ W.cell? ⟨(ad.add (j * 7)).block, (ad.add (j * 7)).off + 4, none⟩ = some (.int .u64 ylo) ∧ W.cell? ⟨(ad.add (j * 7)).block, (ad.add (j * 7)).off + 5, none⟩ = some (.int .i64 ym) ∧ W.cell? ⟨(ad.add (j * 7)).block, (ad.add (j * 7)).off + 6, none⟩ = some (.int .i64 yx))) := fun W f => by
          have ff := F1.out.trans f (fun _ h => h.elim)
          exact ⟨ff.cell e0 (fun h => h), ff.cell e1 (fun h => h), ff.cell e2 (fun h => h), ff.cell e3 (fun h => h), ff.cell e4 (fun h => h), ff.cell e5 (fun h => h), ff.cell e6 (fun h => h)⟩
        have H2 : Hid (∀ W, Fr (fun _ => False) W1 W → Calls Tryz.prog 101 #[.agg #[.string ynm, .int .i64 yst, .int .i64 yc, .int .i64 yh, .int .u64 ylo, .int .i64 ym, .int .i64 yx], .agg #[.string xnm, .int .i64 xst, .int .i64 xc, .int .i64 xh, .int .u64 xlo, .int .i64 xm, .int .i64 xx]] W fun r w'' => r = .returned (.bool V) ∧ Fr (fun _ => False) W1 w'') := fun W hf => by
          refine (HL.out W).mono ?_
          rintro r w'' ⟨e, b⟩
          exact ⟨e, hf.trans (Fr.b0 b) (fun _ h => h.elim)⟩
        clear e0 e1 e2 e3 e4 e5 e6 hst hV hy
        have hj1 : ((((j + 1 : Nat) : Int)) - 1) = (j : Int) := by omega
        have hj1b : ((j : Int) + 1 - 1) = (j : Int) := by omega
        have hj7 : ((j : Int) * 7).toNat = j * 7 := by omega
        have hjp : (0 : Int) < (j : Int) + 1 := by omega
        have hjw : IntKind.i64.wrap (j : Int) = (j : Int) := IntWalk.i64_in _ (by omega)
        have hjr : (0 : Int) ≤ (j : Int) ∧ (j : Int) < (n : Int) := ⟨by omega, by omega⟩
        obtain ⟨e0, e1, e2, e3, e4, e5, e6⟩ := HC2.out W1.drew F2
        cases V
        · have HF : Hid (segOk l = false) := segOk_false (by rw [Hlen.out]; exact hlt) HST.out
          refine wp_region_any (by kernel_rfl) ?_
          change wpAny _ _ _ _ _ _ _ (World.drew _)
          refine wpAny_ready (rs := [0]) (by kernel_rfl) (by simp) ?_
          refine AllReady.cons (o := { dst := some 29, op := Op.load 63 (Operand.tmp 11), type := 63, pos := "seg.go:70", after := #[], guard := none }) rfl (fun K hK => ?_) AllReady.nil
          go_simp
          refine hK _ _ ?_
          clear hK K
          try simp only [Act.put, List.setIfInBounds_toArray, List.set_cons_zero, List.set_cons_succ]
          refine wpAny_ready (rs := [1]) (by kernel_rfl) (by simp) ?_
          refine AllReady.cons (o := { dst := some 30, op := Op.call { callee := Callee.value (Operand.func 29), args := #[Operand.tmp 29], argTypes := #[63] }, type := 4, pos := "seg.go:70", after := #[{ on := 0, ground := Ground.data }], guard := none }) rfl (fun K hK => ?_) AllReady.nil
          go_simp
          go_wp2_with (first | (go_at_call 29; refine (H1.out _ (by assumption)).mono ?_; rintro r w5 ⟨rfl, f5⟩; obtain ⟨y0, y1, y2, y3, y4, y5, y6⟩ := HC1.out w5 f5; obtain ⟨z0, z1, z2, z3, z4, z5, z6⟩ := HC2.out w5 f5))
          refine wpAny_take (i := 2) (oi := { dst := some 31, op := Op.unOp UnOp.not 4 (Operand.tmp 30), type := 4, pos := "seg.go:70", after := #[{ on := 1, ground := Ground.data }], guard := none }) (v := ?vq11) rfl (by kernel_rfl) (by kernel_rfl) (by kernel_rfl) (fun _ _ _ h => h) (Or.inl ⟨by rfl, ?hq11⟩) ?rq11
          case hq11 => intro W; go_simp; (try with_reducible rfl)
          try simp only [Act.put, List.setIfInBounds_toArray, List.set_cons_zero, List.set_cons_succ]
          refine wpAny_take (i := 3) (oi := { dst := some 32, op := Op.move (Operand.tmp 31), type := 4, pos := "seg.go:70", after := #[{ on := 2, ground := Ground.data }, { on := 1, ground := Ground.chain }], guard := none }) (v := ?vq12) rfl (by kernel_rfl) (by kernel_rfl) (by kernel_rfl) (fun _ _ _ h => h) (Or.inl ⟨by rfl, ?hq12⟩) ?rq12
          case hq12 => intro W; go_simp; (try with_reducible rfl)
          try simp only [Act.put, List.setIfInBounds_toArray, List.set_cons_zero, List.set_cons_succ]
          refine wpAny_take (i := 4) (oi := { dst := some 33, op := Op.move (Operand.tmp 10), type := 3, pos := "seg.go:70", after := #[{ on := 3, ground := Ground.guard }], guard := some (3, false) }) (v := ?vq13) rfl (by kernel_rfl) (by kernel_rfl) (by kernel_rfl) (fun _ _ _ h => h) (Or.inl ⟨by rfl, ?hq13⟩) ?rq13
          case hq13 => intro W; go_simp; (try with_reducible rfl)
          try simp only [Act.put, List.setIfInBounds_toArray, List.set_cons_zero, List.set_cons_succ]
          refine wpAny_take (i := 5) (oi := { dst := some 34, op := Op.binOp BinOp.gtr 3 (Operand.tmp 33) (Operand.const (Value.int IntKind.i64 0)) 3, type := 4, pos := "seg.go:70", after := #[{ on := 4, ground := Ground.data }, { on := 3, ground := Ground.guard }], guard := some (3, false) }) (v := ?vq14) rfl (by kernel_rfl) (by kernel_rfl) (by kernel_rfl) (fun _ _ _ h => h) (Or.inl ⟨by rfl, ?hq14⟩) ?rq14
          case hq14 => intro W; go_simp; (try with_reducible rfl)
          try simp only [Act.put, List.setIfInBounds_toArray, List.set_cons_zero, List.set_cons_succ]
          refine wpAny_take (i := 6) (oi := { dst := some 35, op := Op.move (Operand.tmp 34), type := 4, pos := "seg.go:70", after := #[{ on := 5, ground := Ground.data }, { on := 3, ground := Ground.chain }, { on := 3, ground := Ground.guard }], guard := some (3, false) }) (v := ?vq15) rfl (by kernel_rfl) (by kernel_rfl) (by kernel_rfl) (fun _ _ _ h => h) (Or.inl ⟨by rfl, ?hq15⟩) ?rq15
          case hq15 => intro W; go_simp; (try with_reducible rfl)
          try simp only [Act.put, List.setIfInBounds_toArray, List.set_cons_zero, List.set_cons_succ]
          refine wpAny_take (i := 7) (oi := { dst := some 36, op := Op.move (Operand.tmp 3), type := 49, pos := "seg.go:70", after := #[{ on := 6, ground := Ground.guard }], guard := some (6, true) }) (v := ?vq16) rfl (by kernel_rfl) (by kernel_rfl) (by kernel_rfl) (fun _ _ _ h => h) (Or.inl ⟨by rfl, ?hq16⟩) ?rq16
          case hq16 => intro W; go_simp; (try with_reducible rfl)
          try simp only [Act.put, List.setIfInBounds_toArray, List.set_cons_zero, List.set_cons_succ]
          refine wpAny_take (i := 8) (oi := { dst := some 37, op := Op.move (Operand.tmp 10), type := 3, pos := "seg.go:70", after := #[{ on := 6, ground := Ground.guard }], guard := some (6, true) }) (v := ?vq17) rfl (by kernel_rfl) (by kernel_rfl) (by kernel_rfl) (fun _ _ _ h => h) (Or.inl ⟨by rfl, ?hq17⟩) ?rq17
          case hq17 => intro W; go_simp; (try with_reducible rfl)
          try simp only [Act.put, List.setIfInBounds_toArray, List.set_cons_zero, List.set_cons_succ]
          refine wpAny_take (i := 9) (oi := { dst := some 38, op := Op.binOp BinOp.sub 3 (Operand.tmp 37) (Operand.const (Value.int IntKind.i64 1)) 3, type := 3, pos := "seg.go:70", after := #[{ on := 8, ground := Ground.data }, { on := 6, ground := Ground.guard }], guard := some (6, true) }) (v := ?vq18) rfl (by kernel_rfl) (by kernel_rfl) (by kernel_rfl) (fun _ _ _ h => h) (Or.inl ⟨by rfl, ?hq18⟩) ?rq18
          case hq18 => intro W; go_simp; (try with_reducible rfl)
          try simp only [Act.put, List.setIfInBounds_toArray, List.set_cons_zero, List.set_cons_succ]
          refine wpAny_take (i := 10) (oi := { dst := some 39, op := Op.indexAddr 49 (Operand.tmp 36) (Operand.tmp 38), type := 0, pos := "seg.go:70", after := #[{ on := 7, ground := Ground.data }, { on := 9, ground := Ground.data }, { on := 6, ground := Ground.guard }], guard := some (6, true) }) (v := ?vq19) rfl (by kernel_rfl) (by kernel_rfl) (by kernel_rfl) (fun _ _ _ h => h) (Or.inl ⟨by rfl, ?hq19⟩) ?rq19
          case hq19 => intro W; go_simp; (try with_reducible rfl)
          try simp only [Act.put, List.setIfInBounds_toArray, List.set_cons_zero, List.set_cons_succ]
          refine wpAny_ready (rs := [11, 12]) (by kernel_rfl) (by simp) ?_
          refine AllReady.cons (o := { dst := some 40, op := Op.load 63 (Operand.tmp 39), type := 63, pos := "seg.go:70", after := #[{ on := 10, ground := Ground.data }, { on := 6, ground := Ground.guard }], guard := some (6, true) }) rfl (fun K hK => ?_) ?_
          · go_simp
            refine hK _ _ ?_
            clear hK K
            try simp only [Act.put, List.setIfInBounds_toArray, List.set_cons_zero, List.set_cons_succ]
            refine wpAny_ready (rs := [12]) (by kernel_rfl) (by simp) ?_
            refine AllReady.cons (o := { dst := some 41, op := Op.load 63 (Operand.tmp 11), type := 63, pos := "seg.go:70", after := #[{ on := 6, ground := Ground.guard }], guard := some (6, true) }) rfl (fun K hK => ?_) AllReady.nil
            go_simp
            refine hK _ _ ?_
            clear hK K
            try simp only [Act.put, List.setIfInBounds_toArray, List.set_cons_zero, List.set_cons_succ]
            refine wpAny_ready (rs := [13]) (by kernel_rfl) (by simp) ?_
            refine AllReady.cons (o := { dst := some 42, op := Op.call { callee := Callee.value (Operand.func 101), args := #[Operand.tmp 40, Operand.tmp 41], argTypes := #[63, 63] }, type := 4, pos := "seg.go:70", after := #[{ on := 11, ground := Ground.data }, { on := 12, ground := Ground.data }, { on := 6, ground := Ground.chain }, { on := 6, ground := Ground.guard }], guard := some (6, true) }) rfl (fun K hK => ?_) AllReady.nil
            go_simp
            go_wp2_with (first | (go_at_call 101; refine (H2.out _ (by assumption)).mono ?_; rintro r w6 ⟨rfl, f6⟩))
            refine wpAny_take (i := 14) (oi := { dst := some 43, op := Op.unOp UnOp.not 4 (Operand.tmp 42), type := 4, pos := "seg.go:70", after := #[{ on := 13, ground := Ground.data }, { on := 6, ground := Ground.guard }], guard := some (6, true) }) (v := ?vq20) rfl (by kernel_rfl) (by kernel_rfl) (by kernel_rfl) (fun _ _ _ h => h) (Or.inl ⟨by rfl, ?hq20⟩) ?rq20
            case hq20 => intro W; go_simp; (try with_reducible rfl)
            try simp only [Act.put, List.setIfInBounds_toArray, List.set_cons_zero, List.set_cons_succ]
            refine wpAny_take (i := 15) (oi := { dst := some 44, op := Op.pick (Operand.tmp 35) (Operand.tmp 43) (Operand.const (Value.bool false)), type := 4, pos := "seg.go:70", after := #[{ on := 6, ground := Ground.data }, { on := 14, ground := Ground.data }, { on := 3, ground := Ground.guard }], guard := some (3, false) }) (v := ?vq21) rfl (by kernel_rfl) (by kernel_rfl) (by kernel_rfl) (fun _ _ _ h => h) (Or.inl ⟨by rfl, ?hq21⟩) ?rq21
            case hq21 => intro W; go_simp; (try with_reducible rfl)
            try simp only [Act.put, List.setIfInBounds_toArray, List.set_cons_zero, List.set_cons_succ]
            refine wpAny_take (i := 16) (oi := { dst := some 45, op := Op.pick (Operand.tmp 32) (Operand.const (Value.bool true)) (Operand.tmp 44), type := 4, pos := "seg.go:70", after := #[{ on := 3, ground := Ground.data }, { on := 15, ground := Ground.data }], guard := none }) (v := ?vq22) rfl (by kernel_rfl) (by kernel_rfl) (by kernel_rfl) (fun _ _ _ h => h) (Or.inl ⟨by rfl, ?hq22⟩) ?rq22
            case hq22 => intro W; go_simp; (try with_reducible rfl)
            try simp only [Act.put, List.setIfInBounds_toArray, List.set_cons_zero, List.set_cons_succ]
            refine wpAny_done (by kernel_rfl) ?_ _
            have HW5 := Lib.hid (HBe.out w6 f6)
            clear x0 x1 x2 x3 x4 x5 x6 y0 y1 y2 y3 y4 y5 y6 z0 z1 z2 z3 z4 z5 z6 e0 e1 e2 e3 e4 e5 e6
            go_wp2_with fail
            go_ret2
            exact ⟨fun h => (by rw [HF.out] at h; cases h), fun _ => rfl, HW5.out⟩
          refine AllReady.cons (o := { dst := some 41, op := Op.load 63 (Operand.tmp 11), type := 63, pos := "seg.go:70", after := #[{ on := 6, ground := Ground.guard }], guard := some (6, true) }) rfl (fun K hK => ?_) ?_
          · go_simp
            refine hK _ _ ?_
            clear hK K
            try simp only [Act.put, List.setIfInBounds_toArray, List.set_cons_zero, List.set_cons_succ]
            refine wpAny_ready (rs := [11]) (by kernel_rfl) (by simp) ?_
            refine AllReady.cons (o := { dst := some 40, op := Op.load 63 (Operand.tmp 39), type := 63, pos := "seg.go:70", after := #[{ on := 10, ground := Ground.data }, { on := 6, ground := Ground.guard }], guard := some (6, true) }) rfl (fun K hK => ?_) AllReady.nil
            go_simp
            refine hK _ _ ?_
            clear hK K
            try simp only [Act.put, List.setIfInBounds_toArray, List.set_cons_zero, List.set_cons_succ]
            refine wpAny_ready (rs := [13]) (by kernel_rfl) (by simp) ?_
            refine AllReady.cons (o := { dst := some 42, op := Op.call { callee := Callee.value (Operand.func 101), args := #[Operand.tmp 40, Operand.tmp 41], argTypes := #[63, 63] }, type := 4, pos := "seg.go:70", after := #[{ on := 11, ground := Ground.data }, { on := 12, ground := Ground.data }, { on := 6, ground := Ground.chain }, { on := 6, ground := Ground.guard }], guard := some (6, true) }) rfl (fun K hK => ?_) AllReady.nil
            go_simp
            go_wp2_with (first | (go_at_call 101; refine (H2.out _ (by assumption)).mono ?_; rintro r w6 ⟨rfl, f6⟩))
            refine wpAny_take (i := 14) (oi := { dst := some 43, op := Op.unOp UnOp.not 4 (Operand.tmp 42), type := 4, pos := "seg.go:70", after := #[{ on := 13, ground := Ground.data }, { on := 6, ground := Ground.guard }], guard := some (6, true) }) (v := ?vq23) rfl (by kernel_rfl) (by kernel_rfl) (by kernel_rfl) (fun _ _ _ h => h) (Or.inl ⟨by rfl, ?hq23⟩) ?rq23
            case hq23 => intro W; go_simp; (try with_reducible rfl)
            try simp only [Act.put, List.setIfInBounds_toArray, List.set_cons_zero, List.set_cons_succ]
            refine wpAny_take (i := 15) (oi := { dst := some 44, op := Op.pick (Operand.tmp 35) (Operand.tmp 43) (Operand.const (Value.bool false)), type := 4, pos := "seg.go:70", after := #[{ on := 6, ground := Ground.data }, { on := 14, ground := Ground.data }, { on := 3, ground := Ground.guard }], guard := some (3, false) }) (v := ?vq24) rfl (by kernel_rfl) (by kernel_rfl) (by kernel_rfl) (fun _ _ _ h => h) (Or.inl ⟨by rfl, ?hq24⟩) ?rq24
            case hq24 => intro W; go_simp; (try with_reducible rfl)
            try simp only [Act.put, List.setIfInBounds_toArray, List.set_cons_zero, List.set_cons_succ]
            refine wpAny_take (i := 16) (oi := { dst := some 45, op := Op.pick (Operand.tmp 32) (Operand.const (Value.bool true)) (Operand.tmp 44), type := 4, pos := "seg.go:70", after := #[{ on := 3, ground := Ground.data }, { on := 15, ground := Ground.data }], guard := none }) (v := ?vq25) rfl (by kernel_rfl) (by kernel_rfl) (by kernel_rfl) (fun _ _ _ h => h) (Or.inl ⟨by rfl, ?hq25⟩) ?rq25
            case hq25 => intro W; go_simp; (try with_reducible rfl)
            try simp only [Act.put, List.setIfInBounds_toArray, List.set_cons_zero, List.set_cons_succ]
            refine wpAny_done (by kernel_rfl) ?_ _
            have HW5 := Lib.hid (HBe.out w6 f6)
            clear x0 x1 x2 x3 x4 x5 x6 y0 y1 y2 y3 y4 y5 y6 z0 z1 z2 z3 z4 z5 z6 e0 e1 e2 e3 e4 e5 e6
            go_wp2_with fail
            go_ret2
            exact ⟨fun h => (by rw [HF.out] at h; cases h), fun _ => rfl, HW5.out⟩
          exact AllReady.nil
        · have hall1 : Hid (∀ i, i < j + 1 + 1 → stepB l i = true) := fun i hi => by
            rcases Nat.lt_or_ge i (j + 1) with h1 | h1
            · exact hall.out i h1
            · obtain rfl : i = j + 1 := by omega
              exact HST.out
          refine wp_region_any (by kernel_rfl) ?_
          change wpAny _ _ _ _ _ _ _ (World.drew _)
          refine wpAny_ready (rs := [0]) (by kernel_rfl) (by simp) ?_
          refine AllReady.cons (o := { dst := some 29, op := Op.load 63 (Operand.tmp 11), type := 63, pos := "seg.go:70", after := #[], guard := none }) rfl (fun K hK => ?_) AllReady.nil
          go_simp
          refine hK _ _ ?_
          clear hK K
          try simp only [Act.put, List.setIfInBounds_toArray, List.set_cons_zero, List.set_cons_succ]
          refine wpAny_ready (rs := [1]) (by kernel_rfl) (by simp) ?_
          refine AllReady.cons (o := { dst := some 30, op := Op.call { callee := Callee.value (Operand.func 29), args := #[Operand.tmp 29], argTypes := #[63] }, type := 4, pos := "seg.go:70", after := #[{ on := 0, ground := Ground.data }], guard := none }) rfl (fun K hK => ?_) AllReady.nil
          go_simp
          go_wp2_with (first | (go_at_call 29; refine (H1.out _ (by assumption)).mono ?_; rintro r w5 ⟨rfl, f5⟩; obtain ⟨y0, y1, y2, y3, y4, y5, y6⟩ := HC1.out w5 f5; obtain ⟨z0, z1, z2, z3, z4, z5, z6⟩ := HC2.out w5 f5))
          refine wpAny_take (i := 2) (oi := { dst := some 31, op := Op.unOp UnOp.not 4 (Operand.tmp 30), type := 4, pos := "seg.go:70", after := #[{ on := 1, ground := Ground.data }], guard := none }) (v := ?vq26) rfl (by kernel_rfl) (by kernel_rfl) (by kernel_rfl) (fun _ _ _ h => h) (Or.inl ⟨by rfl, ?hq26⟩) ?rq26
          case hq26 => intro W; go_simp; (try with_reducible rfl)
          try simp only [Act.put, List.setIfInBounds_toArray, List.set_cons_zero, List.set_cons_succ]
          refine wpAny_take (i := 3) (oi := { dst := some 32, op := Op.move (Operand.tmp 31), type := 4, pos := "seg.go:70", after := #[{ on := 2, ground := Ground.data }, { on := 1, ground := Ground.chain }], guard := none }) (v := ?vq27) rfl (by kernel_rfl) (by kernel_rfl) (by kernel_rfl) (fun _ _ _ h => h) (Or.inl ⟨by rfl, ?hq27⟩) ?rq27
          case hq27 => intro W; go_simp; (try with_reducible rfl)
          try simp only [Act.put, List.setIfInBounds_toArray, List.set_cons_zero, List.set_cons_succ]
          refine wpAny_take (i := 4) (oi := { dst := some 33, op := Op.move (Operand.tmp 10), type := 3, pos := "seg.go:70", after := #[{ on := 3, ground := Ground.guard }], guard := some (3, false) }) (v := ?vq28) rfl (by kernel_rfl) (by kernel_rfl) (by kernel_rfl) (fun _ _ _ h => h) (Or.inl ⟨by rfl, ?hq28⟩) ?rq28
          case hq28 => intro W; go_simp; (try with_reducible rfl)
          try simp only [Act.put, List.setIfInBounds_toArray, List.set_cons_zero, List.set_cons_succ]
          refine wpAny_take (i := 5) (oi := { dst := some 34, op := Op.binOp BinOp.gtr 3 (Operand.tmp 33) (Operand.const (Value.int IntKind.i64 0)) 3, type := 4, pos := "seg.go:70", after := #[{ on := 4, ground := Ground.data }, { on := 3, ground := Ground.guard }], guard := some (3, false) }) (v := ?vq29) rfl (by kernel_rfl) (by kernel_rfl) (by kernel_rfl) (fun _ _ _ h => h) (Or.inl ⟨by rfl, ?hq29⟩) ?rq29
          case hq29 => intro W; go_simp; (try with_reducible rfl)
          try simp only [Act.put, List.setIfInBounds_toArray, List.set_cons_zero, List.set_cons_succ]
          refine wpAny_take (i := 6) (oi := { dst := some 35, op := Op.move (Operand.tmp 34), type := 4, pos := "seg.go:70", after := #[{ on := 5, ground := Ground.data }, { on := 3, ground := Ground.chain }, { on := 3, ground := Ground.guard }], guard := some (3, false) }) (v := ?vq30) rfl (by kernel_rfl) (by kernel_rfl) (by kernel_rfl) (fun _ _ _ h => h) (Or.inl ⟨by rfl, ?hq30⟩) ?rq30
          case hq30 => intro W; go_simp; (try with_reducible rfl)
          try simp only [Act.put, List.setIfInBounds_toArray, List.set_cons_zero, List.set_cons_succ]
          refine wpAny_take (i := 7) (oi := { dst := some 36, op := Op.move (Operand.tmp 3), type := 49, pos := "seg.go:70", after := #[{ on := 6, ground := Ground.guard }], guard := some (6, true) }) (v := ?vq31) rfl (by kernel_rfl) (by kernel_rfl) (by kernel_rfl) (fun _ _ _ h => h) (Or.inl ⟨by rfl, ?hq31⟩) ?rq31
          case hq31 => intro W; go_simp; (try with_reducible rfl)
          try simp only [Act.put, List.setIfInBounds_toArray, List.set_cons_zero, List.set_cons_succ]
          refine wpAny_take (i := 8) (oi := { dst := some 37, op := Op.move (Operand.tmp 10), type := 3, pos := "seg.go:70", after := #[{ on := 6, ground := Ground.guard }], guard := some (6, true) }) (v := ?vq32) rfl (by kernel_rfl) (by kernel_rfl) (by kernel_rfl) (fun _ _ _ h => h) (Or.inl ⟨by rfl, ?hq32⟩) ?rq32
          case hq32 => intro W; go_simp; (try with_reducible rfl)
          try simp only [Act.put, List.setIfInBounds_toArray, List.set_cons_zero, List.set_cons_succ]
          refine wpAny_take (i := 9) (oi := { dst := some 38, op := Op.binOp BinOp.sub 3 (Operand.tmp 37) (Operand.const (Value.int IntKind.i64 1)) 3, type := 3, pos := "seg.go:70", after := #[{ on := 8, ground := Ground.data }, { on := 6, ground := Ground.guard }], guard := some (6, true) }) (v := ?vq33) rfl (by kernel_rfl) (by kernel_rfl) (by kernel_rfl) (fun _ _ _ h => h) (Or.inl ⟨by rfl, ?hq33⟩) ?rq33
          case hq33 => intro W; go_simp; (try with_reducible rfl)
          try simp only [Act.put, List.setIfInBounds_toArray, List.set_cons_zero, List.set_cons_succ]
          refine wpAny_take (i := 10) (oi := { dst := some 39, op := Op.indexAddr 49 (Operand.tmp 36) (Operand.tmp 38), type := 0, pos := "seg.go:70", after := #[{ on := 7, ground := Ground.data }, { on := 9, ground := Ground.data }, { on := 6, ground := Ground.guard }], guard := some (6, true) }) (v := ?vq34) rfl (by kernel_rfl) (by kernel_rfl) (by kernel_rfl) (fun _ _ _ h => h) (Or.inl ⟨by rfl, ?hq34⟩) ?rq34
          case hq34 => intro W; go_simp; (try with_reducible rfl)
          try simp only [Act.put, List.setIfInBounds_toArray, List.set_cons_zero, List.set_cons_succ]
          refine wpAny_ready (rs := [11, 12]) (by kernel_rfl) (by simp) ?_
          refine AllReady.cons (o := { dst := some 40, op := Op.load 63 (Operand.tmp 39), type := 63, pos := "seg.go:70", after := #[{ on := 10, ground := Ground.data }, { on := 6, ground := Ground.guard }], guard := some (6, true) }) rfl (fun K hK => ?_) ?_
          · go_simp
            refine hK _ _ ?_
            clear hK K
            try simp only [Act.put, List.setIfInBounds_toArray, List.set_cons_zero, List.set_cons_succ]
            refine wpAny_ready (rs := [12]) (by kernel_rfl) (by simp) ?_
            refine AllReady.cons (o := { dst := some 41, op := Op.load 63 (Operand.tmp 11), type := 63, pos := "seg.go:70", after := #[{ on := 6, ground := Ground.guard }], guard := some (6, true) }) rfl (fun K hK => ?_) AllReady.nil
            go_simp
            refine hK _ _ ?_
            clear hK K
            try simp only [Act.put, List.setIfInBounds_toArray, List.set_cons_zero, List.set_cons_succ]
            refine wpAny_ready (rs := [13]) (by kernel_rfl) (by simp) ?_
            refine AllReady.cons (o := { dst := some 42, op := Op.call { callee := Callee.value (Operand.func 101), args := #[Operand.tmp 40, Operand.tmp 41], argTypes := #[63, 63] }, type := 4, pos := "seg.go:70", after := #[{ on := 11, ground := Ground.data }, { on := 12, ground := Ground.data }, { on := 6, ground := Ground.chain }, { on := 6, ground := Ground.guard }], guard := some (6, true) }) rfl (fun K hK => ?_) AllReady.nil
            go_simp
            go_wp2_with (first | (go_at_call 101; refine (H2.out _ (by assumption)).mono ?_; rintro r w6 ⟨rfl, f6⟩))
            refine wpAny_take (i := 14) (oi := { dst := some 43, op := Op.unOp UnOp.not 4 (Operand.tmp 42), type := 4, pos := "seg.go:70", after := #[{ on := 13, ground := Ground.data }, { on := 6, ground := Ground.guard }], guard := some (6, true) }) (v := ?vq35) rfl (by kernel_rfl) (by kernel_rfl) (by kernel_rfl) (fun _ _ _ h => h) (Or.inl ⟨by rfl, ?hq35⟩) ?rq35
            case hq35 => intro W; go_simp; (try with_reducible rfl)
            try simp only [Act.put, List.setIfInBounds_toArray, List.set_cons_zero, List.set_cons_succ]
            refine wpAny_take (i := 15) (oi := { dst := some 44, op := Op.pick (Operand.tmp 35) (Operand.tmp 43) (Operand.const (Value.bool false)), type := 4, pos := "seg.go:70", after := #[{ on := 6, ground := Ground.data }, { on := 14, ground := Ground.data }, { on := 3, ground := Ground.guard }], guard := some (3, false) }) (v := ?vq36) rfl (by kernel_rfl) (by kernel_rfl) (by kernel_rfl) (fun _ _ _ h => h) (Or.inl ⟨by rfl, ?hq36⟩) ?rq36
            case hq36 => intro W; go_simp; (try with_reducible rfl)
            try simp only [Act.put, List.setIfInBounds_toArray, List.set_cons_zero, List.set_cons_succ]
            refine wpAny_take (i := 16) (oi := { dst := some 45, op := Op.pick (Operand.tmp 32) (Operand.const (Value.bool true)) (Operand.tmp 44), type := 4, pos := "seg.go:70", after := #[{ on := 3, ground := Ground.data }, { on := 15, ground := Ground.data }], guard := none }) (v := ?vq37) rfl (by kernel_rfl) (by kernel_rfl) (by kernel_rfl) (fun _ _ _ h => h) (Or.inl ⟨by rfl, ?hq37⟩) ?rq37
            case hq37 => intro W; go_simp; (try with_reducible rfl)
            try simp only [Act.put, List.setIfInBounds_toArray, List.set_cons_zero, List.set_cons_succ]
            refine wpAny_done (by kernel_rfl) ?_ _
            have HW5 := Lib.hid (HBe.out w6 f6)
            clear x0 x1 x2 x3 x4 x5 x6 y0 y1 y2 y3 y4 y5 y6 z0 z1 z2 z3 z4 z5 z6 e0 e1 e2 e3 e4 e5 e6
            go_wp2
            go_roundw
            case rel => exact ⟨j + 1 + 1, by omega, by go_num, hall1.out, HW5.out⟩
            case measure => simp [intOf]; omega
          refine AllReady.cons (o := { dst := some 41, op := Op.load 63 (Operand.tmp 11), type := 63, pos := "seg.go:70", after := #[{ on := 6, ground := Ground.guard }], guard := some (6, true) }) rfl (fun K hK => ?_) ?_
          · go_simp
            refine hK _ _ ?_
            clear hK K
            try simp only [Act.put, List.setIfInBounds_toArray, List.set_cons_zero, List.set_cons_succ]
            refine wpAny_ready (rs := [11]) (by kernel_rfl) (by simp) ?_
            refine AllReady.cons (o := { dst := some 40, op := Op.load 63 (Operand.tmp 39), type := 63, pos := "seg.go:70", after := #[{ on := 10, ground := Ground.data }, { on := 6, ground := Ground.guard }], guard := some (6, true) }) rfl (fun K hK => ?_) AllReady.nil
            go_simp
            refine hK _ _ ?_
            clear hK K
            try simp only [Act.put, List.setIfInBounds_toArray, List.set_cons_zero, List.set_cons_succ]
            refine wpAny_ready (rs := [13]) (by kernel_rfl) (by simp) ?_
            refine AllReady.cons (o := { dst := some 42, op := Op.call { callee := Callee.value (Operand.func 101), args := #[Operand.tmp 40, Operand.tmp 41], argTypes := #[63, 63] }, type := 4, pos := "seg.go:70", after := #[{ on := 11, ground := Ground.data }, { on := 12, ground := Ground.data }, { on := 6, ground := Ground.chain }, { on := 6, ground := Ground.guard }], guard := some (6, true) }) rfl (fun K hK => ?_) AllReady.nil
            go_simp
            go_wp2_with (first | (go_at_call 101; refine (H2.out _ (by assumption)).mono ?_; rintro r w6 ⟨rfl, f6⟩))
            refine wpAny_take (i := 14) (oi := { dst := some 43, op := Op.unOp UnOp.not 4 (Operand.tmp 42), type := 4, pos := "seg.go:70", after := #[{ on := 13, ground := Ground.data }, { on := 6, ground := Ground.guard }], guard := some (6, true) }) (v := ?vq38) rfl (by kernel_rfl) (by kernel_rfl) (by kernel_rfl) (fun _ _ _ h => h) (Or.inl ⟨by rfl, ?hq38⟩) ?rq38
            case hq38 => intro W; go_simp; (try with_reducible rfl)
            try simp only [Act.put, List.setIfInBounds_toArray, List.set_cons_zero, List.set_cons_succ]
            refine wpAny_take (i := 15) (oi := { dst := some 44, op := Op.pick (Operand.tmp 35) (Operand.tmp 43) (Operand.const (Value.bool false)), type := 4, pos := "seg.go:70", after := #[{ on := 6, ground := Ground.data }, { on := 14, ground := Ground.data }, { on := 3, ground := Ground.guard }], guard := some (3, false) }) (v := ?vq39) rfl (by kernel_rfl) (by kernel_rfl) (by kernel_rfl) (fun _ _ _ h => h) (Or.inl ⟨by rfl, ?hq39⟩) ?rq39
            case hq39 => intro W; go_simp; (try with_reducible rfl)
            try simp only [Act.put, List.setIfInBounds_toArray, List.set_cons_zero, List.set_cons_succ]
            refine wpAny_take (i := 16) (oi := { dst := some 45, op := Op.pick (Operand.tmp 32) (Operand.const (Value.bool true)) (Operand.tmp 44), type := 4, pos := "seg.go:70", after := #[{ on := 3, ground := Ground.data }, { on := 15, ground := Ground.data }], guard := none }) (v := ?vq40) rfl (by kernel_rfl) (by kernel_rfl) (by kernel_rfl) (fun _ _ _ h => h) (Or.inl ⟨by rfl, ?hq40⟩) ?rq40
            case hq40 => intro W; go_simp; (try with_reducible rfl)
            try simp only [Act.put, List.setIfInBounds_toArray, List.set_cons_zero, List.set_cons_succ]
            refine wpAny_done (by kernel_rfl) ?_ _
            have HW5 := Lib.hid (HBe.out w6 f6)
            clear x0 x1 x2 x3 x4 x5 x6 y0 y1 y2 y3 y4 y5 y6 z0 z1 z2 z3 z4 z5 z6 e0 e1 e2 e3 e4 e5 e6
            go_wp2
            go_roundw
            case rel => exact ⟨j + 1 + 1, by omega, by go_num, hall1.out, HW5.out⟩
            case measure => simp [intOf]; omega
          exact AllReady.nil
    · obtain rfl : k = n := by omega
      have HS : Hid (segOk l = true) := segOk_all (fun j hj => hall.out j (by rw [← Hlen.out]; exact hj))
      have hkk : ¬ (k : Int) > 12288 := by omega
      have hkk2 : decide ((12288 : Int) < (k : Int)) = false := decide_eq_false (by omega)
      go_wp2_with fail
      refine (HB.out _).mono ?_
      rintro r w2 ⟨rfl, rfl⟩
      have Hof : Hid (blocksV k = blocksV k) := rfl
      obtain ⟨of_, hof⟩ : ∃ of_, blocksV k = of_ := ⟨_, rfl⟩
      have HOF : Hid (blocksV l.length = of_) := by show _ = _; rw [Hlen.out, hof]
      have hofb : of_ ≤ 4096 := by rw [← hof]; unfold blocksV; omega
      have hofk : ∀ j, j < of_ → 3 * j < k := fun j hj => by rw [← hof] at hj; unfold blocksV at hj; omega
      have hofl : k ≤ 3 * of_ := by rw [← hof]; unfold blocksV; omega
      have HK := Lib.hid hofk
      have HOFk := Lib.hid hof
      have HKL := Lib.hid hofl
      rw [hof]
      clear Hof hof hofk hofl hkk hkk2
      go_wp2_with fail
      have hRA := Lib.hid (segOk_recs HS.out)
      go_loopw [12, 54] (fun o i wr => ∃ (j : Nat) (R : Option Addr) (cs : Nat), j ≤ of_ ∧ i = .int .i64 j ∧ o = .slice R j cs ∧ wr.ownsRow w.heap.size 9 1 (.slice R j cs) j ((strs (blocksL id ti sh l)).take j) ∧ Own w wr (rowF (.slice R j cs))) (fun _ i _ => of_ - (intOf i).toNat)
      case atStart => exact ⟨0, none, 0, Nat.zero_le _, rfl, rfl, World.ownsRow_nil _ _ _ _, ⟨Hb.out, fun k hk => by cases hk⟩⟩
      case round =>
        obtain ⟨j, R, cs, hj, rfl, rfl, hrow, ho⟩ := hrel
        have Hrow := Lib.hid hrow
        have Ho := Lib.hid ho
        clear hrow ho
        by_cases hlt : j < of_
        · have h3k := HK.out j hlt
          have h1 : (j : Int) < (of_ : Int) := by omega
          obtain ⟨m, hm, hmi, hm3, hmn⟩ : ∃ m : Nat, (partL l j).length = m ∧ (3 * j + m = 3 * (j + 1) ∧ 3 * (j + 1) ≤ k ∨ 3 * j + m = k ∧ k < 3 * (j + 1)) ∧ m ≤ 3 ∧ 3 * j + m ≤ k := by
            have := part_len (l := l) (k := j) (by rw [HOF.out]; exact hlt)
            rw [Hlen.out] at this
            refine ⟨_, rfl, ?_, part_le l j, ?_⟩ <;> omega
          have HM := Lib.hid hm
          have hmin : (min (((j : Int) + 1) * 3) (k : Int)).toNat - j * 3 = m := by
            have : min (((j : Int) + 1) * 3) (k : Int) = ((3 * j + m : Nat) : Int) := by omega
            rw [this, Int.toNat_natCast]; omega
          have hrd : Rd wr 7 (A.map fun x => x.add (j * 3 * 7)) m (rcells (partL l j)) := by
            have h0 := (Hr.out.below Ho.out.bel).cut (k := 3 * j) (cap := c) (by omega) hc
            rw [if_neg (by omega)] at h0
            have h1 := h0.take (k := m) (by omega)
            rw [rcells_part HM.out.symm (by rw [Hr.out.1, Hlen.out])] at h1
            rw [show j * 3 * 7 = 3 * j * 7 by omega]
            exact h1
          have hfit : HeadV.fit ⟨id, ti, sh, (j : Nat), (of_ : Nat), (m : Nat)⟩ := by
            have h1 := Hid_.out
            have h2 := hRt.out
            unfold HeadV.fit
            simp only
            omega
          have HP : Hid (∀ o, Calls Tryz.prog 102 #[.agg #[.int .u64 id, .int .i64 ti, .int .i64 sh, .int .i64 (j : Nat), .int .i64 (of_ : Nat), .int .i64 (m : Nat)], .slice (A.map fun x => x.add (j * 3 * 7)) m (c - j * 3)] (wr.alloc o) fun r w' => r = .returned (.string (bstr (blockB ⟨id, ti, sh, (j : Nat), (of_ : Nat), (m : Nat)⟩ (partL l j)))) ∧ Below (wr.alloc o).heap.size (wr.alloc o) w') := fun o =>
            blockput_any ⟨id, ti, sh, (j : Nat), (of_ : Nat), (m : Nat)⟩ hfit (partL l j) (fun r hr => Hl.out r (part_mem hr)) (part_all hRA.out) (part_le l j) _ _ _ _ (hrd.alloc o)
          have HS1 : Hid ((strs (blocksL id ti sh l)).take (j + 1) = (strs (blocksL id ti sh l)).take j ++ [.string (bstr (blockB ⟨id, ti, sh, (j : Nat), (of_ : Nat), (m : Nat)⟩ (partL l j)))]) := by
            refine take_snoc ?_
            unfold strs blocksL
            rw [List.getElem?_map, List.getElem?_map, List.getElem?_range (by rw [HOF.out]; exact hlt)]
            simp only [Option.map_some, HOF.out, HM.out]
          obtain ⟨BB, hBB⟩ : ∃ BB, bstr (blockB ⟨id, ti, sh, (j : Nat), (of_ : Nat), (m : Nat)⟩ (partL l j)) = BB := ⟨_, rfl⟩
          rw [hBB] at HP HS1
          clear hrd hfit hBB hm hmi
          go_wp2_with fail
          refine (HP.out _).mono ?_
          rintro r w2 ⟨rfl, b2⟩
          have O2 := Lib.hid ((Ho.out.skip (Fr.none_alloc _ _)).below b2)
          have R2 := Lib.hid (own_fr0 (own_fr0 Hrow.out (Fr.none_alloc _ _)) (Fr.b0 b2))
          have hw2 := Lib.hid O2.out.bel.size
          clear b2 HP Ho Hrow
          go_wp2_with (at_builtin; refine wpList_app2 rfl _ _ 70 rfl 9 i0 _ 1 16 Tryz.underlying70 hi hz0 hz1 hz2 rfl (by decide) (.slice R j cs) j _ rfl w.heap.size (by have := hw2.out; simp; omega) (own_fr0 R2.out (Fr.none_alloc _ _)) (some ⟨w2.heap.size, 0, none⟩) 1 1 [.string BB] rfl (Rd.newS (by simp) _ _ _ _ rfl) (by simp [Value.oneCell']) ?q1 ?q2 ?_)
          case q1 => unfold maxLen; omega
          case q2 => omega
          intro R8 c8 w8 ho8 hm8 _
          have Ho8 := Lib.hid ho8
          have Hm8 := Lib.hid hm8
          clear ho8 hm8
          go_wp2
          go_roundw
          case rel =>
            refine ⟨j + 1, R8, c8, by omega, by go_num, rfl, ?_, (O2.out.skip (Fr.none_alloc _ _)).mv Hm8.out⟩
            rw [HS1.out]
            exact Ho8.out
          case measure => simp [intOf]; omega
        · obtain rfl : j = of_ := by omega
          have hL : ((strs (blocksL id ti sh l)).take j) = strs (blocksL id ti sh l) := List.take_of_length_le (by rw [strs_len, blocksL_len, HOF.out]; exact Nat.le_refl _)
          have Hrow2 := Hrow.out
          rw [hL] at Hrow2
          have HR2 := Lib.hid Hrow2
          clear Hrow2 hL
          go_wp2_with fail
          go_ret2
          rw [HOFk.out]
          exact ⟨fun _ => ⟨R, cs, rfl, HR2.out⟩, fun h => (by rw [HS.out] at h; cases h), Ho.out.bel⟩
end Go.Proofs.YtkickdmiilmkoaaGreatDoor
