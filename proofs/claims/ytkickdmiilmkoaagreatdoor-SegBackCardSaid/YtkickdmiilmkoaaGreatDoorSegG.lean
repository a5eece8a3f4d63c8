/- Walk of seg.Get. -/
import Derived.Test.YtkickdmiilmkoaaGreatDoorSegF
import Derived.Test.YtkickdmiilmkoaaGreatDoorEq
namespace Go.Proofs.YtkickdmiilmkoaaGreatDoor
open Go.RowKit

/-- Are two heads the same? -/
def hdEq (x y : HeadV) : Bool := (x.id == y.id) && ((x.tier == y.tier) && ((x.shard == y.shard) && ((x.place == y.place) && (x.of == y.of))))
theorem eqhead_in (d : Nat) (x y : HeadV) (w : World) : (Op.equalIn (d + 2) 76 x.hval y.hval).run Tryz.prog w = .ok (hdEq x y) w := by
  have hu : Tryz.prog.underlying 76 = some (.struct (Tryz.prog.fieldsOf 76)) := by kernel_rfl
  have hp : Tryz.prog.stoodInHeld 76 = false := by kernel_rfl
  have hf : (Tryz.prog.fieldsOf 76).toList = [⟨"Id", 59, 0, false, "", "", 0⟩, ⟨"Tier", 3, 1, false, "", "", 8⟩, ⟨"Shard", 3, 2, false, "", "", 16⟩, ⟨"Place", 3, 3, false, "", "", 24⟩, ⟨"Of", 3, 4, false, "", "", 32⟩] := by kernel_rfl
  unfold HeadV.hval hdEq
  rw [run_equalIn_struct (P := Tryz.prog) w (d + 1) _ _ _ hu hp, hf]
  simp [Op.eqFields, part, eqs_int d, eqs_u64 d]
  by_cases h1 : x.id = y.id <;> by_cases h2 : x.tier = y.tier <;> by_cases h3 : x.shard = y.shard <;> by_cases h4 : x.place = y.place <;> by_cases h5 : x.of = y.of <;> simp [h1, h2, h3, h4, h5]
theorem run_neqhead (x y : HeadV) (w : World) : (binOp .neq 76 x.hval y.hval).run Tryz.prog w = .ok (.bool (!hdEq x y)) w := by
  have h := eqhead_in 9998 x y w
  unfold HeadV.hval at h ⊢
  rw [run_neq_struct, h]
  rfl
theorem run_eqhead (x y : HeadV) (w : World) : (binOp .eql 76 x.hval y.hval).run Tryz.prog w = .ok (.bool (hdEq x y)) w := by
  have h := eqhead_in 9998 x y w
  unfold HeadV.hval at h ⊢
  rw [run_eql_struct, h]
  rfl
theorem head_len (h : HeadV) : h.cells.length = 6 := rfl
theorem Rd.head_ {w : World} {n k : Nat} {A : Option Addr} {l : List HeadV} (h : Rd w 6 A n (l.flatMap HeadV.cells)) (hk : k < n) :
    ∃ ad r, A = some ad ∧ l[k]? = some r ∧ w.cell? (ad.add (k * 6)) = some (.int .u64 r.id) ∧ w.cell? ⟨(ad.add (k * 6)).block, (ad.add (k * 6)).off + 1, none⟩ = some (.int .i64 r.tier) ∧ w.cell? ⟨(ad.add (k * 6)).block, (ad.add (k * 6)).off + 2, none⟩ = some (.int .i64 r.shard) ∧ w.cell? ⟨(ad.add (k * 6)).block, (ad.add (k * 6)).off + 3, none⟩ = some (.int .i64 r.place) ∧ w.cell? ⟨(ad.add (k * 6)).block, (ad.add (k * 6)).off + 4, none⟩ = some (.int .i64 r.of) ∧ w.cell? ⟨(ad.add (k * 6)).block, (ad.add (k * 6)).off + 5, none⟩ = some (.int .i64 r.recs) := by
  obtain ⟨ad, r, e, hr, hc⟩ := Rd.elem head_len h hk (by decide)
  refine ⟨ad, r, e, hr, ?_, ?_, ?_, ?_, ?_, ?_⟩
  · have := hc 0 _ rfl; rwa [addr_zero] at this
  · have := hc 1 _ rfl; rwa [add_pos _ _ (by decide)] at this
  · have := hc 2 _ rfl; rwa [add_pos _ _ (by decide)] at this
  · have := hc 3 _ rfl; rwa [add_pos _ _ (by decide)] at this
  · have := hc 4 _ rfl; rwa [add_pos _ _ (by decide)] at this
  · have := hc 5 _ rfl; rwa [add_pos _ _ (by decide)] at this
theorem info_blk : (Tryz.prog.info? 136).map (fun i => (i.zero, i.size, i.bytes)) = some (some (.agg #[.int .u64 0, .int .i64 0, .int .i64 0, .int .i64 0, .int .i64 0, .int .i64 0]), 6, 48) := by kernel_rfl

/-- What a block tells: how many records, their bytes, they themselves. -/
def recN (b : List UInt8) : Nat := (hdRd b).recs.toNat
def bodyL (b : List UInt8) : List UInt8 := (b.take (48 + recN b * 64)).drop 48
def recsOf (b : List UInt8) : List RecV := recsRd (bodyL b) (recN b)
def okBlk (id ti sh : Int) (n k : Nat) (b : List UInt8) : Bool := hdEq (hdRd b) ⟨id, ti, sh, (k : Nat), (n : Nat), 0⟩ && recsOk (bodyL b) (recN b)
def okAt (id ti sh : Int) (bs : List (List UInt8)) (k : Nat) : Bool := match bs[k]? with
  | some b => okBlk id ti sh bs.length k b
  | none => true
def readsL (bs : List (List UInt8)) : Bool := bs.all fun b => decide (hdE b = 0)
def outL (bs : List (List UInt8)) : List RecV := bs.flatMap recsOf
def getsL (id ti sh : Int) (bs : List (List UInt8)) : Bool := readsL bs && ((List.range bs.length).all (okAt id ti sh bs) && ((rightB id ti sh && segOk (outL bs)) && decide (blocksL id ti sh (outL bs) = bs)))

theorem hdE_good {b : List UInt8} (h : hdE b = 0) : b.length = 256 ∧ goodB (hdRd b) = true ∧ headB (hdRd b) = b.take 48 := by
  unfold hdE at h
  split at h
  · rename_i hl
    cases hg : goodB (hdRd b) && decide (headB (hdRd b) = b.take 48)
    · rw [hg] at h; cases h
    · simp only [Bool.and_eq_true, decide_eq_true_eq] at hg
      exact ⟨hl, hg.1, hg.2⟩
  · cases h
theorem hdE_recs {b : List UInt8} (h : hdE b = 0) : 1 ≤ (hdRd b).recs ∧ (hdRd b).recs ≤ 3 := by
  have := (hdE_good h).2.1
  unfold goodB at this
  simp only [Bool.and_eq_true, decide_eq_true_eq] at this
  exact ⟨this.2.2.2.1, this.2.2.2.2⟩
theorem hdE_V {b : List UInt8} (h : hdE b = 0) : hdV b = hdRd b := by unfold hdV; rw [if_pos h]
theorem recN_of {b : List UInt8} (h : hdE b = 0) : ((recN b : Nat) : Int) = (hdRd b).recs ∧ 1 ≤ recN b ∧ recN b ≤ 3 := by
  have := hdE_recs h
  unfold recN
  omega
theorem bodyL_len {b : List UInt8} (h : hdE b = 0) : (bodyL b).length = 64 * recN b := by
  have h1 := (hdE_good h).1
  have h2 := recN_of h
  unfold bodyL
  rw [List.length_drop, List.length_take]; omega
theorem recsOf_len (b : List UInt8) : (recsOf b).length = recN b := by simp [recsOf, recsRd]
theorem recsOf_wf (b : List UInt8) : ∀ r ∈ recsOf b, r.wf := by
  intro r hr
  unfold recsOf recsRd at hr
  rw [List.mem_map] at hr
  obtain ⟨k, _, rfl⟩ := hr
  exact recRd_wf _
theorem outL_wf (bs : List (List UInt8)) : ∀ r ∈ outL bs, r.wf := by
  intro r hr
  unfold outL at hr
  rw [List.mem_flatMap] at hr
  obtain ⟨b, _, hr⟩ := hr
  exact recsOf_wf b r hr
theorem outL_snoc {bs : List (List UInt8)} {k : Nat} {b : List UInt8} (h : bs[k]? = some b) : outL (bs.take (k + 1)) = outL (bs.take k) ++ recsOf b := flat_snoc h
theorem okAt_some {id ti sh : Int} {bs : List (List UInt8)} {k : Nat} {b : List UInt8} (h : bs[k]? = some b) : okAt id ti sh bs k = okBlk id ti sh bs.length k b := by unfold okAt; rw [h]
theorem gets_bad {id ti sh : Int} {bs : List (List UInt8)} {k : Nat} (hk : k < bs.length) (h : okAt id ti sh bs k = false) : getsL id ti sh bs = false := by
  unfold getsL
  have : (List.range bs.length).all (okAt id ti sh bs) = false := by
    rw [List.all_eq_false]
    exact ⟨k, List.mem_range.2 hk, by simp [h]⟩
  rw [this, Bool.false_and, Bool.and_false]
theorem reads_bad {bs : List (List UInt8)} {k : Nat} {b : List UInt8} (h : bs[k]? = some b) (hb : hdE b ≠ 0) : readsL bs = false := by
  unfold readsL
  rw [List.all_eq_false]
  exact ⟨b, mem_of_get h, by simpa using hb⟩

set_option maxRecDepth 100000 in
set_option maxHeartbeats 8000000 in
theorem segget_any (id ti sh : Int) (hid : 0 ≤ id ∧ id < 18446744073709551616) (bs : List (List UInt8)) (hbs : ∀ b ∈ bs, b.length ≤ 1099511627776) (A : Option Addr) (n c : Nat) (w : World) (hr : Rd w 1 A n (strs bs)) (hn : n ≤ 1000) :
    Calls Tryz.prog 40 #[.int .u64 id, .int .i64 ti, .int .i64 sh, .slice A n c] w fun r w' =>
      (n ≠ 0 → getsL id ti sh bs = true → ∃ R m cs, r = .returned (.tuple #[.slice R m cs, .int .i64 0]) ∧ w'.ownsRow w.heap.size 63 7 (.slice R m cs) m (rcells (outL bs))) ∧
      (n ≠ 0 → getsL id ti sh bs = false → ∃ e : Int, r = .returned (.tuple #[.slice none 0 0, .int .i64 e]) ∧ e ≠ 0 ∧ (readsL bs = true → e = 6)) ∧
      (n = 0 → r = .returned (.tuple #[.slice none 0 0, .int .i64 0])) ∧ Below w.heap.size w w' := by
  have hlen : bs.length = n := by have := hr.1; rw [strs_len] at this; omega
  have Hr := Lib.hid hr
  have Hbs := Lib.hid hbs
  have Hlen := Lib.hid hlen
  have Hid_ := Lib.hid hid
  clear hr hbs hlen hid
  obtain ⟨i0, hi, hz0, hz1, hz2⟩ := info_parts info_blk
  obtain ⟨j0, hj, hy0, hy1, hy2⟩ := info_parts info_rec
  go_enter Tryz.func40, Tryz.ntmps40
  go_wp2_with fail
  go_loopw [11, 26] (fun o i wr => ∃ (k : Nat) (R : Option Addr) (cs : Nat), k ≤ n ∧ i = .int .i64 k ∧ o = .slice R k cs ∧ wr.ownsRow w.heap.size 136 6 (.slice R k cs) k (((bs.map hdRd).take k).flatMap HeadV.cells) ∧ Hid (∀ b ∈ bs.take k, hdE b = 0) ∧ Own w wr (rowF (.slice R k cs))) (fun _ i _ => n - (intOf i).toNat)
  case atStart => exact ⟨0, none, 0, Nat.zero_le _, rfl, rfl, World.ownsRow_nil _ _ _ _, fun b hb => by simp at hb, (Own.start w).also (fun k hk => by cases hk)⟩
  case round =>
    obtain ⟨k, R, cs, hk, rfl, rfl, hrow, hall, ho⟩ := hrel
    have Hrow := Lib.hid hrow
    have Ho := Lib.hid ho
    have HA := Lib.hid (Hr.out.below ho.bel)
    clear hrow ho
    by_cases hlt : k < n
    · obtain ⟨ad, b, rfl, hb, hc⟩ := HA.out.at_map hlt
      have hbl := Hbs.out b (mem_of_get hb)
      have hbz := bstr_size b
      have HRd := Lib.hid (fun w' => rd_any b hbl w')
      have HBk := Lib.hid hb
      have hSb : (bstr b).size ≤ 1099511627776 := by omega
      obtain ⟨S, hS⟩ : ∃ S, bstr b = S := ⟨_, rfl⟩
      rw [hS] at hc HRd hSb
      clear hbl hbz hS hb
      go_wp2_with fail
      by_cases hE : hdE b = 0
      · have hV := hdE_V hE
        rw [hE, hV] at HRd
        have hall1 : Hid (∀ x ∈ bs.take (k + 1), hdE x = 0) := fun x hx => by
          rw [take_snoc HBk.out] at hx
          rcases List.mem_append.1 hx with h | h
          · exact hall.out x h
          · rw [List.mem_singleton] at h; subst h; exact hE
        have hs1 : Hid (((bs.map hdRd).take (k + 1)).flatMap HeadV.cells = ((bs.map hdRd).take k).flatMap HeadV.cells ++ (hdRd b).cells) := by
          show _ = _
          rw [take_snoc (x := hdRd b) (by rw [List.getElem?_map, HBk.out]; rfl), List.flatMap_append]; simp
        obtain ⟨⟨id2, ti2, sh2, pl2, of2, rc2⟩, hh⟩ : ∃ h, hdRd b = h := ⟨_, rfl⟩
        rw [hh] at HRd hs1
        unfold HeadV.val at HRd
        have hcell : HeadV.cells ⟨id2, ti2, sh2, pl2, of2, rc2⟩ = [.int .u64 id2, .int .i64 ti2, .int .i64 sh2, .int .i64 pl2, .int .i64 of2, .int .i64 rc2] := rfl
        rw [hcell] at hs1
        clear hE hV hh hcell
        refine (HRd.out _).mono ?_
        rintro r w2 ⟨rfl, b2⟩
        have O2 := Lib.hid (Ho.out.below b2)
        have R2 := Lib.hid (own_fr0 Hrow.out (Fr.b0 b2))
        have hw2 := Lib.hid O2.out.bel.size
        clear b2 Ho Hrow hc
        go_wp2_with (at_builtin; refine wpList_app2 rfl _ _ 140 rfl 136 i0 _ 6 48 Tryz.underlying140 hi hz0 hz1 hz2 rfl (by decide) (.slice R k cs) k _ rfl w.heap.size (by have := hw2.out; simp; omega) (own_fr0 (own_fr0 R2.out (Fr.none_alloc _ _)) (Fr.none_alloc _ _)) (some ⟨w2.heap.size + 1, 0, none⟩) 1 1 [.int .u64 id2, .int .i64 ti2, .int .i64 sh2, .int .i64 pl2, .int .i64 of2, .int .i64 rc2] rfl (Rd.newS (by simp) _ _ 1 6 rfl) (by simp [Value.oneCell']) ?q1 ?q2 ?_)
        case q1 => unfold maxLen; omega
        case q2 => omega
        intro R8 c8 w8 ho8 hm8 _
        have Ho8 := Lib.hid ho8
        have Hm8 := Lib.hid hm8
        clear ho8 hm8
        go_wp2
        go_roundw
        case rel =>
          refine ⟨k + 1, R8, c8, by omega, by go_num, rfl, ?_, hall1.out, ((O2.out.skip (Fr.none_alloc _ _)).skip (Fr.none_alloc _ _)).mv Hm8.out⟩
          rw [hs1.out]
          exact Ho8.out
        case measure => simp [intOf]; omega
      · have HF : Hid (readsL bs = false) := reads_bad HBk.out hE
        have HG : Hid (getsL id ti sh bs = false) := by show _ = _; unfold getsL; rw [HF.out, Bool.false_and]
        have hE2 : (hdE b != 0) = true := by simpa using hE
        have hE3 : (hdE b == 0) = false := by simpa using hE
        have HE := Lib.hid hE
        obtain ⟨⟨id2, ti2, sh2, pl2, of2, rc2⟩, hh⟩ : ∃ h, hdV b = h := ⟨_, rfl⟩
        rw [hh] at HRd
        unfold HeadV.val at HRd
        obtain ⟨E, hEE⟩ : ∃ E, hdE b = E := ⟨_, rfl⟩
        rw [hEE] at HRd hE2 hE3 HE
        clear hE hh hEE
        refine (HRd.out _).mono ?_
        rintro r w2 ⟨rfl, b2⟩
        have O2 := Lib.hid (Ho.out.below b2)
        clear b2 Ho Hrow hc
        go_wp2_with fail
        go_ret2
        exact ⟨fun _ h => (by rw [HG.out] at h; cases h), fun _ _ => ⟨E, rfl, HE.out, fun h => (by rw [HF.out] at h; cases h)⟩, fun h => absurd h (by omega), (O2.out.skip (Fr.none_alloc _ _)).bel⟩
    · obtain rfl : k = n := by omega
      have htk := take_all (l := bs) (k := k) (by rw [Hlen.out]; exact Nat.le_refl _)
      have hall2 := hall.out
      rw [htk] at hall2
      have HAll := Lib.hid hall2
      have hrow2 := Hrow.out
      rw [take_all (l := bs.map hdRd) (k := k) (by rw [List.length_map, Hlen.out]; exact Nat.le_refl _)] at hrow2
      have HH := Lib.hid (Rd.of_own hrow2)
      have HB := Lib.hid Ho.out.bel
      have hwr := Lib.hid Ho.out.bel.size
      clear htk hall2 hrow2 Hrow Ho hall
      obtain ⟨w1, hw1⟩ : ∃ w1, wr = w1 := ⟨_, rfl⟩
      rw [hw1] at HA HH HB hwr ⊢
      clear hw1
      go_wp2_with fail
      go_loopw [10, 45] (fun o i wr => ∃ (q m : Nat) (R2 : Option Addr) (c2 : Nat), q ≤ k ∧ i = .int .i64 q ∧ o = .slice R2 m c2 ∧ wr.ownsRow w1.heap.size 63 7 (.slice R2 m c2) m (rcells (outL (bs.take q))) ∧ m ≤ 3 * q ∧ Hid (∀ j, j < q → okAt id ti sh bs j = true) ∧ Own w1 wr (rowF (.slice R2 m c2))) (fun _ i _ => k - (intOf i).toNat)
      case atStart => exact ⟨0, 0, none, 0, Nat.zero_le _, rfl, rfl, World.ownsRow_nil _ _ _ _, by omega, fun j hj => absurd hj (by omega), (Own.start w1).also (fun k hk => by cases hk)⟩
      case round =>
        obtain ⟨q, m, R2, c2, hq, rfl, rfl, hrow, hm, hok, ho⟩ := hrel
        have Hrow := Lib.hid hrow
        have Ho := Lib.hid ho
        have HAr := Lib.hid (HA.out.below ho.bel)
        have HHr := Lib.hid (HH.out.below ho.bel)
        clear hrow ho
        by_cases hlt : q < k
        · obtain ⟨ad, b, rfl, hb, hc⟩ := HAr.out.at_map hlt
          obtain ⟨hd, hx, rfl, hhx, a0, a1, a2, a3, a4, a5⟩ := HHr.out.head_ hlt
          have hxe : hx = hdRd b := by
            rw [List.getElem?_map, hb] at hhx
            exact (Option.some.inj hhx).symm
          subst hxe
          have hE := HAll.out b (mem_of_get hb)
          have hEN := recN_of hE
          have hE256 := (hdE_good hE).1
          have hbz := bstr_size b
          have hbody := bodyL_len hE
          have HBk := Lib.hid hb
          have HOKA := Lib.hid (okAt_some (id := id) (ti := ti) (sh := sh) hb)
          have HEQ := Lib.hid (fun w' => run_neqhead (hdRd b) ⟨id, ti, sh, (q : Nat), (k : Nat), 0⟩ w')
          have hcut : (bstr b).extract 48 (48 + recN b * 64) = bstr (bodyL b) := by rw [bstr_extract]; rfl
          obtain ⟨rn, hrn⟩ : ∃ rn, recN b = rn := ⟨_, rfl⟩
          have HG : Hid (∀ w', Calls Tryz.prog 24 #[.string ((bstr b).extract 48 (48 + rn * 64))] w' fun r w'' => (recsOk (bodyL b) rn = true → ∃ A c, r = .returned (.tuple #[.slice A rn c, .int .i64 0]) ∧ rn ≤ c ∧ Rd w'' 7 A rn (rcells (recsOf b)) ∧ ∀ k, adF A rn k → w'.heap.size ≤ k) ∧ (recsOk (bodyL b) rn = false → r = .returned (.tuple #[.slice none 0 0, .int .i64 6])) ∧ Below w'.heap.size w' w'') := fun w' => by
            have := recget_any (bodyL b) rn (by rw [hbody, hrn]) (by rw [hbody]; omega) w'
            rw [← hrn] at this ⊢
            rw [hcut]
            exact this
          have HBlk : Hid (okBlk id ti sh bs.length q b = (hdEq (hdRd b) ⟨id, ti, sh, (q : Nat), (k : Nat), 0⟩ && recsOk (bodyL b) rn)) := by show _ = _; unfold okBlk; rw [Hlen.out, hrn]
          rw [hrn] at hEN
          obtain ⟨OKB, hOKB⟩ : ∃ O, recsOk (bodyL b) rn = O := ⟨_, rfl⟩
          rw [hOKB] at HG HBlk
          obtain ⟨EQ, hEQ⟩ : ∃ O, hdEq (hdRd b) ⟨id, ti, sh, (q : Nat), (k : Nat), 0⟩ = O := ⟨_, rfl⟩
          rw [hEQ] at HEQ HBlk
          have hS1 : Hid (rcells (outL (bs.take (q + 1))) = rcells (outL (bs.take q)) ++ rcells (recsOf b)) := by
            show _ = _
            rw [outL_snoc hb, rcells_append]
          obtain ⟨RO, hRO⟩ : ∃ RO, rcells (recsOf b) = RO := ⟨_, rfl⟩
          have hROone : Hid (∀ u ∈ RO, u.oneCell' = true) := by rw [← hRO]; exact rcells_one _
          rw [hRO] at HG hS1
          obtain ⟨S, hS⟩ : ∃ S, bstr b = S := ⟨_, rfl⟩
          have hSz : S.size = 256 := by rw [← hS, hbz]; exact hE256
          rw [hS] at HG hc
          have hrc : (hdRd b).recs = (rn : Int) := hEN.1.symm
          obtain ⟨⟨id2, ti2, sh2, pl2, of2, rc2⟩, hh⟩ : ∃ h, hdRd b = h := ⟨_, rfl⟩
          rw [hh] at a0 a1 a2 a3 a4 a5 HEQ hrc
          simp only at a0 a1 a2 a3 a4 a5 hrc
          subst hrc
          unfold HeadV.hval at HEQ
          have hq := HEQ.out
          have hrn3 : rn ≤ 3 := hEN.2.2
          have B1 := Lib.hid (Blk.new wr 136 #[.int .u64 id2, .int .i64 ti2, .int .i64 sh2, .int .i64 pl2, .int .i64 of2, .int .i64 (rn : Nat)])
          clear hE hEN hE256 hbz hbody hb hcut hrn hOKB hEQ hRO hS hh hhx
          cases EQ
          · have HF : Hid (getsL id ti sh bs = false) := gets_bad (k := q) (by rw [Hlen.out]; exact hlt) (by rw [HOKA.out, HBlk.out]; rfl)
            have HRds : Hid (readsL bs = true) := by show _ = _; unfold readsL; rw [List.all_eq_true]; exact fun x hx => decide_eq_true (HAll.out x hx)
            go_wp2_with fail
            go_ret2
            exact ⟨fun _ h => (by rw [HF.out] at h; cases h), fun _ _ => ⟨6, rfl, by decide, fun _ => rfl⟩, fun h => absurd h (by omega), HB.out.trans (((Ho.out.skip (Fr.none_alloc _ _)).bel).mono hwr.out)⟩
          · obtain ⟨W1, hW1⟩ : ∃ W1, W1 = wr.alloc (.cells #[.int .u64 id2, .int .i64 ti2, .int .i64 sh2, .int .i64 pl2, .int .i64 of2, .int .i64 (rn : Nat)] 136) := ⟨_, rfl⟩
            go_wp2_with fail
            have F1 : Fr (fun _ => False) wr W1.drew := by rw [hW1]; exact (Fr.none_alloc _ _).drew
            have O1 := Lib.hid (Ho.out.skip F1)
            have R1 := Lib.hid (own_fr0 Hrow.out F1)
            rw [← hW1] at B1 ⊢
            have x5 := B1.out.drew.cell 5
            have xc := F1.cell hc (fun h => h)
            simp only [List.getElem?_toArray, List.getElem?_cons_succ, List.getElem?_cons_zero] at x5
            have hwm : IntKind.i64.wrap ((rn : Int) * 64) = (rn : Int) * 64 := IntWalk.i64_in _ (by omega)
            have hwa : IntKind.i64.wrap (48 + (rn : Int) * 64) = 48 + (rn : Int) * 64 := IntWalk.i64_in _ (by omega)
            have htn : (48 + (rn : Int) * 64).toNat = 48 + rn * 64 := by omega
            have hbnd : (0 : Int) ≤ 48 + (rn : Int) * 64 ∧ 48 + (rn : Int) * 64 ≤ 256 := ⟨by omega, by omega⟩
            have hbn2 : (48 : Int) ≤ 48 + (rn : Int) * 64 := by omega
            have HRds : Hid (readsL bs = true) := by show _ = _; unfold readsL; rw [List.all_eq_true]; exact fun x hx => decide_eq_true (HAll.out x hx)
            clear hW1 F1 a0 a1 a2 a3 a4 a5 hc hq Ho Hrow
            cases OKB
            · have HF : Hid (getsL id ti sh bs = false) := gets_bad (k := q) (by rw [Hlen.out]; exact hlt) (by rw [HOKA.out, HBlk.out]; rfl)
              refine wp_region_any (by kernel_rfl) ?_
              change wpAny _ _ _ _ _ _ _ (World.drew _)
              refine wpAny_take (i := 0) (oi := { dst := some 61, op := Op.move (Operand.tmp 3), type := 70, pos := "seg.go:122", after := #[], guard := none }) (v := ?vq1) rfl (by kernel_rfl) (by kernel_rfl) (by kernel_rfl) (fun _ _ _ h => h) (Or.inl ⟨by rfl, ?hq1⟩) ?rq1
              case hq1 => intro W; go_simp; (try with_reducible rfl)
              try simp only [Act.put, List.setIfInBounds_toArray, List.set_cons_zero, List.set_cons_succ]
              refine wpAny_take (i := 1) (oi := { dst := some 62, op := Op.move (Operand.tmp 16), type := 3, pos := "seg.go:122", after := #[], guard := none }) (v := ?vq2) rfl (by kernel_rfl) (by kernel_rfl) (by kernel_rfl) (fun _ _ _ h => h) (Or.inl ⟨by rfl, ?hq2⟩) ?rq2
              case hq2 => intro W; go_simp; (try with_reducible rfl)
              try simp only [Act.put, List.setIfInBounds_toArray, List.set_cons_zero, List.set_cons_succ]
              refine wpAny_take (i := 2) (oi := { dst := some 63, op := Op.indexAddr 70 (Operand.tmp 61) (Operand.tmp 62), type := 0, pos := "seg.go:122", after := #[{ on := 0, ground := Ground.data }, { on := 1, ground := Ground.data }], guard := none }) (v := ?vq3) rfl (by kernel_rfl) (by kernel_rfl) (by kernel_rfl) (fun _ _ _ h => h) (Or.inl ⟨by rfl, ?hq3⟩) ?rq3
              case hq3 => intro W; go_simp; (try with_reducible rfl)
              try simp only [Act.put, List.setIfInBounds_toArray, List.set_cons_zero, List.set_cons_succ]
              refine wpAny_take (i := 4) (oi := { dst := some 65, op := Op.fieldAddr 136 (Operand.tmp 17) 1, type := 0, pos := "seg.go:122", after := #[], guard := none }) (v := ?vq4) rfl (by kernel_rfl) (by kernel_rfl) (by kernel_rfl) (fun _ _ _ h => h) (Or.inl ⟨by rfl, ?hq4⟩) ?rq4
              case hq4 => intro W; go_simp; (try with_reducible rfl)
              try simp only [Act.put, List.setIfInBounds_toArray, List.set_cons_zero, List.set_cons_succ]
              refine wpAny_ready (rs := [3, 5]) (by kernel_rfl) (by simp) ?_
              refine AllReady.cons (o := { dst := some 64, op := Op.load 9 (Operand.tmp 63), type := 9, pos := "seg.go:122", after := #[{ on := 2, ground := Ground.data }], guard := none }) rfl (fun K hK => ?_) ?_
              · go_simp
                refine hK _ _ ?_
                clear hK K
                try simp only [Act.put, List.setIfInBounds_toArray, List.set_cons_zero, List.set_cons_succ]
                refine wpAny_ready (rs := [5]) (by kernel_rfl) (by simp) ?_
                refine AllReady.cons (o := { dst := some 66, op := Op.load 3 (Operand.tmp 65), type := 3, pos := "seg.go:122", after := #[{ on := 4, ground := Ground.data }], guard := none }) rfl (fun K hK => ?_) AllReady.nil
                go_simp
                refine hK _ _ ?_
                clear hK K
                try simp only [Act.put, List.setIfInBounds_toArray, List.set_cons_zero, List.set_cons_succ]
                refine wpAny_take (i := 6) (oi := { dst := some 67, op := Op.binOp BinOp.mul 3 (Operand.tmp 66) (Operand.const (Value.int IntKind.i64 64)) 3, type := 3, pos := "seg.go:122", after := #[{ on := 5, ground := Ground.data }], guard := none }) (v := ?vq5) rfl (by kernel_rfl) (by kernel_rfl) (by kernel_rfl) (fun _ _ _ h => h) (Or.inl ⟨by rfl, ?hq5⟩) ?rq5
                case hq5 => intro W; go_simp; (try with_reducible rfl)
                try simp only [Act.put, List.setIfInBounds_toArray, List.set_cons_zero, List.set_cons_succ]
                refine wpAny_take (i := 7) (oi := { dst := some 68, op := Op.binOp BinOp.add 3 (Operand.const (Value.int IntKind.i64 48)) (Operand.tmp 67) 3, type := 3, pos := "seg.go:122", after := #[{ on := 6, ground := Ground.data }], guard := none }) (v := ?vq6) rfl (by kernel_rfl) (by kernel_rfl) (by kernel_rfl) (fun _ _ _ h => h) (Or.inl ⟨by rfl, ?hq6⟩) ?rq6
                case hq6 => intro W; go_simp; (try with_reducible rfl)
                try simp only [Act.put, List.setIfInBounds_toArray, List.set_cons_zero, List.set_cons_succ]
                refine wpAny_take (i := 8) (oi := { dst := some 69, op := Op.slice 9 (Operand.tmp 64) (some (Operand.const (Value.int IntKind.i64 48))) (some (Operand.tmp 68)) none, type := 9, pos := "seg.go:122", after := #[{ on := 3, ground := Ground.data }, { on := 7, ground := Ground.data }], guard := none }) (v := ?vq7) rfl (by kernel_rfl) (by kernel_rfl) (by kernel_rfl) (fun _ _ _ h => h) (Or.inl ⟨by rfl, ?hq7⟩) ?rq7
                case hq7 => intro W; go_simp; (try with_reducible rfl)
                try simp only [Act.put, List.setIfInBounds_toArray, List.set_cons_zero, List.set_cons_succ]
                refine wpAny_ready (rs := [9]) (by kernel_rfl) (by simp) ?_
                refine AllReady.cons (o := { dst := some 70, op := Op.call { callee := Callee.value (Operand.func 24), args := #[Operand.tmp 69], argTypes := #[9] }, type := 54, pos := "seg.go:122", after := #[{ on := 8, ground := Ground.data }], guard := none }) rfl (fun K hK => ?_) AllReady.nil
                go_simp
                go_wp2_with (first | (go_at_call 24; refine (HG.out _).mono ?_; rintro r w5 ⟨_, h2, b5⟩; obtain rfl := h2 rfl; have O5 := Lib.hid (O1.out.below b5); clear b5))
                refine wpAny_take (i := 10) (oi := { dst := some 60, op := Op.move (Operand.tmp 70), type := 54, pos := "seg.go:122", after := #[{ on := 9, ground := Ground.data }], guard := none }) (v := ?vq8) rfl (by kernel_rfl) (by kernel_rfl) (by kernel_rfl) (fun _ _ _ h => h) (Or.inl ⟨by rfl, ?hq8⟩) ?rq8
                case hq8 => intro W; go_simp; (try with_reducible rfl)
                try simp only [Act.put, List.setIfInBounds_toArray, List.set_cons_zero, List.set_cons_succ]
                refine wpAny_take (i := 11) (oi := { dst := some 71, op := Op.extract (Operand.tmp 60) 0, type := 49, pos := "seg.go:122", after := #[{ on := 10, ground := Ground.data }], guard := none }) (v := ?vq9) rfl (by kernel_rfl) (by kernel_rfl) (by kernel_rfl) (fun _ _ _ h => h) (Or.inl ⟨by rfl, ?hq9⟩) ?rq9
                case hq9 => intro W; go_simp; (try with_reducible rfl)
                try simp only [Act.put, List.setIfInBounds_toArray, List.set_cons_zero, List.set_cons_succ]
                refine wpAny_take (i := 12) (oi := { dst := some 72, op := Op.extract (Operand.tmp 60) 1, type := 39, pos := "seg.go:122", after := #[{ on := 10, ground := Ground.data }, { on := 13, ground := Ground.gcOnly Departure.lateStores }], guard := none }) (v := ?vq10) rfl (by kernel_rfl) (by kernel_rfl) (by kernel_rfl) (fun _ _ _ h => h) (Or.inl ⟨by rfl, ?hq10⟩) ?rq10
                case hq10 => intro W; go_simp; (try with_reducible rfl)
                try simp only [Act.put, List.setIfInBounds_toArray, List.set_cons_zero, List.set_cons_succ]
                refine wpAny_ready (rs := [13]) (by kernel_rfl) (by simp) ?_
                refine AllReady.cons (o := { dst := some 18, op := Op.assign (Operand.tmp 71), type := 49, pos := "seg.go:122", after := #[{ on := 11, ground := Ground.data }, { on := 9, ground := Ground.chain }, { on := 0, ground := Ground.phase }, { on := 1, ground := Ground.phase }, { on := 2, ground := Ground.phase }, { on := 3, ground := Ground.phase }, { on := 4, ground := Ground.phase }, { on := 5, ground := Ground.phase }, { on := 6, ground := Ground.phase }, { on := 7, ground := Ground.phase }, { on := 8, ground := Ground.phase }, { on := 9, ground := Ground.phase }, { on := 10, ground := Ground.phase }, { on := 11, ground := Ground.phase }, { on := 12, ground := Ground.textOnly Departure.lateStores }], guard := none }) rfl (fun K hK => ?_) AllReady.nil
                go_simp
                refine hK _ _ ?_
                clear hK K
                try simp only [Act.put, List.setIfInBounds_toArray, List.set_cons_zero, List.set_cons_succ]
                refine wpAny_ready (rs := [14]) (by kernel_rfl) (by simp) ?_
                refine AllReady.cons (o := { dst := some 19, op := Op.assign (Operand.tmp 72), type := 39, pos := "seg.go:122", after := #[{ on := 12, ground := Ground.data }, { on := 13, ground := Ground.chain }, { on := 0, ground := Ground.phase }, { on := 1, ground := Ground.phase }, { on := 2, ground := Ground.phase }, { on := 3, ground := Ground.phase }, { on := 4, ground := Ground.phase }, { on := 5, ground := Ground.phase }, { on := 6, ground := Ground.phase }, { on := 7, ground := Ground.phase }, { on := 8, ground := Ground.phase }, { on := 9, ground := Ground.phase }, { on := 10, ground := Ground.phase }, { on := 11, ground := Ground.phase }, { on := 12, ground := Ground.phase }, { on := 13, ground := Ground.phase }], guard := none }) rfl (fun K hK => ?_) AllReady.nil
                go_simp
                refine hK _ _ ?_
                clear hK K
                try simp only [Act.put, List.setIfInBounds_toArray, List.set_cons_zero, List.set_cons_succ]
                refine wpAny_done (by kernel_rfl) ?_ _
                go_wp2_with fail
                go_ret2
                exact ⟨fun _ h => (by rw [HF.out] at h; cases h), fun _ _ => ⟨6, rfl, by decide, fun _ => rfl⟩, fun h => absurd h (by omega), HB.out.trans (O5.out.bel.mono hwr.out)⟩
              refine AllReady.cons (o := { dst := some 66, op := Op.load 3 (Operand.tmp 65), type := 3, pos := "seg.go:122", after := #[{ on := 4, ground := Ground.data }], guard := none }) rfl (fun K hK => ?_) ?_
              · go_simp
                refine hK _ _ ?_
                clear hK K
                try simp only [Act.put, List.setIfInBounds_toArray, List.set_cons_zero, List.set_cons_succ]
                refine wpAny_take (i := 6) (oi := { dst := some 67, op := Op.binOp BinOp.mul 3 (Operand.tmp 66) (Operand.const (Value.int IntKind.i64 64)) 3, type := 3, pos := "seg.go:122", after := #[{ on := 5, ground := Ground.data }], guard := none }) (v := ?vq11) rfl (by kernel_rfl) (by kernel_rfl) (by kernel_rfl) (fun _ _ _ h => h) (Or.inl ⟨by rfl, ?hq11⟩) ?rq11
                case hq11 => intro W; go_simp; (try with_reducible rfl)
                try simp only [Act.put, List.setIfInBounds_toArray, List.set_cons_zero, List.set_cons_succ]
                refine wpAny_take (i := 7) (oi := { dst := some 68, op := Op.binOp BinOp.add 3 (Operand.const (Value.int IntKind.i64 48)) (Operand.tmp 67) 3, type := 3, pos := "seg.go:122", after := #[{ on := 6, ground := Ground.data }], guard := none }) (v := ?vq12) rfl (by kernel_rfl) (by kernel_rfl) (by kernel_rfl) (fun _ _ _ h => h) (Or.inl ⟨by rfl, ?hq12⟩) ?rq12
                case hq12 => intro W; go_simp; (try with_reducible rfl)
                try simp only [Act.put, List.setIfInBounds_toArray, List.set_cons_zero, List.set_cons_succ]
                refine wpAny_ready (rs := [3]) (by kernel_rfl) (by simp) ?_
                refine AllReady.cons (o := { dst := some 64, op := Op.load 9 (Operand.tmp 63), type := 9, pos := "seg.go:122", after := #[{ on := 2, ground := Ground.data }], guard := none }) rfl (fun K hK => ?_) AllReady.nil
                go_simp
                refine hK _ _ ?_
                clear hK K
                try simp only [Act.put, List.setIfInBounds_toArray, List.set_cons_zero, List.set_cons_succ]
                refine wpAny_take (i := 8) (oi := { dst := some 69, op := Op.slice 9 (Operand.tmp 64) (some (Operand.const (Value.int IntKind.i64 48))) (some (Operand.tmp 68)) none, type := 9, pos := "seg.go:122", after := #[{ on := 3, ground := Ground.data }, { on := 7, ground := Ground.data }], guard := none }) (v := ?vq13) rfl (by kernel_rfl) (by kernel_rfl) (by kernel_rfl) (fun _ _ _ h => h) (Or.inl ⟨by rfl, ?hq13⟩) ?rq13
                case hq13 => intro W; go_simp; (try with_reducible rfl)
                try simp only [Act.put, List.setIfInBounds_toArray, List.set_cons_zero, List.set_cons_succ]
                refine wpAny_ready (rs := [9]) (by kernel_rfl) (by simp) ?_
                refine AllReady.cons (o := { dst := some 70, op := Op.call { callee := Callee.value (Operand.func 24), args := #[Operand.tmp 69], argTypes := #[9] }, type := 54, pos := "seg.go:122", after := #[{ on := 8, ground := Ground.data }], guard := none }) rfl (fun K hK => ?_) AllReady.nil
                go_simp
                go_wp2_with (first | (go_at_call 24; refine (HG.out _).mono ?_; rintro r w5 ⟨_, h2, b5⟩; obtain rfl := h2 rfl; have O5 := Lib.hid (O1.out.below b5); clear b5))
                refine wpAny_take (i := 10) (oi := { dst := some 60, op := Op.move (Operand.tmp 70), type := 54, pos := "seg.go:122", after := #[{ on := 9, ground := Ground.data }], guard := none }) (v := ?vq14) rfl (by kernel_rfl) (by kernel_rfl) (by kernel_rfl) (fun _ _ _ h => h) (Or.inl ⟨by rfl, ?hq14⟩) ?rq14
                case hq14 => intro W; go_simp; (try with_reducible rfl)
                try simp only [Act.put, List.setIfInBounds_toArray, List.set_cons_zero, List.set_cons_succ]
                refine wpAny_take (i := 11) (oi := { dst := some 71, op := Op.extract (Operand.tmp 60) 0, type := 49, pos := "seg.go:122", after := #[{ on := 10, ground := Ground.data }], guard := none }) (v := ?vq15) rfl (by kernel_rfl) (by kernel_rfl) (by kernel_rfl) (fun _ _ _ h => h) (Or.inl ⟨by rfl, ?hq15⟩) ?rq15
                case hq15 => intro W; go_simp; (try with_reducible rfl)
                try simp only [Act.put, List.setIfInBounds_toArray, List.set_cons_zero, List.set_cons_succ]
                refine wpAny_take (i := 12) (oi := { dst := some 72, op := Op.extract (Operand.tmp 60) 1, type := 39, pos := "seg.go:122", after := #[{ on := 10, ground := Ground.data }, { on := 13, ground := Ground.gcOnly Departure.lateStores }], guard := none }) (v := ?vq16) rfl (by kernel_rfl) (by kernel_rfl) (by kernel_rfl) (fun _ _ _ h => h) (Or.inl ⟨by rfl, ?hq16⟩) ?rq16
                case hq16 => intro W; go_simp; (try with_reducible rfl)
                try simp only [Act.put, List.setIfInBounds_toArray, List.set_cons_zero, List.set_cons_succ]
                refine wpAny_ready (rs := [13]) (by kernel_rfl) (by simp) ?_
                refine AllReady.cons (o := { dst := some 18, op := Op.assign (Operand.tmp 71), type := 49, pos := "seg.go:122", after := #[{ on := 11, ground := Ground.data }, { on := 9, ground := Ground.chain }, { on := 0, ground := Ground.phase }, { on := 1, ground := Ground.phase }, { on := 2, ground := Ground.phase }, { on := 3, ground := Ground.phase }, { on := 4, ground := Ground.phase }, { on := 5, ground := Ground.phase }, { on := 6, ground := Ground.phase }, { on := 7, ground := Ground.phase }, { on := 8, ground := Ground.phase }, { on := 9, ground := Ground.phase }, { on := 10, ground := Ground.phase }, { on := 11, ground := Ground.phase }, { on := 12, ground := Ground.textOnly Departure.lateStores }], guard := none }) rfl (fun K hK => ?_) AllReady.nil
                go_simp
                refine hK _ _ ?_
                clear hK K
                try simp only [Act.put, List.setIfInBounds_toArray, List.set_cons_zero, List.set_cons_succ]
                refine wpAny_ready (rs := [14]) (by kernel_rfl) (by simp) ?_
                refine AllReady.cons (o := { dst := some 19, op := Op.assign (Operand.tmp 72), type := 39, pos := "seg.go:122", after := #[{ on := 12, ground := Ground.data }, { on := 13, ground := Ground.chain }, { on := 0, ground := Ground.phase }, { on := 1, ground := Ground.phase }, { on := 2, ground := Ground.phase }, { on := 3, ground := Ground.phase }, { on := 4, ground := Ground.phase }, { on := 5, ground := Ground.phase }, { on := 6, ground := Ground.phase }, { on := 7, ground := Ground.phase }, { on := 8, ground := Ground.phase }, { on := 9, ground := Ground.phase }, { on := 10, ground := Ground.phase }, { on := 11, ground := Ground.phase }, { on := 12, ground := Ground.phase }, { on := 13, ground := Ground.phase }], guard := none }) rfl (fun K hK => ?_) AllReady.nil
                go_simp
                refine hK _ _ ?_
                clear hK K
                try simp only [Act.put, List.setIfInBounds_toArray, List.set_cons_zero, List.set_cons_succ]
                refine wpAny_done (by kernel_rfl) ?_ _
                go_wp2_with fail
                go_ret2
                exact ⟨fun _ h => (by rw [HF.out] at h; cases h), fun _ _ => ⟨6, rfl, by decide, fun _ => rfl⟩, fun h => absurd h (by omega), HB.out.trans (O5.out.bel.mono hwr.out)⟩
              exact AllReady.nil
            · have hok1 : Hid (∀ j, j < q + 1 → okAt id ti sh bs j = true) := fun j hj => by
                rcases Nat.lt_or_ge j q with h | h
                · exact hok.out j h
                · obtain rfl : j = q := by omega
                  rw [HOKA.out, HBlk.out]; rfl
              refine wp_region_any (by kernel_rfl) ?_
              change wpAny _ _ _ _ _ _ _ (World.drew _)
              refine wpAny_take (i := 0) (oi := { dst := some 61, op := Op.move (Operand.tmp 3), type := 70, pos := "seg.go:122", after := #[], guard := none }) (v := ?vq17) rfl (by kernel_rfl) (by kernel_rfl) (by kernel_rfl) (fun _ _ _ h => h) (Or.inl ⟨by rfl, ?hq17⟩) ?rq17
              case hq17 => intro W; go_simp; (try with_reducible rfl)
              try simp only [Act.put, List.setIfInBounds_toArray, List.set_cons_zero, List.set_cons_succ]
              refine wpAny_take (i := 1) (oi := { dst := some 62, op := Op.move (Operand.tmp 16), type := 3, pos := "seg.go:122", after := #[], guard := none }) (v := ?vq18) rfl (by kernel_rfl) (by kernel_rfl) (by kernel_rfl) (fun _ _ _ h => h) (Or.inl ⟨by rfl, ?hq18⟩) ?rq18
              case hq18 => intro W; go_simp; (try with_reducible rfl)
              try simp only [Act.put, List.setIfInBounds_toArray, List.set_cons_zero, List.set_cons_succ]
              refine wpAny_take (i := 2) (oi := { dst := some 63, op := Op.indexAddr 70 (Operand.tmp 61) (Operand.tmp 62), type := 0, pos := "seg.go:122", after := #[{ on := 0, ground := Ground.data }, { on := 1, ground := Ground.data }], guard := none }) (v := ?vq19) rfl (by kernel_rfl) (by kernel_rfl) (by kernel_rfl) (fun _ _ _ h => h) (Or.inl ⟨by rfl, ?hq19⟩) ?rq19
              case hq19 => intro W; go_simp; (try with_reducible rfl)
              try simp only [Act.put, List.setIfInBounds_toArray, List.set_cons_zero, List.set_cons_succ]
              refine wpAny_take (i := 4) (oi := { dst := some 65, op := Op.fieldAddr 136 (Operand.tmp 17) 1, type := 0, pos := "seg.go:122", after := #[], guard := none }) (v := ?vq20) rfl (by kernel_rfl) (by kernel_rfl) (by kernel_rfl) (fun _ _ _ h => h) (Or.inl ⟨by rfl, ?hq20⟩) ?rq20
              case hq20 => intro W; go_simp; (try with_reducible rfl)
              try simp only [Act.put, List.setIfInBounds_toArray, List.set_cons_zero, List.set_cons_succ]
              refine wpAny_ready (rs := [3, 5]) (by kernel_rfl) (by simp) ?_
              refine AllReady.cons (o := { dst := some 64, op := Op.load 9 (Operand.tmp 63), type := 9, pos := "seg.go:122", after := #[{ on := 2, ground := Ground.data }], guard := none }) rfl (fun K hK => ?_) ?_
              · go_simp
                refine hK _ _ ?_
                clear hK K
                try simp only [Act.put, List.setIfInBounds_toArray, List.set_cons_zero, List.set_cons_succ]
                refine wpAny_ready (rs := [5]) (by kernel_rfl) (by simp) ?_
                refine AllReady.cons (o := { dst := some 66, op := Op.load 3 (Operand.tmp 65), type := 3, pos := "seg.go:122", after := #[{ on := 4, ground := Ground.data }], guard := none }) rfl (fun K hK => ?_) AllReady.nil
                go_simp
                refine hK _ _ ?_
                clear hK K
                try simp only [Act.put, List.setIfInBounds_toArray, List.set_cons_zero, List.set_cons_succ]
                refine wpAny_take (i := 6) (oi := { dst := some 67, op := Op.binOp BinOp.mul 3 (Operand.tmp 66) (Operand.const (Value.int IntKind.i64 64)) 3, type := 3, pos := "seg.go:122", after := #[{ on := 5, ground := Ground.data }], guard := none }) (v := ?vq21) rfl (by kernel_rfl) (by kernel_rfl) (by kernel_rfl) (fun _ _ _ h => h) (Or.inl ⟨by rfl, ?hq21⟩) ?rq21
                case hq21 => intro W; go_simp; (try with_reducible rfl)
                try simp only [Act.put, List.setIfInBounds_toArray, List.set_cons_zero, List.set_cons_succ]
                refine wpAny_take (i := 7) (oi := { dst := some 68, op := Op.binOp BinOp.add 3 (Operand.const (Value.int IntKind.i64 48)) (Operand.tmp 67) 3, type := 3, pos := "seg.go:122", after := #[{ on := 6, ground := Ground.data }], guard := none }) (v := ?vq22) rfl (by kernel_rfl) (by kernel_rfl) (by kernel_rfl) (fun _ _ _ h => h) (Or.inl ⟨by rfl, ?hq22⟩) ?rq22
                case hq22 => intro W; go_simp; (try with_reducible rfl)
                try simp only [Act.put, List.setIfInBounds_toArray, List.set_cons_zero, List.set_cons_succ]
                refine wpAny_take (i := 8) (oi := { dst := some 69, op := Op.slice 9 (Operand.tmp 64) (some (Operand.const (Value.int IntKind.i64 48))) (some (Operand.tmp 68)) none, type := 9, pos := "seg.go:122", after := #[{ on := 3, ground := Ground.data }, { on := 7, ground := Ground.data }], guard := none }) (v := ?vq23) rfl (by kernel_rfl) (by kernel_rfl) (by kernel_rfl) (fun _ _ _ h => h) (Or.inl ⟨by rfl, ?hq23⟩) ?rq23
                case hq23 => intro W; go_simp; (try with_reducible rfl)
                try simp only [Act.put, List.setIfInBounds_toArray, List.set_cons_zero, List.set_cons_succ]
                refine wpAny_ready (rs := [9]) (by kernel_rfl) (by simp) ?_
                refine AllReady.cons (o := { dst := some 70, op := Op.call { callee := Callee.value (Operand.func 24), args := #[Operand.tmp 69], argTypes := #[9] }, type := 54, pos := "seg.go:122", after := #[{ on := 8, ground := Ground.data }], guard := none }) rfl (fun K hK => ?_) AllReady.nil
                go_simp
                go_wp2_with (first | (go_at_call 24; refine (HG.out _).mono ?_; rintro r w5 ⟨h1, _, b5⟩; obtain ⟨NA, nc, rfl, hnc, rd, adn⟩ := h1 rfl; have O5 := Lib.hid (O1.out.below b5); have R5 := Lib.hid (own_fr0 R1.out (Fr.b0 b5)); have RD5 := Lib.hid rd; clear b5 rd adn h1))
                refine wpAny_take (i := 10) (oi := { dst := some 60, op := Op.move (Operand.tmp 70), type := 54, pos := "seg.go:122", after := #[{ on := 9, ground := Ground.data }], guard := none }) (v := ?vq24) rfl (by kernel_rfl) (by kernel_rfl) (by kernel_rfl) (fun _ _ _ h => h) (Or.inl ⟨by rfl, ?hq24⟩) ?rq24
                case hq24 => intro W; go_simp; (try with_reducible rfl)
                try simp only [Act.put, List.setIfInBounds_toArray, List.set_cons_zero, List.set_cons_succ]
                refine wpAny_take (i := 11) (oi := { dst := some 71, op := Op.extract (Operand.tmp 60) 0, type := 49, pos := "seg.go:122", after := #[{ on := 10, ground := Ground.data }], guard := none }) (v := ?vq25) rfl (by kernel_rfl) (by kernel_rfl) (by kernel_rfl) (fun _ _ _ h => h) (Or.inl ⟨by rfl, ?hq25⟩) ?rq25
                case hq25 => intro W; go_simp; (try with_reducible rfl)
                try simp only [Act.put, List.setIfInBounds_toArray, List.set_cons_zero, List.set_cons_succ]
                refine wpAny_take (i := 12) (oi := { dst := some 72, op := Op.extract (Operand.tmp 60) 1, type := 39, pos := "seg.go:122", after := #[{ on := 10, ground := Ground.data }, { on := 13, ground := Ground.gcOnly Departure.lateStores }], guard := none }) (v := ?vq26) rfl (by kernel_rfl) (by kernel_rfl) (by kernel_rfl) (fun _ _ _ h => h) (Or.inl ⟨by rfl, ?hq26⟩) ?rq26
                case hq26 => intro W; go_simp; (try with_reducible rfl)
                try simp only [Act.put, List.setIfInBounds_toArray, List.set_cons_zero, List.set_cons_succ]
                refine wpAny_ready (rs := [13]) (by kernel_rfl) (by simp) ?_
                refine AllReady.cons (o := { dst := some 18, op := Op.assign (Operand.tmp 71), type := 49, pos := "seg.go:122", after := #[{ on := 11, ground := Ground.data }, { on := 9, ground := Ground.chain }, { on := 0, ground := Ground.phase }, { on := 1, ground := Ground.phase }, { on := 2, ground := Ground.phase }, { on := 3, ground := Ground.phase }, { on := 4, ground := Ground.phase }, { on := 5, ground := Ground.phase }, { on := 6, ground := Ground.phase }, { on := 7, ground := Ground.phase }, { on := 8, ground := Ground.phase }, { on := 9, ground := Ground.phase }, { on := 10, ground := Ground.phase }, { on := 11, ground := Ground.phase }, { on := 12, ground := Ground.textOnly Departure.lateStores }], guard := none }) rfl (fun K hK => ?_) AllReady.nil
                go_simp
                refine hK _ _ ?_
                clear hK K
                try simp only [Act.put, List.setIfInBounds_toArray, List.set_cons_zero, List.set_cons_succ]
                refine wpAny_ready (rs := [14]) (by kernel_rfl) (by simp) ?_
                refine AllReady.cons (o := { dst := some 19, op := Op.assign (Operand.tmp 72), type := 39, pos := "seg.go:122", after := #[{ on := 12, ground := Ground.data }, { on := 13, ground := Ground.chain }, { on := 0, ground := Ground.phase }, { on := 1, ground := Ground.phase }, { on := 2, ground := Ground.phase }, { on := 3, ground := Ground.phase }, { on := 4, ground := Ground.phase }, { on := 5, ground := Ground.phase }, { on := 6, ground := Ground.phase }, { on := 7, ground := Ground.phase }, { on := 8, ground := Ground.phase }, { on := 9, ground := Ground.phase }, { on := 10, ground := Ground.phase }, { on := 11, ground := Ground.phase }, { on := 12, ground := Ground.phase }, { on := 13, ground := Ground.phase }], guard := none }) rfl (fun K hK => ?_) AllReady.nil
                go_simp
                refine hK _ _ ?_
                clear hK K
                try simp only [Act.put, List.setIfInBounds_toArray, List.set_cons_zero, List.set_cons_succ]
                refine wpAny_done (by kernel_rfl) ?_ _
                clear x5 xc
                have hw5 := Lib.hid O5.out.bel.size
                go_wp2_with (at_builtin; refine wpList_app2 rfl _ _ 49 rfl 63 j0 _ 7 64 Tryz.underlying49 hj hy0 hy1 hy2 rfl (by decide) (.slice R2 m c2) m _ rfl w1.heap.size (by have := hw5.out; first | omega | (simp; omega)) R5.out NA rn nc RO rfl RD5.out hROone.out ?q1 ?q2 ?_)
                case q1 => unfold maxLen; omega
                case q2 => omega
                intro R8 c8 w8 ho8 hm8 _
                have Ho8 := Lib.hid ho8
                have Hm8 := Lib.hid hm8
                clear ho8 hm8
                go_wp2
                go_roundw
                case rel =>
                  refine ⟨q + 1, m + rn, R8, c8, by omega, by go_num, rfl, ?_, by omega, hok1.out, O5.out.mv Hm8.out⟩
                  rw [hS1.out]
                  exact Ho8.out
                case measure => simp [intOf]; omega
              refine AllReady.cons (o := { dst := some 66, op := Op.load 3 (Operand.tmp 65), type := 3, pos := "seg.go:122", after := #[{ on := 4, ground := Ground.data }], guard := none }) rfl (fun K hK => ?_) ?_
              · go_simp
                refine hK _ _ ?_
                clear hK K
                try simp only [Act.put, List.setIfInBounds_toArray, List.set_cons_zero, List.set_cons_succ]
                refine wpAny_take (i := 6) (oi := { dst := some 67, op := Op.binOp BinOp.mul 3 (Operand.tmp 66) (Operand.const (Value.int IntKind.i64 64)) 3, type := 3, pos := "seg.go:122", after := #[{ on := 5, ground := Ground.data }], guard := none }) (v := ?vq27) rfl (by kernel_rfl) (by kernel_rfl) (by kernel_rfl) (fun _ _ _ h => h) (Or.inl ⟨by rfl, ?hq27⟩) ?rq27
                case hq27 => intro W; go_simp; (try with_reducible rfl)
                try simp only [Act.put, List.setIfInBounds_toArray, List.set_cons_zero, List.set_cons_succ]
                refine wpAny_take (i := 7) (oi := { dst := some 68, op := Op.binOp BinOp.add 3 (Operand.const (Value.int IntKind.i64 48)) (Operand.tmp 67) 3, type := 3, pos := "seg.go:122", after := #[{ on := 6, ground := Ground.data }], guard := none }) (v := ?vq28) rfl (by kernel_rfl) (by kernel_rfl) (by kernel_rfl) (fun _ _ _ h => h) (Or.inl ⟨by rfl, ?hq28⟩) ?rq28
                case hq28 => intro W; go_simp; (try with_reducible rfl)
                try simp only [Act.put, List.setIfInBounds_toArray, List.set_cons_zero, List.set_cons_succ]
                refine wpAny_ready (rs := [3]) (by kernel_rfl) (by simp) ?_
                refine AllReady.cons (o := { dst := some 64, op := Op.load 9 (Operand.tmp 63), type := 9, pos := "seg.go:122", after := #[{ on := 2, ground := Ground.data }], guard := none }) rfl (fun K hK => ?_) AllReady.nil
                go_simp
                refine hK _ _ ?_
                clear hK K
                try simp only [Act.put, List.setIfInBounds_toArray, List.set_cons_zero, List.set_cons_succ]
                refine wpAny_take (i := 8) (oi := { dst := some 69, op := Op.slice 9 (Operand.tmp 64) (some (Operand.const (Value.int IntKind.i64 48))) (some (Operand.tmp 68)) none, type := 9, pos := "seg.go:122", after := #[{ on := 3, ground := Ground.data }, { on := 7, ground := Ground.data }], guard := none }) (v := ?vq29) rfl (by kernel_rfl) (by kernel_rfl) (by kernel_rfl) (fun _ _ _ h => h) (Or.inl ⟨by rfl, ?hq29⟩) ?rq29
                case hq29 => intro W; go_simp; (try with_reducible rfl)
                try simp only [Act.put, List.setIfInBounds_toArray, List.set_cons_zero, List.set_cons_succ]
                refine wpAny_ready (rs := [9]) (by kernel_rfl) (by simp) ?_
                refine AllReady.cons (o := { dst := some 70, op := Op.call { callee := Callee.value (Operand.func 24), args := #[Operand.tmp 69], argTypes := #[9] }, type := 54, pos := "seg.go:122", after := #[{ on := 8, ground := Ground.data }], guard := none }) rfl (fun K hK => ?_) AllReady.nil
                go_simp
                go_wp2_with (first | (go_at_call 24; refine (HG.out _).mono ?_; rintro r w5 ⟨h1, _, b5⟩; obtain ⟨NA, nc, rfl, hnc, rd, adn⟩ := h1 rfl; have O5 := Lib.hid (O1.out.below b5); have R5 := Lib.hid (own_fr0 R1.out (Fr.b0 b5)); have RD5 := Lib.hid rd; clear b5 rd adn h1))
                refine wpAny_take (i := 10) (oi := { dst := some 60, op := Op.move (Operand.tmp 70), type := 54, pos := "seg.go:122", after := #[{ on := 9, ground := Ground.data }], guard := none }) (v := ?vq30) rfl (by kernel_rfl) (by kernel_rfl) (by kernel_rfl) (fun _ _ _ h => h) (Or.inl ⟨by rfl, ?hq30⟩) ?rq30
                case hq30 => intro W; go_simp; (try with_reducible rfl)
                try simp only [Act.put, List.setIfInBounds_toArray, List.set_cons_zero, List.set_cons_succ]
                refine wpAny_take (i := 11) (oi := { dst := some 71, op := Op.extract (Operand.tmp 60) 0, type := 49, pos := "seg.go:122", after := #[{ on := 10, ground := Ground.data }], guard := none }) (v := ?vq31) rfl (by kernel_rfl) (by kernel_rfl) (by kernel_rfl) (fun _ _ _ h => h) (Or.inl ⟨by rfl, ?hq31⟩) ?rq31
                case hq31 => intro W; go_simp; (try with_reducible rfl)
                try simp only [Act.put, List.setIfInBounds_toArray, List.set_cons_zero, List.set_cons_succ]
                refine wpAny_take (i := 12) (oi := { dst := some 72, op := Op.extract (Operand.tmp 60) 1, type := 39, pos := "seg.go:122", after := #[{ on := 10, ground := Ground.data }, { on := 13, ground := Ground.gcOnly Departure.lateStores }], guard := none }) (v := ?vq32) rfl (by kernel_rfl) (by kernel_rfl) (by kernel_rfl) (fun _ _ _ h => h) (Or.inl ⟨by rfl, ?hq32⟩) ?rq32
                case hq32 => intro W; go_simp; (try with_reducible rfl)
                try simp only [Act.put, List.setIfInBounds_toArray, List.set_cons_zero, List.set_cons_succ]
                refine wpAny_ready (rs := [13]) (by kernel_rfl) (by simp) ?_
                refine AllReady.cons (o := { dst := some 18, op := Op.assign (Operand.tmp 71), type := 49, pos := "seg.go:122", after := #[{ on := 11, ground := Ground.data }, { on := 9, ground := Ground.chain }, { on := 0, ground := Ground.phase }, { on := 1, ground := Ground.phase }, { on := 2, ground := Ground.phase }, { on := 3, ground := Ground.phase }, { on := 4, ground := Ground.phase }, { on := 5, ground := Ground.phase }, { on := 6, ground := Ground.phase }, { on := 7, ground := Ground.phase }, { on := 8, ground := Ground.phase }, { on := 9, ground := Ground.phase }, { on := 10, ground := Ground.phase }, { on := 11, ground := Ground.phase }, { on := 12, ground := Ground.textOnly Departure.lateStores }], guard := none }) rfl (fun K hK => ?_) AllReady.nil
                go_simp
                refine hK _ _ ?_
                clear hK K
                try simp only [Act.put, List.setIfInBounds_toArray, List.set_cons_zero, List.set_cons_succ]
                refine wpAny_ready (rs := [14]) (by kernel_rfl) (by simp) ?_
                refine AllReady.cons (o := { dst := some 19, op := Op.assign (Operand.tmp 72), type := 39, pos := "seg.go:122", after := #[{ on := 12, ground := Ground.data }, { on := 13, ground := Ground.chain }, { on := 0, ground := Ground.phase }, { on := 1, ground := Ground.phase }, { on := 2, ground := Ground.phase }, { on := 3, ground := Ground.phase }, { on := 4, ground := Ground.phase }, { on := 5, ground := Ground.phase }, { on := 6, ground := Ground.phase }, { on := 7, ground := Ground.phase }, { on := 8, ground := Ground.phase }, { on := 9, ground := Ground.phase }, { on := 10, ground := Ground.phase }, { on := 11, ground := Ground.phase }, { on := 12, ground := Ground.phase }, { on := 13, ground := Ground.phase }], guard := none }) rfl (fun K hK => ?_) AllReady.nil
                go_simp
                refine hK _ _ ?_
                clear hK K
                try simp only [Act.put, List.setIfInBounds_toArray, List.set_cons_zero, List.set_cons_succ]
                refine wpAny_done (by kernel_rfl) ?_ _
                clear x5 xc
                have hw5 := Lib.hid O5.out.bel.size
                go_wp2_with (at_builtin; refine wpList_app2 rfl _ _ 49 rfl 63 j0 _ 7 64 Tryz.underlying49 hj hy0 hy1 hy2 rfl (by decide) (.slice R2 m c2) m _ rfl w1.heap.size (by have := hw5.out; first | omega | (simp; omega)) R5.out NA rn nc RO rfl RD5.out hROone.out ?q1 ?q2 ?_)
                case q1 => unfold maxLen; omega
                case q2 => omega
                intro R8 c8 w8 ho8 hm8 _
                have Ho8 := Lib.hid ho8
                have Hm8 := Lib.hid hm8
                clear ho8 hm8
                go_wp2
                go_roundw
                case rel =>
                  refine ⟨q + 1, m + rn, R8, c8, by omega, by go_num, rfl, ?_, by omega, hok1.out, O5.out.mv Hm8.out⟩
                  rw [hS1.out]
                  exact Ho8.out
                case measure => simp [intOf]; omega
              exact AllReady.nil
        · obtain rfl : q = k := by omega
          have htk := take_all (l := bs) (k := q) (by rw [Hlen.out]; exact Nat.le_refl _)
          have hrow2 := Hrow.out
          rw [htk] at hrow2
          obtain ⟨RA, rc, hRA, hrc1, _, hrd⟩ := own_slice hrow2
          injection hRA with hRA1 hRA2 hRA3
          subst hRA1
          subst hRA3
          have hml := hrd.recs_len
          have HRow := Lib.hid hrow2
          have HRds : Hid (readsL bs = true) := by show _ = _; unfold readsL; rw [List.all_eq_true]; exact fun x hx => decide_eq_true (HAll.out x hx)
          have HOKS : Hid ((List.range bs.length).all (okAt id ti sh bs) = true) := by
            show _ = _
            rw [List.all_eq_true]
            exact fun j hj => hok.out j (by have := List.mem_range.1 hj; rw [Hlen.out] at this; exact this)
          have HP : Hid (∀ w', Rd w' 7 R2 m (rcells (outL bs)) → Calls Tryz.prog 36 #[.int .u64 id, .int .i64 ti, .int .i64 sh, .slice R2 m c2] w' fun r w'' => ((rightB id ti sh && segOk (outL bs)) = true → ∃ R cs, r = .returned (.tuple #[.slice R (blocksV m) cs, .int .i64 0]) ∧ w''.ownsRow w'.heap.size 9 1 (.slice R (blocksV m) cs) (blocksV m) (strs (blocksL id ti sh (outL bs)))) ∧ ((rightB id ti sh && segOk (outL bs)) = false → r = .returned (.tuple #[.slice none 0 0, .int .i64 1])) ∧ Below w'.heap.size w' w'') := fun w' h => segput_any id ti sh Hid_.out (outL bs) (outL_wf bs) _ _ _ w' h (by omega) hrc1
          have HRd := Lib.hid hrd
          have HGL : Hid (getsL id ti sh bs = ((rightB id ti sh && segOk (outL bs)) && decide (blocksL id ti sh (outL bs) = bs))) := by show _ = _; unfold getsL; rw [HRds.out, HOKS.out, Bool.true_and, Bool.true_and]
          have HBB : Hid ((blocksL id ti sh (outL bs)).length = blocksV m) := by show _ = _; rw [blocksL_len, hml]
          obtain ⟨bl, hbl⟩ : ∃ bl, blocksL id ti sh (outL bs) = bl := ⟨_, rfl⟩
          rw [hbl] at HP HGL HBB
          obtain ⟨PK, hPK⟩ : ∃ PK, (rightB id ti sh && segOk (outL bs)) = PK := ⟨_, rfl⟩
          rw [hPK] at HP HGL
          have hvb : blocksV m ≤ m := by unfold blocksV; omega
          obtain ⟨vb, hvbe⟩ : ∃ vb, blocksV m = vb := ⟨_, rfl⟩
          rw [hvbe] at HP HBB hvb
          clear htk hrow2 hrd hml hbl hPK hvbe Hrow hrc1
          go_wp2_with fail
          refine (HP.out _ HRd.out).mono ?_
          rintro r w5 ⟨h1, h2, b5⟩
          have O5 := Lib.hid (Ho.out.below b5)
          have hB5 : Hid (Below w.heap.size w w5) := HB.out.trans (O5.out.bel.mono hwr.out)
          have HA5 := Lib.hid (HA.out.below O5.out.bel)
          have HRow5 := Lib.hid (own_le (own_fr0 HRow.out (Fr.b0 b5)) hwr.out)
          have hw5 := Lib.hid (Nat.le_trans hwr.out Ho.out.bel.size)
          cases PK
          · obtain rfl := h2 rfl
            have HF : Hid (getsL id ti sh bs = false) := by show _ = _; rw [HGL.out]; rfl
            clear h1 h2 b5 Ho HRd HRow
            rcases Nat.eq_zero_or_pos q with rfl | hpos
            · go_wp2_with fail
              go_ret2
              exact ⟨rfl, hB5.out⟩
            · have hqz : ((q : Int) == 0) = false := by simp; omega
              have hqz2 : ¬ (q : Int) = 0 := by omega
              go_wp2_with fail
              go_ret2
              exact ⟨fun _ h => (by rw [HF.out] at h; cases h), fun _ _ => ⟨6, rfl, by decide, fun _ => rfl⟩, fun h => absurd h (by omega), hB5.out⟩
          · obtain ⟨RB, cb, rfl, hob⟩ := h1 rfl
            have HOb := Lib.hid (Rd.of_own hob)
            have HGL2 : Hid (getsL id ti sh bs = decide (bl = bs)) := by show _ = _; rw [HGL.out]; rfl
            clear h1 h2 b5 Ho HRd HRow hob HGL
            rcases Nat.eq_zero_or_pos q with rfl | hpos
            · go_wp2_with fail
              go_ret2
              exact ⟨rfl, hB5.out⟩
            · have hqz : ((q : Int) == 0) = false := by simp; omega
              have hqz2 : ¬ (q : Int) = 0 := by omega
              by_cases hvq : vb = q
              · subst hvq
                have hvv : ((vb : Int) != (vb : Int)) = false := bne_self_eq_false _
                go_wp2_with fail
                clear hqz hqz2 hvv
                go_loopw [101] (fun i wr => ∃ j : Nat, j ≤ vb ∧ i = .int .i64 j ∧ Hid (∀ i, i < j → bl[i]? = bs[i]?) ∧ wr = w5) (fun i _ => vb - (intOf i).toNat)
                case atStart => exact ⟨0, Nat.zero_le _, rfl, fun i hi => absurd hi (by omega), rfl⟩
                case round =>
                  obtain ⟨j, hj, rfl, hsame, rfl⟩ := hrel
                  by_cases hlt : j < vb
                  · obtain ⟨ad1, x, rfl, hx, c1⟩ := HOb.out.at_map hlt
                    obtain ⟨ad2, y, rfl, hy, c2⟩ := HA5.out.at_map hlt
                    have HX := Lib.hid hx
                    have HY := Lib.hid hy
                    by_cases hxy : x = y
                    · have hs1 : Hid (∀ i, i < j + 1 → bl[i]? = bs[i]?) := fun i hi => by
                        rcases Nat.lt_or_ge i j with h | h
                        · exact hsame.out i h
                        · obtain rfl : i = j := by omega
                          rw [HX.out, HY.out, hxy]
                      have hcmp : ((bstr x).toList != (bstr y).toList) = false := by rw [hxy]; exact bne_self_eq_false _
                      have hcmp2 : (bstr x).toList = (bstr y).toList := by rw [hxy]
                      clear hx hy hxy
                      go_wp2
                      go_roundw
                      case rel => exact ⟨j + 1, by omega, by go_num, hs1.out, by trivial⟩
                      case measure => simp [intOf]; omega
                    · have hcmp2 : ¬ (bstr x).toList = (bstr y).toList := by
                        rw [Lib.toList_data, Lib.toList_data, bstr_list, bstr_list]; exact hxy
                      have hcmp : ((bstr x).toList != (bstr y).toList) = true := by simpa using hcmp2
                      have hcmp3 : ((bstr x).toList == (bstr y).toList) = false := by simpa using hcmp2
                      have hcmp4 : ¬ bstr x = bstr y := fun e => hcmp2 (by rw [e])
                      have HF : Hid (getsL id ti sh bs = false) := by
                        show _ = _
                        rw [HGL2.out]
                        refine decide_eq_false fun e => hxy ?_
                        have h1 := HX.out
                        rw [e, HY.out] at h1
                        exact (Option.some.inj h1).symm
                      clear hx hy hxy
                      go_wp2_with fail
                      go_ret2
                      exact ⟨fun _ h => (by rw [HF.out] at h; cases h), fun _ _ => ⟨6, rfl, by decide, fun _ => rfl⟩, fun h => absurd h (by omega), hB5.out⟩
                  · obtain rfl : j = vb := by omega
                    have HT : Hid (getsL id ti sh bs = true) := by
                      show _ = _
                      rw [HGL2.out]
                      refine decide_eq_true (List.ext_getElem? fun i => ?_)
                      rcases Nat.lt_or_ge i j with h | h
                      · exact hsame.out i h
                      · rw [List.getElem?_eq_none (by rw [HBB.out]; exact h), List.getElem?_eq_none (by rw [Hlen.out]; exact h)]
                    go_wp2_with fail
                    go_ret2
                    exact ⟨fun _ _ => ⟨R2, m, c2, rfl, HRow5.out⟩, fun _ h => (by rw [HT.out] at h; cases h), fun h => absurd h (by omega), hB5.out⟩
              · have HF : Hid (getsL id ti sh bs = false) := by
                  show _ = _
                  rw [HGL2.out]
                  refine decide_eq_false fun e => hvq ?_
                  rw [← HBB.out, e, Hlen.out]
                have hvi : ¬ (vb : Int) = (q : Int) := by omega
                have hvi2 : ((vb : Int) != (q : Int)) = true := by simpa using hvi
                have hvi3 : ((vb : Int) == (q : Int)) = false := by simpa using hvi
                go_wp2_with fail
                go_ret2
                exact ⟨fun _ h => (by rw [HF.out] at h; cases h), fun _ _ => ⟨6, rfl, by decide, fun _ => rfl⟩, fun h => absurd h (by omega), hB5.out⟩
end Go.Proofs.YtkickdmiilmkoaaGreatDoor
