/- Walk of sedimentlaw23.alive. -/
import Derived.Test.YteajonicnkpbbaaGreatDoorCatGet
import Derived.Test.YteajonicnkpbbaaGreatDoorCatO
import Derived.Test.YteajonicnkpbbaaGreatDoorWeb8
import Derived.Test.YteajonicnkpbbaaGreatDoorCatSame
import Derived.Test.YteajonicnkpbbaaGreatDoorCatA
namespace Go.Proofs.YteajonicnkpbbaaGreatDoor
set_option linter.all false
open Go.RowKit

def al23 : StX := stNewQ 20 (readV web8)
theorem al23_new : stNewE 20 (readV web8) = 0 := by
 unfold stNewE
 rw [if_pos ⟨by decide, by decide⟩]
 exact web8_read
theorem al23_good : StGood al23 0 := stNew_good al23_new
theorem al23_cat : catQ (ofQ al23) = true := by decide +kernel
theorem al23_len : (putQ (ofQ al23)).length ≤ 40000 := by decide +kernel
theorem al23_is : (ofQ al23).now = 0 ∧ (ofQ al23).gen = 1 ∧ (ofQ al23).nm = { data := #[119, 101, 98] } ∧ (ofQ al23).fl.length = 2 := by decide +kernel
set_option maxRecDepth 100000 in
set_option maxHeartbeats 8000000 in
theorem alive23_any (w : World) (hmx : MaxL w) (htab : Tab w) : Calls Tryz.prog 8 #[] w fun r w' => r = .returned (.bool true) ∧ Below w.heap.size w w' := by
 have HMX := Lib.hid hmx
 have HTB := Lib.hid htab
 have HNw : Hid (Calls Tryz.prog 22 #[.int .i64 20, .string { data := #[112, 111, 108, 105, 99, 121, 32, 119, 101, 98, 10, 116, 105, 101, 114, 32, 114, 97, 119, 32, 101, 118, 101, 114, 121, 32, 49, 32, 107, 101, 101, 112, 32, 49, 48, 48, 32, 115, 104, 97, 114, 100, 115, 32, 50, 10, 116, 105, 101, 114, 32, 116, 101, 110, 115, 32, 101, 118, 101, 114, 121, 32, 49, 48, 32, 107, 101, 101, 112, 32, 49, 48, 48, 48, 32, 115, 104, 97, 114, 100, 115, 32, 49, 10] }] w fun r w' => (∃ g, r = .returned (.tuple #[.pointer (some ⟨g, 0, none⟩), .int .i64 0]) ∧ StP w' g w.heap.size al23 0) ∧ Below w.heap.size w w') := by
  refine (sp_new 20 web8 (by decide) w hmx w.heap.size (Nat.le_refl _)).mono ?_
  rintro r w' ⟨⟨h1, _⟩, hb⟩
  exact ⟨h1 al23_new, hb⟩
 clear hmx htab
 go_enter Tryz.func8, Tryz.ntmps8
 go_wp2_with fail
 refine HNw.out.mono ?_
 rintro r w1 ⟨⟨g, rfl, h1⟩, b1⟩
 have H1 := Lib.hid (cof_any al23_good (by decide) h1)
 have F1 := Lib.hid (Fr.b0 b1)
 clear h1 b1 HNw
 go_wp2_with fail
 refine H1.out.mono ?_
 rintro r w2 ⟨⟨d, a, rfl, hin, hp⟩, b2⟩
 have Hin := Lib.hid hin
 have Hp := Lib.hid hp
 have F2 : Hid (Fr (fun _ => False) w w2) := F1.out.trans (Fr.b0 b2) (fun _ h => h.elim)
 unfold catCells
 clear hin hp b2 H1 F1
 go_upto_region 3 with fail
 obtain ⟨W3, hW3⟩ : ∃ W3, W3 = w2.alloc (.cells #[.int .u64 d.gen, .int .u64 d.id, .int .i64 d.now, .string d.nm, .slice a.pA a.pn a.pc, .slice a.fA a.fn a.fc, .string d.nm2, .slice a.tA a.tn a.tc, .slice a.sA a.sn a.sc, .int .i64 d.bound, .int .i64 d.done, .slice a.eA a.en a.ec] 29) := ⟨_, rfl⟩
 rw [← hW3]
 have X3 : Blk W3 w2.heap.size 29 #[.int .u64 d.gen, .int .u64 d.id, .int .i64 d.now, .string d.nm, .slice a.pA a.pn a.pc, .slice a.fA a.fn a.fc, .string d.nm2, .slice a.tA a.tn a.tc, .slice a.sA a.sn a.sc, .int .i64 d.bound, .int .i64 d.done, .slice a.eA a.en a.ec] := by rw [hW3]; exact Blk.new _ _ _
 have F23 : Fr (fun _ => False) w2 W3 := by rw [hW3]; exact Fr.none_alloc _ _
 have F3 : Hid (Fr (fun _ => False) w W3) := F2.out.trans F23 (fun _ h => h.elim)
 have Hin3 := Lib.hid (Hin.out.fr0 F23)
 have x0 : W3.cell? ⟨w2.heap.size, 0, none⟩ = some (.int .u64 d.gen) := X3.cell 0
 have x1 : W3.cell? ⟨w2.heap.size, 1, none⟩ = some (.int .u64 d.id) := X3.cell 1
 have x2 : W3.cell? ⟨w2.heap.size, 2, none⟩ = some (.int .i64 d.now) := X3.cell 2
 have x3 : W3.cell? ⟨w2.heap.size, 3, none⟩ = some (.string d.nm) := X3.cell 3
 have x4 : W3.cell? ⟨w2.heap.size, 4, none⟩ = some (.slice a.pA a.pn a.pc) := X3.cell 4
 have x5 : W3.cell? ⟨w2.heap.size, 5, none⟩ = some (.slice a.fA a.fn a.fc) := X3.cell 5
 have x6 : W3.cell? ⟨w2.heap.size, 6, none⟩ = some (.string d.nm2) := X3.cell 6
 have x7 : W3.cell? ⟨w2.heap.size, 7, none⟩ = some (.slice a.tA a.tn a.tc) := X3.cell 7
 have x8 : W3.cell? ⟨w2.heap.size, 8, none⟩ = some (.slice a.sA a.sn a.sc) := X3.cell 8
 have x9 : W3.cell? ⟨w2.heap.size, 9, none⟩ = some (.int .i64 d.bound) := X3.cell 9
 have x10 : W3.cell? ⟨w2.heap.size, 10, none⟩ = some (.int .i64 d.done) := X3.cell 10
 have x11 : W3.cell? ⟨w2.heap.size, 11, none⟩ = some (.slice a.eA a.en a.ec) := X3.cell 11
 have HPut := Lib.hid (cput_any Hin3.out (HTB.out.below (F3.out.below (fun _ h => h.elim))))
 have hcb : catB d = true := by rw [catB_q, Hp.out]; exact al23_cat
 have hle : (putL d).length ≤ 40000 := by rw [putL_q, Hp.out]; exact al23_len
 have HG := Lib.hid (gotB.of Hin3.out.rng hcb hle)
 have hpv : putV d = (bstr (putL d), 0) := by unfold putV; rw [if_pos hcb, if_neg (by omega)]
 rw [hpv] at HPut
 obtain ⟨L, hL⟩ : ∃ L, putL d = L := ⟨_, rfl⟩
 rw [hL] at HPut HG hle
 have HLe : Hid (L.length ≤ 1099511627776) := by show _ ≤ _; omega
 clear hW3 X3 F23 hcb hle hpv hL
 go_wp2_with fail
 refine HPut.out.mono ?_
 rintro r w4 ⟨rfl, b4⟩
 have F4 : Hid (Fr (fun _ => False) w w4) := F3.out.trans (Fr.b0 b4) (fun _ h => h.elim)
 have HGet := Lib.hid (cget_any L HLe.out w4 (HMX.out.fr F4.out (fun h => h)) (HTB.out.below (F4.out.below (fun _ h => h.elim))))
 clear b4 x0 x1 x2 x3 x4 x5 x6 x7 x8 x9 x10 x11
 go_wp2_with fail
 refine HGet.out.mono ?_
 rintro r w5 ⟨hr, b5⟩
 have F5 : Hid (Fr (fun _ => False) w w5) := F4.out.trans (Fr.b0 b5) (fun _ h => h.elim)
 rcases hr with ⟨d2, a2, rfl, hg2, hq2⟩ | ⟨e, _, _, hno⟩
 rotate_left
 ·exact absurd HG.out (hno _)
 have hpp : d2.p = ofQ al23 := by rw [got_one hq2 HG.out, Hp.out]
 have hc2 : Hid (catB d2 = true) := by show _ = _; rw [catB_q, hpp]; exact al23_cat
 have e1 : d2.now = 0 := by have := congrArg CatQ.now hpp; rw [al23_is.1] at this; exact this
 have e2 : d2.gen = 1 := by have := congrArg CatQ.gen hpp; rw [al23_is.2.1] at this; exact this
 have e3 : d2.nm = { data := #[119, 101, 98] } := by have := congrArg CatQ.nm hpp; rw [al23_is.2.2.1] at this; exact this
 have e4 : a2.fn = 2 := by
  have h1 : d2.fl = (ofQ al23).fl := congrArg CatQ.fl hpp
  have h2 := hg2.lf
  rw [h1, al23_is.2.2.2] at h2
  exact h2.symm
 have HG2 := Lib.hid hg2
 have HE : Hid (d2.now = 0 ∧ d2.gen = 1 ∧ d2.nm = { data := #[119, 101, 98] } ∧ a2.fn = 2) := ⟨e1, e2, e3, e4⟩
 clear hg2 hq2 hpp b5 e1 e2 e3 e4
 unfold catCells
 go_upto_region 5 with fail
 obtain ⟨W6, hW6⟩ : ∃ W6, W6 = w5.alloc (.cells #[.int .u64 d2.gen, .int .u64 d2.id, .int .i64 d2.now, .string d2.nm, .slice a2.pA a2.pn a2.pc, .slice a2.fA a2.fn a2.fc, .string d2.nm2, .slice a2.tA a2.tn a2.tc, .slice a2.sA a2.sn a2.sc, .int .i64 d2.bound, .int .i64 d2.done, .slice a2.eA a2.en a2.ec] 29) := ⟨_, rfl⟩
 rw [← hW6]
 have X6 : Blk W6 w5.heap.size 29 #[.int .u64 d2.gen, .int .u64 d2.id, .int .i64 d2.now, .string d2.nm, .slice a2.pA a2.pn a2.pc, .slice a2.fA a2.fn a2.fc, .string d2.nm2, .slice a2.tA a2.tn a2.tc, .slice a2.sA a2.sn a2.sc, .int .i64 d2.bound, .int .i64 d2.done, .slice a2.eA a2.en a2.ec] := by rw [hW6]; exact Blk.new _ _ _
 have F56 : Fr (fun _ => False) w5 W6 := by rw [hW6]; exact Fr.none_alloc _ _
 have F6 : Hid (Fr (fun _ => False) w W6) := F5.out.trans F56 (fun _ h => h.elim)
 have HVal := Lib.hid (cvalid_any (HG2.out.cin.fr0 F56))
 rw [hc2.out] at HVal
 rw [HE.out.1, HE.out.2.1, HE.out.2.2.1, HE.out.2.2.2] at X6 HVal
 have x0 : W6.cell? ⟨w5.heap.size, 0, none⟩ = some (.int .u64 1) := X6.cell 0
 have x1 : W6.cell? ⟨w5.heap.size, 1, none⟩ = some (.int .u64 d2.id) := X6.cell 1
 have x2 : W6.cell? ⟨w5.heap.size, 2, none⟩ = some (.int .i64 0) := X6.cell 2
 have x3 : W6.cell? ⟨w5.heap.size, 3, none⟩ = some (.string { data := #[119, 101, 98] }) := X6.cell 3
 have x4 : W6.cell? ⟨w5.heap.size, 4, none⟩ = some (.slice a2.pA a2.pn a2.pc) := X6.cell 4
 have x5 : W6.cell? ⟨w5.heap.size, 5, none⟩ = some (.slice a2.fA 2 a2.fc) := X6.cell 5
 have x6 : W6.cell? ⟨w5.heap.size, 6, none⟩ = some (.string d2.nm2) := X6.cell 6
 have x7 : W6.cell? ⟨w5.heap.size, 7, none⟩ = some (.slice a2.tA a2.tn a2.tc) := X6.cell 7
 have x8 : W6.cell? ⟨w5.heap.size, 8, none⟩ = some (.slice a2.sA a2.sn a2.sc) := X6.cell 8
 have x9 : W6.cell? ⟨w5.heap.size, 9, none⟩ = some (.int .i64 d2.bound) := X6.cell 9
 have x10 : W6.cell? ⟨w5.heap.size, 10, none⟩ = some (.int .i64 d2.done) := X6.cell 10
 have x11 : W6.cell? ⟨w5.heap.size, 11, none⟩ = some (.slice a2.eA a2.en a2.ec) := X6.cell 11
 clear hW6 X6 F56
 go_wp2_with fail
 refine HVal.out.mono ?_
 rintro r w7 ⟨rfl, b7⟩
 have F7 : Hid (Fr (fun _ => False) w w7) := F6.out.trans (Fr.b0 b7) (fun _ h => h.elim)
 clear b7 x0 x1 x2 x3 x4 x5 x6 x7 x8 x9 x10 x11
 go_wp2_with fail
 go_ret
 exact ⟨rfl, F7.out.below (fun _ h => h.elim)⟩
end Go.Proofs.YteajonicnkpbbaaGreatDoor
namespace Go.Proofs.YteajonicnkpbbaaGreatDoor
set_option linter.all false
open Go.RowKit

theorem blocks_le {l : List EntV} {x : EntV} (h : x ∈ l) : x.bl.length ≤ (blocksOf l).length := by
 induction l with
 | nil => cases h
 | cons y l ih =>
  unfold blocksOf at ih ⊢
  rw [List.flatMap_cons, List.length_append]
  rcases List.mem_cons.1 h with rfl | h
  ·omega
  ·have := ih h
   omega
theorem lens_small {w : World} {c : CatV} {a : CatA} (h : CatIn w c a) (s : SmallC c) : Lens c a := by
 obtain ⟨s1, s2, s3, _, s4, _, s5, s6⟩ := s
 have h1 := h.lp
 have h2 := h.lt
 have h3 := h.lf
 have h4 := h.ls
 exact ⟨by omega, by omega, by omega, by omega, fun x hx => by have := (h.we x hx).blen; have := blocks_le hx; omega⟩
theorem put_same {c d : CatV} {pt qt : ByteArray} (hc : c.rng) (hd : d.rng) (h1 : putV c = (pt, 0)) (h2 : putV d = (qt, 0)) : (pt = qt → c.p = d.p) ∧ (c.p = d.p → pt = qt) := by
 refine ⟨fun e => ?_, fun e => ?_⟩
 ·have key : ∀ {c : CatV} {pt : ByteArray}, putV c = (pt, 0) → catB c = true ∧ pt = bstr (putL c) := fun {c pt} h => by
   unfold putV at h
   by_cases hb : catB c = true
   ·rw [if_pos hb] at h
    by_cases h4 : 40000 < (putL c).length
    ·rw [if_pos h4] at h
     exact absurd (Prod.mk.inj h).2 (by decide)
    ·rw [if_neg h4] at h
     exact ⟨hb, (Prod.mk.inj h).1.symm⟩
   ·rw [if_neg hb] at h
    exact absurd (Prod.mk.inj h).2 (by decide)
  obtain ⟨b1, e1⟩ := key h1
  obtain ⟨b2, e2⟩ := key h2
  refine put_inj hc hd b1 b2 ?_
  rw [e1, e2] at e
  have := congrArg (fun s : ByteArray => s.data.toList) e
  simpa [bstr_list] using this
 ·have := putV_q e
  rw [h1, h2] at this
  exact (Prod.mk.inj this).1
section
variable {w : World} {c d : CatV} {a b : CatA}
set_option maxRecDepth 100000 in
set_option maxHeartbeats 16000000 in
theorem capart_walk (h : CatIn w c a) (k : CatIn w d b) (hmx : MaxL w) (htab : Tab w) : Calls Tryz.prog 5 #[.agg #[.int .u64 c.gen, .int .u64 c.id, .int .i64 c.now, .string c.nm, .slice a.pA a.pn a.pc, .slice a.fA a.fn a.fc, .string c.nm2, .slice a.tA a.tn a.tc, .slice a.sA a.sn a.sc, .int .i64 c.bound, .int .i64 c.done, .slice a.eA a.en a.ec], .agg #[.int .u64 d.gen, .int .u64 d.id, .int .i64 d.now, .string d.nm, .slice b.pA b.pn b.pc, .slice b.fA b.fn b.fc, .string d.nm2, .slice b.tA b.tn b.tc, .slice b.sA b.sn b.sc, .int .i64 d.bound, .int .i64 d.done, .slice b.eA b.en b.ec]] w fun r w' => r = .returned (.bool true) ∧ Below w.heap.size w w' := by
 obtain ⟨pA, pn, pc, fA, fn, fc, tA, tn, tc, sA, sn, sc, eA, en, ec⟩ := a
 obtain ⟨pA2, pn2, pc2, fA2, fn2, fc2, tA2, tn2, tc2, sA2, sn2, sc2, eA2, en2, ec2⟩ := b
 dsimp only
 obtain ⟨W0, hW0⟩ : ∃ W0, W0 = w.alloc (.cells #[.int .u64 c.gen, .int .u64 c.id, .int .i64 c.now, .string c.nm, .slice pA pn pc, .slice fA fn fc, .string c.nm2, .slice tA tn tc, .slice sA sn sc, .int .i64 c.bound, .int .i64 c.done, .slice eA en ec] 29) := ⟨_, rfl⟩
 obtain ⟨W1, hW1⟩ : ∃ W1, W1 = W0.alloc (.cells #[.int .u64 d.gen, .int .u64 d.id, .int .i64 d.now, .string d.nm, .slice pA2 pn2 pc2, .slice fA2 fn2 fc2, .string d.nm2, .slice tA2 tn2 tc2, .slice sA2 sn2 sc2, .int .i64 d.bound, .int .i64 d.done, .slice eA2 en2 ec2] 29) := ⟨_, rfl⟩
 have HW0 := Lib.hid hW0
 have HW1 := Lib.hid hW1
 have F1 : Hid (Fr (fun _ => False) w W1) := by show Fr _ _ _; rw [hW1, hW0]; exact (Fr.none_alloc _ _).alloc _
 have X0 : Hid (Blk W1 w.heap.size 29 #[.int .u64 c.gen, .int .u64 c.id, .int .i64 c.now, .string c.nm, .slice pA pn pc, .slice fA fn fc, .string c.nm2, .slice tA tn tc, .slice sA sn sc, .int .i64 c.bound, .int .i64 c.done, .slice eA en ec]) := by show Blk _ _ _ _; rw [hW1, hW0]; exact (Blk.new _ _ _).alloc _
 have X1 : Hid (Blk W1 (w.heap.size + 1) 29 #[.int .u64 d.gen, .int .u64 d.id, .int .i64 d.now, .string d.nm, .slice pA2 pn2 pc2, .slice fA2 fn2 fc2, .string d.nm2, .slice tA2 tn2 tc2, .slice sA2 sn2 sc2, .int .i64 d.bound, .int .i64 d.done, .slice eA2 en2 ec2]) := by show Blk _ _ _ _; rw [hW1]; exact Blk.new' (by rw [hW0]; show _ = (w.heap.push _).size; rw [Array.size_push]) _ _
 have HRc := Lib.hid h.rng
 have HRd := Lib.hid k.rng
 have HLc := Lib.hid h
 have HLd := Lib.hid k
 have HSm1 := Lib.hid (fun (W : World) (f : Fr (fun _ => False) W1 W) => csmall_any ((h.fr0 F1.out).fr0 f))
 have HSm2 := Lib.hid (fun (W : World) (f : Fr (fun _ => False) W1 W) => csmall_any ((k.fr0 F1.out).fr0 f))
 have HTB := Lib.hid (fun (W : World) (f : Fr (fun _ => False) W1 W) => htab.below ((F1.out.trans f (fun _ h => h.elim)).below (fun _ h => h.elim)))
 have HP1 := Lib.hid (fun (W : World) (f : Fr (fun _ => False) W1 W) => cput_any ((h.fr0 F1.out).fr0 f) (HTB.out W f))
 have HP2 := Lib.hid (fun (W : World) (f : Fr (fun _ => False) W1 W) => cput_any ((k.fr0 F1.out).fr0 f) (HTB.out W f))
 have HSa := Lib.hid (fun (hl : Lens c ⟨pA, pn, pc, fA, fn, fc, tA, tn, tc, sA, sn, sc, eA, en, ec⟩ ∧ Lens d ⟨pA2, pn2, pc2, fA2, fn2, fc2, tA2, tn2, tc2, sA2, sn2, sc2, eA2, en2, ec2⟩) (W : World) (f : Fr (fun _ => False) W1 W) => csame_any ((h.fr0 F1.out).fr0 f) ((k.fr0 F1.out).fr0 f) hl)
 have HAl := Lib.hid (fun (W : World) (f : Fr (fun _ => False) W1 W) => alive23_any W ((hmx.fr F1.out (fun h => h)).fr f (fun h => h)) (HTB.out W f))
 clear h k hW0 hW1 hmx htab
 go_enter Tryz.func5, Tryz.ntmps5
 go_upto_region 1 with fail
 rw [← HW0.out, ← HW1.out]
 have x0 : W1.cell? ⟨w.heap.size, 0, none⟩ = some (.int .u64 c.gen) := (X0.out.fr (Fr.refl (fun _ => False) W1) (fun h => h)).cell 0
 have x1 : W1.cell? ⟨w.heap.size, 1, none⟩ = some (.int .u64 c.id) := (X0.out.fr (Fr.refl (fun _ => False) W1) (fun h => h)).cell 1
 have x2 : W1.cell? ⟨w.heap.size, 2, none⟩ = some (.int .i64 c.now) := (X0.out.fr (Fr.refl (fun _ => False) W1) (fun h => h)).cell 2
 have x3 : W1.cell? ⟨w.heap.size, 3, none⟩ = some (.string c.nm) := (X0.out.fr (Fr.refl (fun _ => False) W1) (fun h => h)).cell 3
 have x4 : W1.cell? ⟨w.heap.size, 4, none⟩ = some (.slice pA pn pc) := (X0.out.fr (Fr.refl (fun _ => False) W1) (fun h => h)).cell 4
 have x5 : W1.cell? ⟨w.heap.size, 5, none⟩ = some (.slice fA fn fc) := (X0.out.fr (Fr.refl (fun _ => False) W1) (fun h => h)).cell 5
 have x6 : W1.cell? ⟨w.heap.size, 6, none⟩ = some (.string c.nm2) := (X0.out.fr (Fr.refl (fun _ => False) W1) (fun h => h)).cell 6
 have x7 : W1.cell? ⟨w.heap.size, 7, none⟩ = some (.slice tA tn tc) := (X0.out.fr (Fr.refl (fun _ => False) W1) (fun h => h)).cell 7
 have x8 : W1.cell? ⟨w.heap.size, 8, none⟩ = some (.slice sA sn sc) := (X0.out.fr (Fr.refl (fun _ => False) W1) (fun h => h)).cell 8
 have x9 : W1.cell? ⟨w.heap.size, 9, none⟩ = some (.int .i64 c.bound) := (X0.out.fr (Fr.refl (fun _ => False) W1) (fun h => h)).cell 9
 have x10 : W1.cell? ⟨w.heap.size, 10, none⟩ = some (.int .i64 c.done) := (X0.out.fr (Fr.refl (fun _ => False) W1) (fun h => h)).cell 10
 have x11 : W1.cell? ⟨w.heap.size, 11, none⟩ = some (.slice eA en ec) := (X0.out.fr (Fr.refl (fun _ => False) W1) (fun h => h)).cell 11
 go_wp2_with fail
 refine (HSm1.out _ (Fr.refl (fun _ => False) W1)).mono ?_
 rintro r w2 ⟨⟨b1, rfl, hs1⟩, bb⟩
 have Fw2 : Hid (Fr (fun _ => False) W1 w2) := Fr.trans (Fr.refl (fun _ => False) W1) (Fr.b0 bb) (fun _ h => h.elim)
 clear bb
 clear x0 x1 x2 x3 x4 x5 x6 x7 x8 x9 x10 x11
 have Hs1 := Lib.hid hs1
 clear hs1
 cases b1
 ·go_wp2_with fail
  refine (HAl.out _ Fw2.out).mono ?_
  rintro r u9 ⟨rfl, bb⟩
  have Fu9 : Hid (Fr (fun _ => False) W1 u9) := Fr.trans Fw2.out (Fr.b0 bb) (fun _ h => h.elim)
  clear bb
  go_wp2_with fail
  go_ret
  exact ⟨rfl, (F1.out.trans Fu9.out (fun _ h => h.elim)).below (fun _ h => h.elim)⟩
 have HsA := Lib.hid (Hs1.out rfl)
 clear Hs1
 have y0 : w2.cell? ⟨w.heap.size + 1, 0, none⟩ = some (.int .u64 d.gen) := (X1.out.fr Fw2.out (fun h => h)).cell 0
 have y1 : w2.cell? ⟨w.heap.size + 1, 1, none⟩ = some (.int .u64 d.id) := (X1.out.fr Fw2.out (fun h => h)).cell 1
 have y2 : w2.cell? ⟨w.heap.size + 1, 2, none⟩ = some (.int .i64 d.now) := (X1.out.fr Fw2.out (fun h => h)).cell 2
 have y3 : w2.cell? ⟨w.heap.size + 1, 3, none⟩ = some (.string d.nm) := (X1.out.fr Fw2.out (fun h => h)).cell 3
 have y4 : w2.cell? ⟨w.heap.size + 1, 4, none⟩ = some (.slice pA2 pn2 pc2) := (X1.out.fr Fw2.out (fun h => h)).cell 4
 have y5 : w2.cell? ⟨w.heap.size + 1, 5, none⟩ = some (.slice fA2 fn2 fc2) := (X1.out.fr Fw2.out (fun h => h)).cell 5
 have y6 : w2.cell? ⟨w.heap.size + 1, 6, none⟩ = some (.string d.nm2) := (X1.out.fr Fw2.out (fun h => h)).cell 6
 have y7 : w2.cell? ⟨w.heap.size + 1, 7, none⟩ = some (.slice tA2 tn2 tc2) := (X1.out.fr Fw2.out (fun h => h)).cell 7
 have y8 : w2.cell? ⟨w.heap.size + 1, 8, none⟩ = some (.slice sA2 sn2 sc2) := (X1.out.fr Fw2.out (fun h => h)).cell 8
 have y9 : w2.cell? ⟨w.heap.size + 1, 9, none⟩ = some (.int .i64 d.bound) := (X1.out.fr Fw2.out (fun h => h)).cell 9
 have y10 : w2.cell? ⟨w.heap.size + 1, 10, none⟩ = some (.int .i64 d.done) := (X1.out.fr Fw2.out (fun h => h)).cell 10
 have y11 : w2.cell? ⟨w.heap.size + 1, 11, none⟩ = some (.slice eA2 en2 ec2) := (X1.out.fr Fw2.out (fun h => h)).cell 11
 go_wp2_with fail
 refine (HSm2.out _ Fw2.out).mono ?_
 rintro r w3 ⟨⟨b2, rfl, hs2⟩, bb⟩
 have Fw3 : Hid (Fr (fun _ => False) W1 w3) := Fr.trans Fw2.out (Fr.b0 bb) (fun _ h => h.elim)
 clear bb
 clear y0 y1 y2 y3 y4 y5 y6 y7 y8 y9 y10 y11
 have Hs2 := Lib.hid hs2
 clear hs2
 cases b2
 ·go_wp2_with fail
  refine (HAl.out _ Fw3.out).mono ?_
  rintro r u9 ⟨rfl, bb⟩
  have Fu9 : Hid (Fr (fun _ => False) W1 u9) := Fr.trans Fw3.out (Fr.b0 bb) (fun _ h => h.elim)
  clear bb
  go_wp2_with fail
  go_ret
  exact ⟨rfl, (F1.out.trans Fu9.out (fun _ h => h.elim)).below (fun _ h => h.elim)⟩
 have HsB := Lib.hid (Hs2.out rfl)
 clear Hs2
 have x0 : w3.cell? ⟨w.heap.size, 0, none⟩ = some (.int .u64 c.gen) := (X0.out.fr Fw3.out (fun h => h)).cell 0
 have x1 : w3.cell? ⟨w.heap.size, 1, none⟩ = some (.int .u64 c.id) := (X0.out.fr Fw3.out (fun h => h)).cell 1
 have x2 : w3.cell? ⟨w.heap.size, 2, none⟩ = some (.int .i64 c.now) := (X0.out.fr Fw3.out (fun h => h)).cell 2
 have x3 : w3.cell? ⟨w.heap.size, 3, none⟩ = some (.string c.nm) := (X0.out.fr Fw3.out (fun h => h)).cell 3
 have x4 : w3.cell? ⟨w.heap.size, 4, none⟩ = some (.slice pA pn pc) := (X0.out.fr Fw3.out (fun h => h)).cell 4
 have x5 : w3.cell? ⟨w.heap.size, 5, none⟩ = some (.slice fA fn fc) := (X0.out.fr Fw3.out (fun h => h)).cell 5
 have x6 : w3.cell? ⟨w.heap.size, 6, none⟩ = some (.string c.nm2) := (X0.out.fr Fw3.out (fun h => h)).cell 6
 have x7 : w3.cell? ⟨w.heap.size, 7, none⟩ = some (.slice tA tn tc) := (X0.out.fr Fw3.out (fun h => h)).cell 7
 have x8 : w3.cell? ⟨w.heap.size, 8, none⟩ = some (.slice sA sn sc) := (X0.out.fr Fw3.out (fun h => h)).cell 8
 have x9 : w3.cell? ⟨w.heap.size, 9, none⟩ = some (.int .i64 c.bound) := (X0.out.fr Fw3.out (fun h => h)).cell 9
 have x10 : w3.cell? ⟨w.heap.size, 10, none⟩ = some (.int .i64 c.done) := (X0.out.fr Fw3.out (fun h => h)).cell 10
 have x11 : w3.cell? ⟨w.heap.size, 11, none⟩ = some (.slice eA en ec) := (X0.out.fr Fw3.out (fun h => h)).cell 11
 have HLn : Hid (Lens c ⟨pA, pn, pc, fA, fn, fc, tA, tn, tc, sA, sn, sc, eA, en, ec⟩ ∧ Lens d ⟨pA2, pn2, pc2, fA2, fn2, fc2, tA2, tn2, tc2, sA2, sn2, sc2, eA2, en2, ec2⟩) := ⟨lens_small HLc.out HsA.out, lens_small HLd.out HsB.out⟩
 go_wp2_with fail
 refine (HP1.out _ Fw3.out).mono ?_
 rintro r w4 ⟨rfl, bb⟩
 have Fw4 : Hid (Fr (fun _ => False) W1 w4) := Fr.trans Fw3.out (Fr.b0 bb) (fun _ h => h.elim)
 clear bb
 clear x0 x1 x2 x3 x4 x5 x6 x7 x8 x9 x10 x11
 have y0 : w4.cell? ⟨w.heap.size + 1, 0, none⟩ = some (.int .u64 d.gen) := (X1.out.fr Fw4.out (fun h => h)).cell 0
 have y1 : w4.cell? ⟨w.heap.size + 1, 1, none⟩ = some (.int .u64 d.id) := (X1.out.fr Fw4.out (fun h => h)).cell 1
 have y2 : w4.cell? ⟨w.heap.size + 1, 2, none⟩ = some (.int .i64 d.now) := (X1.out.fr Fw4.out (fun h => h)).cell 2
 have y3 : w4.cell? ⟨w.heap.size + 1, 3, none⟩ = some (.string d.nm) := (X1.out.fr Fw4.out (fun h => h)).cell 3
 have y4 : w4.cell? ⟨w.heap.size + 1, 4, none⟩ = some (.slice pA2 pn2 pc2) := (X1.out.fr Fw4.out (fun h => h)).cell 4
 have y5 : w4.cell? ⟨w.heap.size + 1, 5, none⟩ = some (.slice fA2 fn2 fc2) := (X1.out.fr Fw4.out (fun h => h)).cell 5
 have y6 : w4.cell? ⟨w.heap.size + 1, 6, none⟩ = some (.string d.nm2) := (X1.out.fr Fw4.out (fun h => h)).cell 6
 have y7 : w4.cell? ⟨w.heap.size + 1, 7, none⟩ = some (.slice tA2 tn2 tc2) := (X1.out.fr Fw4.out (fun h => h)).cell 7
 have y8 : w4.cell? ⟨w.heap.size + 1, 8, none⟩ = some (.slice sA2 sn2 sc2) := (X1.out.fr Fw4.out (fun h => h)).cell 8
 have y9 : w4.cell? ⟨w.heap.size + 1, 9, none⟩ = some (.int .i64 d.bound) := (X1.out.fr Fw4.out (fun h => h)).cell 9
 have y10 : w4.cell? ⟨w.heap.size + 1, 10, none⟩ = some (.int .i64 d.done) := (X1.out.fr Fw4.out (fun h => h)).cell 10
 have y11 : w4.cell? ⟨w.heap.size + 1, 11, none⟩ = some (.slice eA2 en2 ec2) := (X1.out.fr Fw4.out (fun h => h)).cell 11
 obtain ⟨⟨pt, pe⟩, hpv⟩ : ∃ p, putV c = p := ⟨_, rfl⟩
 rw [hpv]
 have HPV := Lib.hid hpv
 clear hpv
 dsimp only
 go_wp2_with fail
 refine (HP2.out _ Fw4.out).mono ?_
 rintro r w5 ⟨rfl, bb⟩
 have Fw5 : Hid (Fr (fun _ => False) W1 w5) := Fr.trans Fw4.out (Fr.b0 bb) (fun _ h => h.elim)
 clear bb
 clear y0 y1 y2 y3 y4 y5 y6 y7 y8 y9 y10 y11
 obtain ⟨⟨qt, qe⟩, hqv⟩ : ∃ p, putV d = p := ⟨_, rfl⟩
 rw [hqv]
 have HQV := Lib.hid hqv
 clear hqv
 dsimp only
 by_cases hpe : pe = 0
 rotate_left
 ·have g1 : (pe != 0) = true := by simpa using hpe
  clear hpe
  go_wp2_with fail
  refine (HAl.out _ Fw5.out).mono ?_
  rintro r u9 ⟨rfl, bb⟩
  have Fu9 : Hid (Fr (fun _ => False) W1 u9) := Fr.trans Fw5.out (Fr.b0 bb) (fun _ h => h.elim)
  clear bb
  go_wp2_with fail
  go_ret
  exact ⟨rfl, (F1.out.trans Fu9.out (fun _ h => h.elim)).below (fun _ h => h.elim)⟩
 have g1 : (pe != 0) = false := by simpa using hpe
 by_cases hqe : qe = 0
 rotate_left
 ·have g2 : (qe != 0) = true := by simpa using hqe
  clear hqe hpe
  go_wp2_with fail
  refine (HAl.out _ Fw5.out).mono ?_
  rintro r u9 ⟨rfl, bb⟩
  have Fu9 : Hid (Fr (fun _ => False) W1 u9) := Fr.trans Fw5.out (Fr.b0 bb) (fun _ h => h.elim)
  clear bb
  go_wp2_with fail
  go_ret
  exact ⟨rfl, (F1.out.trans Fu9.out (fun _ h => h.elim)).below (fun _ h => h.elim)⟩
 have g2 : (qe != 0) = false := by simpa using hqe
 have HE := Lib.hid (put_same HRc.out HRd.out (by rw [HPV.out, hpe]) (by rw [HQV.out, hqe]))
 clear hpe hqe
 go_wp2_with fail
 refine (HAl.out _ Fw5.out).mono ?_
 rintro r w6 ⟨rfl, bb⟩
 have Fw6 : Hid (Fr (fun _ => False) W1 w6) := Fr.trans Fw5.out (Fr.b0 bb) (fun _ h => h.elim)
 clear bb
 have x0 : w6.cell? ⟨w.heap.size, 0, none⟩ = some (.int .u64 c.gen) := (X0.out.fr Fw6.out (fun h => h)).cell 0
 have x1 : w6.cell? ⟨w.heap.size, 1, none⟩ = some (.int .u64 c.id) := (X0.out.fr Fw6.out (fun h => h)).cell 1
 have x2 : w6.cell? ⟨w.heap.size, 2, none⟩ = some (.int .i64 c.now) := (X0.out.fr Fw6.out (fun h => h)).cell 2
 have x3 : w6.cell? ⟨w.heap.size, 3, none⟩ = some (.string c.nm) := (X0.out.fr Fw6.out (fun h => h)).cell 3
 have x4 : w6.cell? ⟨w.heap.size, 4, none⟩ = some (.slice pA pn pc) := (X0.out.fr Fw6.out (fun h => h)).cell 4
 have x5 : w6.cell? ⟨w.heap.size, 5, none⟩ = some (.slice fA fn fc) := (X0.out.fr Fw6.out (fun h => h)).cell 5
 have x6 : w6.cell? ⟨w.heap.size, 6, none⟩ = some (.string c.nm2) := (X0.out.fr Fw6.out (fun h => h)).cell 6
 have x7 : w6.cell? ⟨w.heap.size, 7, none⟩ = some (.slice tA tn tc) := (X0.out.fr Fw6.out (fun h => h)).cell 7
 have x8 : w6.cell? ⟨w.heap.size, 8, none⟩ = some (.slice sA sn sc) := (X0.out.fr Fw6.out (fun h => h)).cell 8
 have x9 : w6.cell? ⟨w.heap.size, 9, none⟩ = some (.int .i64 c.bound) := (X0.out.fr Fw6.out (fun h => h)).cell 9
 have x10 : w6.cell? ⟨w.heap.size, 10, none⟩ = some (.int .i64 c.done) := (X0.out.fr Fw6.out (fun h => h)).cell 10
 have x11 : w6.cell? ⟨w.heap.size, 11, none⟩ = some (.slice eA en ec) := (X0.out.fr Fw6.out (fun h => h)).cell 11
 have y0 : w6.cell? ⟨w.heap.size + 1, 0, none⟩ = some (.int .u64 d.gen) := (X1.out.fr Fw6.out (fun h => h)).cell 0
 have y1 : w6.cell? ⟨w.heap.size + 1, 1, none⟩ = some (.int .u64 d.id) := (X1.out.fr Fw6.out (fun h => h)).cell 1
 have y2 : w6.cell? ⟨w.heap.size + 1, 2, none⟩ = some (.int .i64 d.now) := (X1.out.fr Fw6.out (fun h => h)).cell 2
 have y3 : w6.cell? ⟨w.heap.size + 1, 3, none⟩ = some (.string d.nm) := (X1.out.fr Fw6.out (fun h => h)).cell 3
 have y4 : w6.cell? ⟨w.heap.size + 1, 4, none⟩ = some (.slice pA2 pn2 pc2) := (X1.out.fr Fw6.out (fun h => h)).cell 4
 have y5 : w6.cell? ⟨w.heap.size + 1, 5, none⟩ = some (.slice fA2 fn2 fc2) := (X1.out.fr Fw6.out (fun h => h)).cell 5
 have y6 : w6.cell? ⟨w.heap.size + 1, 6, none⟩ = some (.string d.nm2) := (X1.out.fr Fw6.out (fun h => h)).cell 6
 have y7 : w6.cell? ⟨w.heap.size + 1, 7, none⟩ = some (.slice tA2 tn2 tc2) := (X1.out.fr Fw6.out (fun h => h)).cell 7
 have y8 : w6.cell? ⟨w.heap.size + 1, 8, none⟩ = some (.slice sA2 sn2 sc2) := (X1.out.fr Fw6.out (fun h => h)).cell 8
 have y9 : w6.cell? ⟨w.heap.size + 1, 9, none⟩ = some (.int .i64 d.bound) := (X1.out.fr Fw6.out (fun h => h)).cell 9
 have y10 : w6.cell? ⟨w.heap.size + 1, 10, none⟩ = some (.int .i64 d.done) := (X1.out.fr Fw6.out (fun h => h)).cell 10
 have y11 : w6.cell? ⟨w.heap.size + 1, 11, none⟩ = some (.slice eA2 en2 ec2) := (X1.out.fr Fw6.out (fun h => h)).cell 11
 obtain ⟨eq, heq⟩ : ∃ b, (pt.toList == qt.toList) = b := ⟨_, rfl⟩
 have Heq := Lib.hid heq
 clear g1 g2
 go_wp2_with fail
 refine (HSa.out HLn.out _ Fw6.out).mono ?_
 rintro r w7 ⟨⟨sb, rfl, hsb⟩, bb⟩
 have Fw7 : Hid (Fr (fun _ => False) W1 w7) := Fr.trans Fw6.out (Fr.b0 bb) (fun _ h => h.elim)
 clear bb
 clear x0 x1 x2 x3 x4 x5 x6 x7 x8 x9 x10 x11
 clear y0 y1 y2 y3 y4 y5 y6 y7 y8 y9 y10 y11
 have hfin : sb = eq := by
  rw [← Heq.out]
  cases h1 : (pt.toList == qt.toList)
  ·cases sb
   ·rfl
   ·rw [HE.out.2 (hsb.1 rfl)] at h1
    simp at h1
  ·cases sb
   ·exact absurd (hsb.2 (HE.out.1 (toList_inj (by simpa using h1)))) (by simp)
   ·rfl
 subst hfin
 clear hsb heq
 have hbb : (sb == sb) = true := by cases sb <;> rfl
 go_wp2_with fail
 go_ret
 exact ⟨by first | rfl | simp, (F1.out.trans Fw7.out (fun _ h => h.elim)).below (fun _ h => h.elim)⟩
end
end Go.Proofs.YteajonicnkpbbaaGreatDoor
