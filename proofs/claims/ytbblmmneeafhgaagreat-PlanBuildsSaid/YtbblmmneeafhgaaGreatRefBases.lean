/- Walk of (sedimentref10.Plan).Bases. -/
import Derived.Test.YtbblmmneeafhgaaGreatRefView
import Derived.Test.YtbblmmneeafhgaaGreatBases
import Derived.Test.YtbblmmneeafhgaaGreatTiersP
import Derived.Test.YtbblmmneeafhgaaGreatTk
namespace Go.Proofs.YtbblmmneeafhgaaGreat
set_option linter.all false
open Go.RowKit

set_option maxRecDepth 100000 in
set_option maxHeartbeats 4000000 in
theorem ref_bases_any (nm : ByteArray) (lt : List TierV) (A : Option Addr) (n c : Nat) (ss : List Int) (S : Option Addr) (d : Nat) (now : Int) (hnow : i64 now) (nmr : ByteArray) (lf : List TierV) (Ar : Option Addr) (nr cr : Nat) (fl : List Int) (B : Option Addr) (mf df : Nat) (w : World)
  (ht : Rd w 4 A n (tcells lt)) (hs : Rd w 1 S n (ints ss)) (hr : Rd w 4 Ar nr (tcells lf)) (hf : Rd w 1 B mf (ints fl)) (hwt : ∀ t ∈ lt, t.wf) (hwf : ∀ t ∈ lf, t.wf) (hwl : ∀ f ∈ fl, i64 f) (hn : n ≤ 1099511627776) (hnr : nr ≤ 1099511627776) :
  Calls Tryz.prog 122 #[planV nm A n c S n d, reachV now nmr Ar nr cr B mf df] w
   fun r w' => (∃ A' c', r = .returned (.slice A' n c') ∧ n ≤ c' ∧ Rd w' 1 A' n (ints (basesV now lf fl ss lt)) ∧ ∀ k, adF A' n k → w.heap.size ≤ k) ∧ Below w.heap.size w w' := by
 have HF : Hid (∀ (i : Int) w', Fr (fun _ => False) w w' → Calls Tryz.prog 64 #[reachV now nmr Ar nr cr B mf df, .int .i64 i] w' fun r w'' => r = .returned (.int .i64 (fromI now lf fl i)) ∧ Below w'.heap.size w' w'') :=
  fun i w' h => ref_fromI_any now hnow nmr lf Ar nr cr fl B mf df i w' (hr.fr0 h) (hf.fr0 h) hwf hnr
 have HI : Hid (∀ i, i64 (fromI now lf fl i)) := fun i => fromI_in hnow hwf hwl i
 have Ht := Lib.hid ht
 have Hs := Lib.hid hs
 have Hwt := Lib.hid hwt
 have Hlt := Lib.hid ht.tiers_len
 have Hls := Lib.hid (show ss.length = n from hs.len_map)
 clear ht hs hr hf hwt hwf hwl hnow
 have B0 := Lib.hid ((Blk.new w 85 #[.string nm, .slice A n c, .slice S n d]).alloc (.cells #[.int .i64 now, .string nmr, .slice Ar nr cr, .slice B mf df] 110))
 have B1 := Lib.hid (Blk.new' (w := w.alloc (.cells #[.string nm, .slice A n c, .slice S n d] 85)) (k := w.heap.size + 1) (by simp) 110 #[.int .i64 now, .string nmr, .slice Ar nr cr, .slice B mf df])
 have O := Lib.hid (((Own.start w).skip (Fr.none_alloc w (.cells #[.string nm, .slice A n c, .slice S n d] 85))).skip (Fr.none_alloc _ (.cells #[.int .i64 now, .string nmr, .slice Ar nr cr, .slice B mf df] 110)))
 unfold reachV at HF ⊢
 unfold planV
 obtain ⟨i0, hi, hz0, hz1, hz2⟩ := info_parts info_int
 go_enter Tryz.func122, Tryz.ntmps122
 go_wp2_with fail
 go_loopw [5, 6] (fun o i wr => ∃ (k : Nat) (R : Option Addr) (cs : Nat), k ≤ n ∧ i = .int .i64 k ∧ o = .slice R k cs ∧ Blk wr w.heap.size 85 #[.string nm, .slice A n c, .slice S n d] ∧ Blk wr (w.heap.size + 1) 110 #[.int .i64 now, .string nmr, .slice Ar nr cr, .slice B mf df] ∧ wr.ownsRow 0 3 1 (.slice R k cs) k (ints ((basesV now lf fl ss lt).take k)) ∧ Own w wr (rowF (.slice R k cs)) ) (fun _ i _ => n - (intOf i).toNat)
 case atStart => exact ⟨0, none, 0, Nat.zero_le _, rfl, rfl, B0.out, B1.out, World.ownsRow_nil _ _ _ _, O.out.also (fun k hk => by cases hk)⟩
 case round =>
  obtain ⟨k, R, cs, hk, rfl, rfl, hb0, hb1, hrow, ho⟩ := hrel
  have p0 := hb0.cell 0
  have p1 := hb0.cell 1
  have p2 := hb0.cell 2
  have q0 := hb1.cell 0
  have q1 := hb1.cell 1
  have q2 := hb1.cell 2
  have q3 := hb1.cell 3
  simp only [List.getElem?_toArray, List.getElem?_cons_succ, List.getElem?_cons_zero] at p0 p1 p2 q0 q1 q2 q3
  by_cases hlt : k < n
  ·obtain ⟨ad, x, rfl, hu, d0, te, d2, d3⟩ := (Ht.out.fr0 (Fr.b0 ho.bel)).tier hlt
   obtain ⟨sd, s, rfl, hsu, sc⟩ := (Hs.out.fr0 (Fr.b0 ho.bel)).at_map hlt
   have hn0 : ¬ rowF (.slice R k cs) w.heap.size := own_blk_ne hrow hb0 (by decide)
   have hn1 : ¬ rowF (.slice R k cs) (w.heap.size + 1) := own_blk_ne hrow hb1 (by decide)
   have hn2 : ¬ rowF (.slice R k cs) (ad.add (k * 4)).block := fun h => by
    have h1 := ho.new _ h
    have h2 := Ht.out.adlt (by decide) (ad.add (k * 4)).block ⟨by omega, ad, rfl, by rw [block_of_add]⟩
    omega
   have hn3 : ¬ rowF (.slice R k cs) (sd.add k).block := fun h => by
    have h1 := ho.new _ h
    have h2 := Hs.out.adlt (by decide) (sd.add k).block ⟨by omega, sd, rfl, by rw [block_of_add]⟩
    omega
   have HC : Hid (∀ W, Fr (rowF (.slice R k cs)) wr W → W.cell? ⟨w.heap.size, 0, none⟩ = some (.string nm) ∧ W.cell? ⟨w.heap.size, 1, none⟩ = some (.slice (some ad) n c) ∧ W.cell? ⟨w.heap.size, 2, none⟩ = some (.slice (some sd) n d) ∧ W.cell? ⟨w.heap.size + 1, 0, none⟩ = some (.int .i64 now) ∧ W.cell? ⟨w.heap.size + 1, 1, none⟩ = some (.string nmr) ∧ W.cell? ⟨w.heap.size + 1, 2, none⟩ = some (.slice Ar nr cr) ∧ W.cell? ⟨w.heap.size + 1, 3, none⟩ = some (.slice B mf df) ∧ W.cell? ⟨(ad.add (k * 4)).block, (ad.add (k * 4)).off + 1, none⟩ = some (.int .i64 x.every) ∧ W.cell? (sd.add k) = some (.int .i64 s)) := fun W f => ⟨f.cell p0 hn0, f.cell p1 hn0, f.cell p2 hn0, f.cell q0 hn1, f.cell q1 hn1, f.cell q2 hn1, f.cell q3 hn1, f.cell te hn2, f.cell sc hn3⟩
   have Hu := Lib.hid hu
   have Hsu := Lib.hid hsu
   have Ho := Lib.hid ho
   have Hb0 := Lib.hid hb0
   have Hb1 := Lib.hid hb1
   have Hrow := Lib.hid hrow
   have wx := Lib.hid (Hwt.out x (mem_of_get Hu.out))
   have HCl := Lib.hid (fun w' => rceil_any (fromI now lf fl s) x.every (HI.out s).1 (HI.out s).2 wx.out.1.1 wx.out.1.2 w')
   have Hv := Lib.hid (show (basesV now lf fl ss lt)[k]? = some (ceilV (fromI now lf fl s) x.every) by unfold basesV; rw [List.getElem?_zipWith, Hsu.out, Hu.out])
   obtain ⟨cv, hcv⟩ : ∃ cv, ceilV (fromI now lf fl s) x.every = cv := ⟨_, rfl⟩
   rw [hcv] at HCl Hv
   have HF1 : Hid (∀ W, Fr (fun _ => False) wr W → Calls Tryz.prog 64 #[.agg #[.int .i64 now, .string nmr, .slice Ar nr cr, .slice B mf df], .int .i64 s] W fun r w'' => r = .returned (.int .i64 (fromI now lf fl s)) ∧ Fr (fun _ => False) wr w'') := fun W hf => by
    refine (HF.out s W (Fr.b0 (Ho.out.skip hf).bel)).mono ?_
    rintro r w'' ⟨e, b⟩
    exact ⟨e, hf.trans (Fr.b0 b) (fun _ h => h.elim)⟩
   obtain ⟨fv, hfv⟩ : ∃ fv, fromI now lf fl s = fv := ⟨_, rfl⟩
   rw [hfv] at HF1 HCl
   have F2 : Fr (fun _ => False) wr wr.drew := (Fr.refl _ wr).drew
   have hkn : 0 ≤ (k : Int) ∧ (k : Int) < (n : Int) := by omega
   clear hu hsu ho hb0 hb1 hrow hcv hfv d0 d2 d3 wx hn0 hn1 hn2 hn3
   go_wp2_with fail
   clear p0 p1 p2 q0 q1 q2 q3 te sc
   refine wp_region_held_drew (S := fun W => Fr (rowF (.slice R k cs)) wr W) (by kernel_rfl) (F2.mono (fun _ h => h.elim)) (fun hHeld => ?_)
   refine tl 0 ⟨some 22, .move (.tmp 5), 25, _, _, none⟩ ?v1 rfl ?q1 ?r1
   case q1 => intro W hSw; go_simp; try rfl
   refine tl 1 ⟨some 23, .load 110 (.tmp 3), 110, _, _, none⟩ ?v2 rfl ?q2 ?r2
   case q2 => intro W hSw; (try obtain ⟨p0, p1, p2, q0, q1, q2, q3, te, sc⟩ := HC.out W hSw); go_simp; try rfl
   refine tl 2 ⟨some 24, .fieldAddr 85 (.tmp 2) 1, 0, _, _, none⟩ ?v3 rfl ?q3 ?r3
   case q3 => intro W hSw; go_simp; try rfl
   refine tl 3 ⟨some 25, .load 25 (.tmp 24), 25, _, _, none⟩ ?v4 rfl ?q4 ?r4
   case q4 => intro W hSw; (try obtain ⟨p0, p1, p2, q0, q1, q2, q3, te, sc⟩ := HC.out W hSw); go_simp; try rfl
   refine tl 4 ⟨some 26, .move (.tmp 6), 3, _, _, none⟩ ?v5 rfl ?q5 ?r5
   case q5 => intro W hSw; go_simp; try rfl
   refine tl 5 ⟨some 27, .indexAddr 25 (.tmp 25) (.tmp 26), 0, _, _, none⟩ ?v6 rfl ?q6 ?r6
   case q6 => intro W hSw; (try obtain ⟨p0, p1, p2, q0, q1, q2, q3, te, sc⟩ := HC.out W hSw); go_simp; try rfl
   refine tl 6 ⟨some 28, .load 3 (.tmp 27), 3, _, _, none⟩ ?v7 rfl ?q7 ?r7
   case q7 => intro W hSw; (try obtain ⟨p0, p1, p2, q0, q1, q2, q3, te, sc⟩ := HC.out W hSw); go_simp; try rfl
   refine tl 8 ⟨some 30, .fieldAddr 85 (.tmp 2) 0, 0, _, _, none⟩ ?v8 rfl ?q8 ?r8
   case q8 => intro W hSw; go_simp; try rfl
   refine tl 9 ⟨some 31, .fieldAddr 24 (.tmp 30) 1, 0, _, _, none⟩ ?v9 rfl ?q9 ?r9
   case q9 => intro W hSw; go_simp; try rfl
   refine tl 10 ⟨some 32, .load 22 (.tmp 31), 22, _, _, none⟩ ?v10 rfl ?q10 ?r10
   case q10 => intro W hSw; (try obtain ⟨p0, p1, p2, q0, q1, q2, q3, te, sc⟩ := HC.out W hSw); go_simp; try rfl
   refine tl 11 ⟨some 33, .move (.tmp 6), 3, _, _, none⟩ ?v11 rfl ?q11 ?r11
   case q11 => intro W hSw; go_simp; try rfl
   refine tl 12 ⟨some 34, .indexAddr 22 (.tmp 32) (.tmp 33), 0, _, _, none⟩ ?v12 rfl ?q12 ?r12
   case q12 => intro W hSw; (try obtain ⟨p0, p1, p2, q0, q1, q2, q3, te, sc⟩ := HC.out W hSw); go_simp; try rfl
   refine tl 13 ⟨some 35, .fieldAddr 90 (.tmp 34) 1, 0, _, _, none⟩ ?v13 rfl ?q13 ?r13
   case q13 => intro W hSw; go_simp; try rfl
   refine tl 14 ⟨some 36, .load 3 (.tmp 35), 3, _, _, none⟩ ?v14 rfl ?q14 ?r14
   case q14 => intro W hSw; (try obtain ⟨p0, p1, p2, q0, q1, q2, q3, te, sc⟩ := HC.out W hSw); go_simp; try rfl
   try simp only [Act.put, sA, sB, sC]
   refine rl 7 ⟨some 29, .call ⟨.value (.func 64), #[.tmp 23, .tmp 28], #[110, 3]⟩, 3, _, _, none⟩ rfl (fun K hK => ?_)
   go_simp
   go_wp2_with (first | (go_at_call 64; refine (HF1.out _ F2).mono ?_; rintro r w5 ⟨rfl, f5⟩))
   refine hK.out _ _ (f5.mono (fun _ h => h.elim)) (fun hHeld => ?_)
   clear hK K
   try simp only [Act.put, sA, sB, sC]
   refine rl 15 ⟨some 37, .call ⟨.value (.func 173), #[.tmp 29, .tmp 36], #[3, 3]⟩, 3, _, _, none⟩ rfl (fun K hK => ?_)
   go_simp
   go_wp2_with (first | (go_at_call 173; refine (HCl.out _).mono ?_; rintro r w6 ⟨rfl, rfl⟩))
   refine hK.out _ _ (hHeld) (fun hHeld => ?_)
   clear hK K
   try simp only [Act.put, sA, sB, sC]
   refine rl 16 ⟨some 38, .buildSlice 25 1 #[(0, .tmp 37)], 25, _, _, none⟩ rfl (fun K hK => ?_)
   go_simp
   refine hK.out _ _ (hHeld.trans (Fr.none_alloc _ _) (fun _ h => h.elim)) (fun hHeld => ?_)
   clear hK K
   try simp only [Act.put, sA, sB, sC]
   refine rl 17 ⟨some 39, .call ⟨.builtin .append, #[.tmp 22, .tmp 38], #[25, 25]⟩, 25, _, _, none⟩ rfl (fun K hK => ?_)
   rw [if_pos (by rfl)]
   have O5 := Lib.hid (Ho.out.skip f5)
   have Hr5 := Lib.hid (own_fr0 Hrow.out f5)
   have Hb05 := Lib.hid (Hb0.out.fr f5 (fun h => h))
   have Hb15 := Lib.hid (Hb1.out.fr f5 (fun h => h))
   refine op_app3 _ _ 25 rfl 3 i0 (.int .i64 0) 1 8 Tryz.underlying25 hi hz0 hz1 hz2 rfl (by decide) (.slice R k cs) k _ rfl 0 (Nat.zero_le _) (own_fr0 Hr5.out (Fr.none_alloc _ _)) (some ⟨w5.heap.size, 0, none⟩) 1 1 [.int .i64 cv] rfl (Rd.new w5 [.int .i64 cv] _ 1 rfl) (by simp [Value.oneCell']) (by unfold maxLen; omega) (by omega) (fun R6 c6 w6 ho6 hm6 _ => ?_)
   have Ho6 := Lib.hid ho6
   have Hm6 := Lib.hid hm6
   clear ho6 hm6
   refine hK.out _ _ (hHeld.trans Hm6.out.fr (fun i hi => .inl hi)) (fun hHeld => ?_)
   clear hK K
   refine tl 18 ⟨some 5, .assign (.tmp 39), 25, _, _, none⟩ ?v15 rfl ?q15 ?r15
   case q15 => intro W hSw; (try obtain ⟨p0, p1, p2, q0, q1, q2, q3, te, sc⟩ := HC.out W hSw); go_simp; try rfl
   try simp only [Act.put, sA, sB, sC]
   refine wpAnyH_done (by kernel_rfl) ?_ _
   clear hHeld
   go_wp2_with fail
   go_roundw
   case rel =>
    refine ⟨k + 1, R6, c6, by omega, by go_num, by go_num, (Hb05.out.alloc _).fr Hm6.out.fr (own_blk_ne Hr5.out Hb05.out (by decide)), (Hb15.out.alloc _).fr Hm6.out.fr (own_blk_ne Hr5.out Hb15.out (by decide)), ?_, (O5.out.skip (Fr.none_alloc _ _)).mv Hm6.out⟩
    have h := Ho6.out
    rw [take_snoc Hv.out]
    unfold ints at h ⊢
    rw [List.map_append]
    exact h
   case measure => simp [intOf]; omega
  ·obtain rfl : k = n := by omega
   have hl : (basesV now lf fl ss lt).take k = basesV now lf fl ss lt := take_all (by unfold basesV; rw [List.length_zipWith, Hls.out, Hlt.out]; omega)
   rw [hl] at hrow
   have Hrow := Lib.hid hrow
   have Ho := Lib.hid ho
   clear hb0 hb1 hrow ho hl
   go_wp2_with fail
   go_ret
   obtain ⟨S2, cs2, e, hcs, _, hrs⟩ := own_slice Hrow.out
   injection e with ea _ ec
   subst ea ec
   exact ⟨⟨R, cs, rfl, hcs, hrs, fun j hj => Ho.out.new j (adF_row j hj)⟩, Ho.out.bel⟩
end Go.Proofs.YtbblmmneeafhgaaGreat
