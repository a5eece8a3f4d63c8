/- Walk of (sedimentref10.Plan).Bases. -/
import Derived.Test.YtbdhmoeadakipaaGreatRefFrom
import Derived.Test.YtbdhmoeadakipaaGreatBases
import Derived.Test.YtbdhmoeadakipaaGreatOpApp
import Derived.Maps.RangeWalk
namespace Go.Proofs.YtbdhmoeadakipaaGreat
open Go.RowKit

theorem ref_from_bad (now : Int) (nm : ByteArray) (A : Option Addr) (n c : Nat) (B : Option Addr) (m d : Nat) (i : Int) (w : World) (hi : ¬ (0 ≤ i ∧ i < (n : Int))) :
    Calls Tryz.prog 27 #[reachV now nm A n c B m d, .int .i64 i] w fun r w' => r = .returned (.int .i64 0) ∧ Below w.heap.size w w' := by
  unfold reachV
  have O := Lib.hid ((Own.start w).skip (Fr.none_alloc w (.cells #[.int .i64 now, .string nm, .slice A n c, .slice B m d] 29)))
  by_cases h : i < 0
  · go_enter Tryz.func27, Tryz.ntmps27
    go_wp2_with fail
    go_ret
    exact ⟨rfl, O.out.bel⟩
  · have h2 : (n : Int) ≤ i := by omega
    go_enter Tryz.func27, Tryz.ntmps27
    go_wp2_with fail
    go_ret
    exact ⟨rfl, O.out.bel⟩
theorem ref_fromI_any (now : Int) (hnow : i64 now) (nm : ByteArray) (l : List TierV) (A : Option Addr) (n c : Nat) (fl : List Int) (B : Option Addr) (m d : Nat) (i : Int) (w : World) (hr : Rd w 4 A n (tcells l)) (hf : Rd w 1 B m (ints fl)) (hwf : ∀ t ∈ l, t.wf) (hn : n ≤ 1099511627776) :
    Calls Tryz.prog 27 #[reachV now nm A n c B m d, .int .i64 i] w fun r w' => r = .returned (.int .i64 (fromI now l fl i)) ∧ Below w.heap.size w w' := by
  have hl := hr.tiers_len
  unfold fromI
  rw [hl]
  by_cases h : 0 ≤ i ∧ i < (n : Int)
  · rw [if_pos h]
    obtain ⟨k, rfl⟩ := Int.eq_ofNat_of_zero_le h.1
    exact ref_from_any now hnow nm l A n c fl B m d k w hr hf hwf (by omega) hn
  · rw [if_neg h]
    exact ref_from_bad now nm A n c B m d i w h

set_option maxRecDepth 100000 in
set_option maxHeartbeats 4000000 in
theorem ref_bases_any (nm : ByteArray) (lt : List TierV) (A : Option Addr) (n c : Nat) (ss : List Int) (S : Option Addr) (d : Nat) (now : Int) (hnow : i64 now) (nmr : ByteArray) (lf : List TierV) (Ar : Option Addr) (nr cr : Nat) (fl : List Int) (B : Option Addr) (mf df : Nat) (w : World)
    (ht : Rd w 4 A n (tcells lt)) (hs : Rd w 1 S n (ints ss)) (hr : Rd w 4 Ar nr (tcells lf)) (hf : Rd w 1 B mf (ints fl)) (hwt : ∀ t ∈ lt, t.wf) (hwf : ∀ t ∈ lf, t.wf) (hwl : ∀ f ∈ fl, i64 f) (hn : n ≤ 1099511627776) (hnr : nr ≤ 1099511627776) :
    Calls Tryz.prog 18 #[planV nm A n c S n d, reachV now nmr Ar nr cr B mf df] w
      fun r w' => (∃ A' c', r = .returned (.slice A' n c') ∧ n ≤ c' ∧ Rd w' 1 A' n (ints (basesV now lf fl ss lt)) ∧ ∀ k, adF A' n k → w.heap.size ≤ k) ∧ Below w.heap.size w w' := by
  have HF : Hid (∀ (i : Int) w', Fr (fun _ => False) w w' → Calls Tryz.prog 27 #[reachV now nmr Ar nr cr B mf df, .int .i64 i] w' fun r w'' => r = .returned (.int .i64 (fromI now lf fl i)) ∧ Below w'.heap.size w' w'') :=
    fun i w' h => ref_fromI_any now hnow nmr lf Ar nr cr fl B mf df i w' (hr.fr0 h) (hf.fr0 h) hwf hnr
  have HI : Hid (∀ i, i64 (fromI now lf fl i)) := fun i => fromI_in hnow hwf hwl i
  have Ht := Lib.hid ht
  have Hs := Lib.hid hs
  have Hwt := Lib.hid hwt
  have Hlt := Lib.hid ht.tiers_len
  have Hls := Lib.hid (show ss.length = n from hs.len_map)
  clear ht hs hr hf hwt hwf hwl hnow
  have B0 := Lib.hid ((Blk.new w 31 #[.string nm, .slice A n c, .slice S n d]).alloc (.cells #[.int .i64 now, .string nmr, .slice Ar nr cr, .slice B mf df] 29))
  have B1 := Lib.hid (Blk.new' (w := w.alloc (.cells #[.string nm, .slice A n c, .slice S n d] 31)) (k := w.heap.size + 1) (by simp) 29 #[.int .i64 now, .string nmr, .slice Ar nr cr, .slice B mf df])
  have O := Lib.hid (((Own.start w).skip (Fr.none_alloc w (.cells #[.string nm, .slice A n c, .slice S n d] 31))).skip (Fr.none_alloc _ (.cells #[.int .i64 now, .string nmr, .slice Ar nr cr, .slice B mf df] 29)))
  unfold reachV at HF ⊢
  unfold planV
  obtain ⟨i0, hi, hz0, hz1, hz2⟩ := info_parts info_int
  go_enter Tryz.func18, Tryz.ntmps18
  go_wp2_with fail
  go_loopw [5, 6] (fun o i wr => ∃ (k : Nat) (R : Option Addr) (cs : Nat), k ≤ n ∧ i = .int .i64 k ∧ o = .slice R k cs ∧ Blk wr w.heap.size 31 #[.string nm, .slice A n c, .slice S n d] ∧ Blk wr (w.heap.size + 1) 29 #[.int .i64 now, .string nmr, .slice Ar nr cr, .slice B mf df] ∧ wr.ownsRow 0 3 1 (.slice R k cs) k (ints ((basesV now lf fl ss lt).take k)) ∧ Own w wr (rowF (.slice R k cs)) ) (fun _ i _ => n - (intOf i).toNat)
  case atStart => exact ⟨0, none, 0, Nat.zero_le _, rfl, rfl, B0.out, B1.out, World.ownsRow_nil _ _ _ _, O.out.also (fun k hk => by cases hk)⟩
  case round =>
    obtain ⟨k, R, cs, hk, rfl, rfl, hb0, hb1, hrow, ho⟩ := hrel
    have p0 := hb0.cell 0
    have p1 := hb0.cell 1
    have p2 := hb0.cell 2
    have q0 := hb1.cell 0
    have q1 := hb1.cell 1
    have q2 := hb1.cell 2
    have q3 := hb1.cell 3
    simp only [List.getElem?_toArray, List.getElem?_cons_succ, List.getElem?_cons_zero] at p0 p1 p2 q0 q1 q2 q3
    by_cases hlt : k < n
    · obtain ⟨ad, x, rfl, hu, d0, te, d2, d3⟩ := (Ht.out.fr0 (Fr.b0 ho.bel)).tier hlt
      obtain ⟨sd, s, rfl, hsu, sc⟩ := (Hs.out.fr0 (Fr.b0 ho.bel)).at_map hlt
      have HC : Hid (∀ W, Fr (fun _ => False) wr W → W.cell? ⟨w.heap.size, 0, none⟩ = some (.string nm) ∧ W.cell? ⟨w.heap.size, 1, none⟩ = some (.slice (some ad) n c) ∧ W.cell? ⟨w.heap.size, 2, none⟩ = some (.slice (some sd) n d) ∧ W.cell? ⟨w.heap.size + 1, 0, none⟩ = some (.int .i64 now) ∧ W.cell? ⟨w.heap.size + 1, 1, none⟩ = some (.string nmr) ∧ W.cell? ⟨w.heap.size + 1, 2, none⟩ = some (.slice Ar nr cr) ∧ W.cell? ⟨w.heap.size + 1, 3, none⟩ = some (.slice B mf df) ∧ W.cell? ⟨(ad.add (k * 4)).block, (ad.add (k * 4)).off + 1, none⟩ = some (.int .i64 x.every) ∧ W.cell? (sd.add k) = some (.int .i64 s)) := fun W f => ⟨f.cell p0 (fun h => h), f.cell p1 (fun h => h), f.cell p2 (fun h => h), f.cell q0 (fun h => h), f.cell q1 (fun h => h), f.cell q2 (fun h => h), f.cell q3 (fun h => h), f.cell te (fun h => h), f.cell sc (fun h => h)⟩
      have Hu := Lib.hid hu
      have Hsu := Lib.hid hsu
      have Ho := Lib.hid ho
      have Hb0 := Lib.hid hb0
      have Hb1 := Lib.hid hb1
      have Hrow := Lib.hid hrow
      have wx := Lib.hid (Hwt.out x (mem_of_get Hu.out))
      have HCl := Lib.hid (fun w' => rceil_any (fromI now lf fl s) x.every (HI.out s).1 (HI.out s).2 wx.out.1.1 wx.out.1.2 w')
      have Hv := Lib.hid (show (basesV now lf fl ss lt)[k]? = some (ceilV (fromI now lf fl s) x.every) by unfold basesV; rw [List.getElem?_zipWith, Hsu.out, Hu.out])
      obtain ⟨cv, hcv⟩ : ∃ cv, ceilV (fromI now lf fl s) x.every = cv := ⟨_, rfl⟩
      rw [hcv] at HCl Hv
      have HF1 : Hid (∀ W, Fr (fun _ => False) wr W → Calls Tryz.prog 27 #[.agg #[.int .i64 now, .string nmr, .slice Ar nr cr, .slice B mf df], .int .i64 s] W fun r w'' => r = .returned (.int .i64 (fromI now lf fl s)) ∧ Fr (fun _ => False) wr w'') := fun W hf => by
        refine (HF.out s W (Fr.b0 (Ho.out.skip hf).bel)).mono ?_
        rintro r w'' ⟨e, b⟩
        exact ⟨e, hf.trans (Fr.b0 b) (fun _ h => h.elim)⟩
      obtain ⟨fv, hfv⟩ : ∃ fv, fromI now lf fl s = fv := ⟨_, rfl⟩
      rw [hfv] at HF1 HCl
      have F2 : Fr (fun _ => False) wr wr.drew := (Fr.refl _ wr).drew
      have hkn : 0 ≤ (k : Int) ∧ (k : Int) < (n : Int) := by omega
      clear hu hsu ho hb0 hb1 hrow hcv hfv d0 d2 d3 wx
      go_wp2_with fail
      clear p0 p1 p2 q0 q1 q2 q3 te sc
      obtain ⟨p0, p1, p2, q0, q1, q2, q3, te, sc⟩ := HC.out wr.drew F2
      refine wp_region_any (by kernel_rfl) ?_
      change wpAny _ _ _ _ _ _ _ (World.drew _)
      refine wpAny_take (i := 0) (oi := { dst := some 22, op := Op.move (Operand.tmp 5), type := 25, pos := "tiers.go:276", after := #[], guard := none }) (v := ?vq1) rfl (by kernel_rfl) (by kernel_rfl) (by kernel_rfl) (fun _ _ _ h => h) (Or.inl ⟨by rfl, ?hq1⟩) ?rq1
      case hq1 => intro W; go_simp; (try with_reducible rfl)
      try go_frame
      refine wpAny_take (i := 2) (oi := { dst := some 24, op := Op.fieldAddr 31 (Operand.tmp 2) 1, type := 0, pos := "tiers.go:276", after := #[], guard := none }) (v := ?vq2) rfl (by kernel_rfl) (by kernel_rfl) (by kernel_rfl) (fun _ _ _ h => h) (Or.inl ⟨by rfl, ?hq2⟩) ?rq2
      case hq2 => intro W; go_simp; (try with_reducible rfl)
      try go_frame
      refine wpAny_take (i := 4) (oi := { dst := some 26, op := Op.move (Operand.tmp 6), type := 3, pos := "tiers.go:276", after := #[], guard := none }) (v := ?vq3) rfl (by kernel_rfl) (by kernel_rfl) (by kernel_rfl) (fun _ _ _ h => h) (Or.inl ⟨by rfl, ?hq3⟩) ?rq3
      case hq3 => intro W; go_simp; (try with_reducible rfl)
      try go_frame
      refine wpAny_take (i := 8) (oi := { dst := some 30, op := Op.fieldAddr 31 (Operand.tmp 2) 0, type := 0, pos := "tiers.go:276", after := #[], guard := none }) (v := ?vq4) rfl (by kernel_rfl) (by kernel_rfl) (by kernel_rfl) (fun _ _ _ h => h) (Or.inl ⟨by rfl, ?hq4⟩) ?rq4
      case hq4 => intro W; go_simp; (try with_reducible rfl)
      try go_frame
      refine wpAny_take (i := 9) (oi := { dst := some 31, op := Op.fieldAddr 24 (Operand.tmp 30) 1, type := 0, pos := "tiers.go:276", after := #[{ on := 8, ground := Ground.data }], guard := none }) (v := ?vq5) rfl (by kernel_rfl) (by kernel_rfl) (by kernel_rfl) (fun _ _ _ h => h) (Or.inl ⟨by rfl, ?hq5⟩) ?rq5
      case hq5 => intro W; go_simp; (try with_reducible rfl)
      try go_frame
      refine wpAny_take (i := 11) (oi := { dst := some 33, op := Op.move (Operand.tmp 6), type := 3, pos := "tiers.go:276", after := #[], guard := none }) (v := ?vq6) rfl (by kernel_rfl) (by kernel_rfl) (by kernel_rfl) (fun _ _ _ h => h) (Or.inl ⟨by rfl, ?hq6⟩) ?rq6
      case hq6 => intro W; go_simp; (try with_reducible rfl)
      try go_frame
      refine wpAny_ready (rs := [1, 3, 10]) (by kernel_rfl) (by simp) ?_
      refine AllReady.cons (o := { dst := some 23, op := Op.load 29 (Operand.tmp 3), type := 29, pos := "tiers.go:276", after := #[], guard := none }) rfl (fun K hK => ?_) ?_
      · go_simp
        refine hK _ _ ?_
        clear hK K
        try go_frame
        refine wpAny_ready (rs := [3, 10]) (by kernel_rfl) (by simp) ?_
        refine AllReady.cons (o := { dst := some 25, op := Op.load 25 (Operand.tmp 24), type := 25, pos := "tiers.go:276", after := #[{ on := 2, ground := Ground.data }], guard := none }) rfl (fun K hK => ?_) ?_
        · go_simp
          refine hK _ _ ?_
          clear hK K
          try go_frame
          refine wpAny_take (i := 5) (oi := { dst := some 27, op := Op.indexAddr 25 (Operand.tmp 25) (Operand.tmp 26), type := 0, pos := "tiers.go:276", after := #[{ on := 3, ground := Ground.data }, { on := 4, ground := Ground.data }], guard := none }) (v := ?vq7) rfl (by kernel_rfl) (by kernel_rfl) (by kernel_rfl) (fun _ _ _ h => h) (Or.inl ⟨by rfl, ?hq7⟩) ?rq7
          case hq7 => intro W; go_simp; (try with_reducible rfl)
          try go_frame
          refine wpAny_ready (rs := [6, 10]) (by kernel_rfl) (by simp) ?_
          refine AllReady.cons (o := { dst := some 28, op := Op.load 3 (Operand.tmp 27), type := 3, pos := "tiers.go:276", after := #[{ on := 5, ground := Ground.data }], guard := none }) rfl (fun K hK => ?_) ?_
          · go_simp
            refine hK _ _ ?_
            clear hK K
            try go_frame
            refine wpAny_ready (rs := [7, 10]) (by kernel_rfl) (by simp) ?_
            refine AllReady.cons (o := { dst := some 29, op := Op.call { callee := Callee.value (Operand.func 27), args := #[Operand.tmp 23, Operand.tmp 28], argTypes := #[29, 3] }, type := 3, pos := "tiers.go:276", after := #[{ on := 1, ground := Ground.data }, { on := 6, ground := Ground.data }], guard := none }) rfl (fun K hK => ?_) ?_
            · go_simp
              go_wp2_with (first | (go_at_call 27; refine (HF1.out _ F2).mono ?_; rintro r w5 ⟨rfl, f5⟩; obtain ⟨p0, p1, p2, q0, q1, q2, q3, te, sc⟩ := HC.out w5 f5))
              try go_frame
              refine wpAny_ready (rs := [10]) (by kernel_rfl) (by simp) ?_
              refine AllReady.cons (o := { dst := some 32, op := Op.load 22 (Operand.tmp 31), type := 22, pos := "tiers.go:276", after := #[{ on := 9, ground := Ground.data }], guard := none }) rfl (fun K hK => ?_) AllReady.nil
              go_simp
              refine hK _ _ ?_
              clear hK K
              try go_frame
              refine wpAny_take (i := 12) (oi := { dst := some 34, op := Op.indexAddr 22 (Operand.tmp 32) (Operand.tmp 33), type := 0, pos := "tiers.go:276", after := #[{ on := 10, ground := Ground.data }, { on := 11, ground := Ground.data }], guard := none }) (v := ?vq8) rfl (by kernel_rfl) (by kernel_rfl) (by kernel_rfl) (fun _ _ _ h => h) (Or.inl ⟨by rfl, ?hq8⟩) ?rq8
              case hq8 => intro W; go_simp; (try with_reducible rfl)
              try go_frame
              refine wpAny_take (i := 13) (oi := { dst := some 35, op := Op.fieldAddr 69 (Operand.tmp 34) 1, type := 0, pos := "tiers.go:276", after := #[{ on := 12, ground := Ground.data }], guard := none }) (v := ?vq9) rfl (by kernel_rfl) (by kernel_rfl) (by kernel_rfl) (fun _ _ _ h => h) (Or.inl ⟨by rfl, ?hq9⟩) ?rq9
              case hq9 => intro W; go_simp; (try with_reducible rfl)
              try go_frame
              refine wpAny_ready (rs := [14]) (by kernel_rfl) (by simp) ?_
              refine AllReady.cons (o := { dst := some 36, op := Op.load 3 (Operand.tmp 35), type := 3, pos := "tiers.go:276", after := #[{ on := 13, ground := Ground.data }], guard := none }) rfl (fun K hK => ?_) AllReady.nil
              go_simp
              refine hK _ _ ?_
              clear hK K
              try go_frame
              refine wpAny_ready (rs := [15]) (by kernel_rfl) (by simp) ?_
              refine AllReady.cons (o := { dst := some 37, op := Op.call { callee := Callee.value (Operand.func 37), args := #[Operand.tmp 29, Operand.tmp 36], argTypes := #[3, 3] }, type := 3, pos := "tiers.go:276", after := #[{ on := 7, ground := Ground.data }, { on := 14, ground := Ground.data }, { on := 7, ground := Ground.chain }], guard := none }) rfl (fun K hK => ?_) AllReady.nil
              go_simp
              go_wp2_with (first | (go_at_call 37; refine (HCl.out _).mono ?_; rintro r w6 ⟨rfl, rfl⟩))
              refine wpAny_ready (rs := [16]) (by kernel_rfl) (by simp) ?_
              refine AllReady.cons (o := { dst := some 38, op := Op.buildSlice 25 1 #[(0, Operand.tmp 37)], type := 25, pos := "tiers.go:276", after := #[{ on := 15, ground := Ground.data }], guard := none }) rfl (fun K hK => ?_) AllReady.nil
              go_simp
              refine hK _ _ ?_
              clear hK K
              try go_frame
              refine wpAny_ready (rs := [17]) (by kernel_rfl) (by simp) ?_
              refine AllReady.cons (o := { dst := some 39, op := Op.call { callee := Callee.builtin Builtin.append, args := #[Operand.tmp 22, Operand.tmp 38], argTypes := #[25, 25] }, type := 25, pos := "tiers.go:276", after := #[{ on := 0, ground := Ground.data }, { on := 16, ground := Ground.data }, { on := 15, ground := Ground.chain }], guard := none }) rfl (fun K hK => ?_) AllReady.nil
              rw [if_pos (by rfl)]
              have O5 := Lib.hid (Ho.out.skip f5)
              have Hr5 := Lib.hid (own_fr0 Hrow.out f5)
              have Hb05 := Lib.hid (Hb0.out.fr f5 (fun h => h))
              have Hb15 := Lib.hid (Hb1.out.fr f5 (fun h => h))
              refine op_app3 _ _ 25 rfl 3 i0 (.int .i64 0) 1 8 Tryz.underlying25 hi hz0 hz1 hz2 rfl (by decide) (.slice R k cs) k _ rfl 0 (Nat.zero_le _) (own_fr0 Hr5.out (Fr.none_alloc _ _)) (some ⟨w5.heap.size, 0, none⟩) 1 1 [.int .i64 cv] rfl (Rd.new w5 [.int .i64 cv] _ 1 rfl) (by simp [Value.oneCell']) (by unfold maxLen; omega) (by omega) (fun R6 c6 w6 ho6 hm6 _ => ?_)
              have Ho6 := Lib.hid ho6
              have Hm6 := Lib.hid hm6
              clear ho6 hm6
              refine hK _ _ ?_
              clear hK K
              try go_frame
              refine wpAny_ready (rs := [18]) (by kernel_rfl) (by simp) ?_
              refine AllReady.cons (o := { dst := some 5, op := Op.assign (Operand.tmp 39), type := 25, pos := "tiers.go:276", after := #[{ on := 17, ground := Ground.data }, { on := 17, ground := Ground.chain }, { on := 0, ground := Ground.phase }, { on := 1, ground := Ground.phase }, { on := 2, ground := Ground.phase }, { on := 3, ground := Ground.phase }, { on := 4, ground := Ground.phase }, { on := 5, ground := Ground.phase }, { on := 6, ground := Ground.phase }, { on := 7, ground := Ground.phase }, { on := 8, ground := Ground.phase }, { on := 9, ground := Ground.phase }, { on := 10, ground := Ground.phase }, { on := 11, ground := Ground.phase }, { on := 12, ground := Ground.phase }, { on := 13, ground := Ground.phase }, { on := 14, ground := Ground.phase }, { on := 15, ground := Ground.phase }, { on := 16, ground := Ground.phase }, { on := 17, ground := Ground.phase }], guard := none }) rfl (fun K hK => ?_) AllReady.nil
              go_simp
              refine hK _ _ ?_
              clear hK K
              try go_frame
              refine wpAny_done (by kernel_rfl) ?_ _
              go_wp2
              go_roundw
              case rel =>
                refine ⟨k + 1, R6, c6, by omega, by go_num, by go_num, (Hb05.out.alloc _).fr Hm6.out.fr (own_blk_ne Hr5.out Hb05.out (by decide)), (Hb15.out.alloc _).fr Hm6.out.fr (own_blk_ne Hr5.out Hb15.out (by decide)), ?_, (O5.out.skip (Fr.none_alloc _ _)).mv Hm6.out⟩
                have h := Ho6.out
                rw [take_snoc Hv.out]
                unfold ints at h ⊢
                rw [List.map_append]
                exact h
              case measure => simp [intOf]; omega
            refine AllReady.cons (o := { dst := some 32, op := Op.load 22 (Operand.tmp 31), type := 22, pos := "tiers.go:276", after := #[{ on := 9, ground := Ground.data }], guard := none }) rfl (fun K hK => ?_) ?_
            · go_simp
              refine hK _ _ ?_
              clear hK K
              try go_frame
              refine wpAny_take (i := 12) (oi := { dst := some 34, op := Op.indexAddr 22 (Operand.tmp 32) (Operand.tmp 33), type := 0, pos := "tiers.go:276", after := #[{ on := 10, ground := Ground.data }, { on := 11, ground := Ground.data }], guard := none }) (v := ?vq10) rfl (by kernel_rfl) (by kernel_rfl) (by kernel_rfl) (fun _ _ _ h => h) (Or.inl ⟨by rfl, ?hq10⟩) ?rq10
              case hq10 => intro W; go_simp; (try with_reducible rfl)
              try go_frame
              refine wpAny_take (i := 13) (oi := { dst := some 35, op := Op.fieldAddr 69 (Operand.tmp 34) 1, type := 0, pos := "tiers.go:276", after := #[{ on := 12, ground := Ground.data }], guard := none }) (v := ?vq11) rfl (by kernel_rfl) (by kernel_rfl) (by kernel_rfl) (fun _ _ _ h => h) (Or.inl ⟨by rfl, ?hq11⟩) ?rq11
              case hq11 => intro W; go_simp; (try with_reducible rfl)
              try go_frame
              refine wpAny_ready (rs := [7, 14]) (by kernel_rfl) (by simp) ?_
              refine AllReady.cons (o := { dst := some 29, op := Op.call { callee := Callee.value (Operand.func 27), args := #[Operand.tmp 23, Operand.tmp 28], argTypes := #[29, 3] }, type := 3, pos := "tiers.go:276", after := #[{ on := 1, ground := Ground.data }, { on := 6, ground := Ground.data }], guard := none }) rfl (fun K hK => ?_) ?_
              · go_simp
                go_wp2_with (first | (go_at_call 27; refine (HF1.out _ F2).mono ?_; rintro r w5 ⟨rfl, f5⟩; obtain ⟨p0, p1, p2, q0, q1, q2, q3, te, sc⟩ := HC.out w5 f5))
                try go_frame
                refine wpAny_ready (rs := [14]) (by kernel_rfl) (by simp) ?_
                refine AllReady.cons (o := { dst := some 36, op := Op.load 3 (Operand.tmp 35), type := 3, pos := "tiers.go:276", after := #[{ on := 13, ground := Ground.data }], guard := none }) rfl (fun K hK => ?_) AllReady.nil
                go_simp
                refine hK _ _ ?_
                clear hK K
                try go_frame
                refine wpAny_ready (rs := [15]) (by kernel_rfl) (by simp) ?_
                refine AllReady.cons (o := { dst := some 37, op := Op.call { callee := Callee.value (Operand.func 37), args := #[Operand.tmp 29, Operand.tmp 36], argTypes := #[3, 3] }, type := 3, pos := "tiers.go:276", after := #[{ on := 7, ground := Ground.data }, { on := 14, ground := Ground.data }, { on := 7, ground := Ground.chain }], guard := none }) rfl (fun K hK => ?_) AllReady.nil
                go_simp
                go_wp2_with (first | (go_at_call 37; refine (HCl.out _).mono ?_; rintro r w6 ⟨rfl, rfl⟩))
                refine wpAny_ready (rs := [16]) (by kernel_rfl) (by simp) ?_
                refine AllReady.cons (o := { dst := some 38, op := Op.buildSlice 25 1 #[(0, Operand.tmp 37)], type := 25, pos := "tiers.go:276", after := #[{ on := 15, ground := Ground.data }], guard := none }) rfl (fun K hK => ?_) AllReady.nil
                go_simp
                refine hK _ _ ?_
                clear hK K
                try go_frame
                refine wpAny_ready (rs := [17]) (by kernel_rfl) (by simp) ?_
                refine AllReady.cons (o := { dst := some 39, op := Op.call { callee := Callee.builtin Builtin.append, args := #[Operand.tmp 22, Operand.tmp 38], argTypes := #[25, 25] }, type := 25, pos := "tiers.go:276", after := #[{ on := 0, ground := Ground.data }, { on := 16, ground := Ground.data }, { on := 15, ground := Ground.chain }], guard := none }) rfl (fun K hK => ?_) AllReady.nil
                rw [if_pos (by rfl)]
                have O5 := Lib.hid (Ho.out.skip f5)
                have Hr5 := Lib.hid (own_fr0 Hrow.out f5)
                have Hb05 := Lib.hid (Hb0.out.fr f5 (fun h => h))
                have Hb15 := Lib.hid (Hb1.out.fr f5 (fun h => h))
                refine op_app3 _ _ 25 rfl 3 i0 (.int .i64 0) 1 8 Tryz.underlying25 hi hz0 hz1 hz2 rfl (by decide) (.slice R k cs) k _ rfl 0 (Nat.zero_le _) (own_fr0 Hr5.out (Fr.none_alloc _ _)) (some ⟨w5.heap.size, 0, none⟩) 1 1 [.int .i64 cv] rfl (Rd.new w5 [.int .i64 cv] _ 1 rfl) (by simp [Value.oneCell']) (by unfold maxLen; omega) (by omega) (fun R6 c6 w6 ho6 hm6 _ => ?_)
                have Ho6 := Lib.hid ho6
                have Hm6 := Lib.hid hm6
                clear ho6 hm6
                refine hK _ _ ?_
                clear hK K
                try go_frame
                refine wpAny_ready (rs := [18]) (by kernel_rfl) (by simp) ?_
                refine AllReady.cons (o := { dst := some 5, op := Op.assign (Operand.tmp 39), type := 25, pos := "tiers.go:276", after := #[{ on := 17, ground := Ground.data }, { on := 17, ground := Ground.chain }, { on := 0, ground := Ground.phase }, { on := 1, ground := Ground.phase }, { on := 2, ground := Ground.phase }, { on := 3, ground := Ground.phase }, { on := 4, ground := Ground.phase }, { on := 5, ground := Ground.phase }, { on := 6, ground := Ground.phase }, { on := 7, ground := Ground.phase }, { on := 8, ground := Ground.phase }, { on := 9, ground := Ground.phase }, { on := 10, ground := Ground.phase }, { on := 11, ground := Ground.phase }, { on := 12, ground := Ground.phase }, { on := 13, ground := Ground.phase }, { on := 14, ground := Ground.phase }, { on := 15, ground := Ground.phase }, { on := 16, ground := Ground.phase }, { on := 17, ground := Ground.phase }], guard := none }) rfl (fun K hK => ?_) AllReady.nil
                go_simp
                refine hK _ _ ?_
                clear hK K
                try go_frame
                refine wpAny_done (by kernel_rfl) ?_ _
                go_wp2
                go_roundw
                case rel =>
                  refine ⟨k + 1, R6, c6, by omega, by go_num, by go_num, (Hb05.out.alloc _).fr Hm6.out.fr (own_blk_ne Hr5.out Hb05.out (by decide)), (Hb15.out.alloc _).fr Hm6.out.fr (own_blk_ne Hr5.out Hb15.out (by decide)), ?_, (O5.out.skip (Fr.none_alloc _ _)).mv Hm6.out⟩
                  have h := Ho6.out
                  rw [take_snoc Hv.out]
                  unfold ints at h ⊢
                  rw [List.map_append]
                  exact h
                case measure => simp [intOf]; omega
              refine AllReady.cons (o := { dst := some 36, op := Op.load 3 (Operand.tmp 35), type := 3, pos := "tiers.go:276", after := #[{ on := 13, ground := Ground.data }], guard := none }) rfl (fun K hK => ?_) ?_
              · go_simp
                refine hK _ _ ?_
                clear hK K
                try go_frame
                refine wpAny_ready (rs := [7]) (by kernel_rfl) (by simp) ?_
                refine AllReady.cons (o := { dst := some 29, op := Op.call { callee := Callee.value (Operand.func 27), args := #[Operand.tmp 23, Operand.tmp 28], argTypes := #[29, 3] }, type := 3, pos := "tiers.go:276", after := #[{ on := 1, ground := Ground.data }, { on := 6, ground := Ground.data }], guard := none }) rfl (fun K hK => ?_) AllReady.nil
                go_simp
                go_wp2_with (first | (go_at_call 27; refine (HF1.out _ F2).mono ?_; rintro r w5 ⟨rfl, f5⟩; obtain ⟨p0, p1, p2, q0, q1, q2, q3, te, sc⟩ := HC.out w5 f5))
                refine wpAny_ready (rs := [15]) (by kernel_rfl) (by simp) ?_
                refine AllReady.cons (o := { dst := some 37, op := Op.call { callee := Callee.value (Operand.func 37), args := #[Operand.tmp 29, Operand.tmp 36], argTypes := #[3, 3] }, type := 3, pos := "tiers.go:276", after := #[{ on := 7, ground := Ground.data }, { on := 14, ground := Ground.data }, { on := 7, ground := Ground.chain }], guard := none }) rfl (fun K hK => ?_) AllReady.nil
                go_simp
                go_wp2_with (first | (go_at_call 37; refine (HCl.out _).mono ?_; rintro r w6 ⟨rfl, rfl⟩))
                refine wpAny_ready (rs := [16]) (by kernel_rfl) (by simp) ?_
                refine AllReady.cons (o := { dst := some 38, op := Op.buildSlice 25 1 #[(0, Operand.tmp 37)], type := 25, pos := "tiers.go:276", after := #[{ on := 15, ground := Ground.data }], guard := none }) rfl (fun K hK => ?_) AllReady.nil
                go_simp
                refine hK _ _ ?_
                clear hK K
                try go_frame
                refine wpAny_ready (rs := [17]) (by kernel_rfl) (by simp) ?_
                refine AllReady.cons (o := { dst := some 39, op := Op.call { callee := Callee.builtin Builtin.append, args := #[Operand.tmp 22, Operand.tmp 38], argTypes := #[25, 25] }, type := 25, pos := "tiers.go:276", after := #[{ on := 0, ground := Ground.data }, { on := 16, ground := Ground.data }, { on := 15, ground := Ground.chain }], guard := none }) rfl (fun K hK => ?_) AllReady.nil
                rw [if_pos (by rfl)]
                have O5 := Lib.hid (Ho.out.skip f5)
                have Hr5 := Lib.hid (own_fr0 Hrow.out f5)
                have Hb05 := Lib.hid (Hb0.out.fr f5 (fun h => h))
                have Hb15 := Lib.hid (Hb1.out.fr f5 (fun h => h))
                refine op_app3 _ _ 25 rfl 3 i0 (.int .i64 0) 1 8 Tryz.underlying25 hi hz0 hz1 hz2 rfl (by decide) (.slice R k cs) k _ rfl 0 (Nat.zero_le _) (own_fr0 Hr5.out (Fr.none_alloc _ _)) (some ⟨w5.heap.size, 0, none⟩) 1 1 [.int .i64 cv] rfl (Rd.new w5 [.int .i64 cv] _ 1 rfl) (by simp [Value.oneCell']) (by unfold maxLen; omega) (by omega) (fun R6 c6 w6 ho6 hm6 _ => ?_)
                have Ho6 := Lib.hid ho6
                have Hm6 := Lib.hid hm6
                clear ho6 hm6
                refine hK _ _ ?_
                clear hK K
                try go_frame
                refine wpAny_ready (rs := [18]) (by kernel_rfl) (by simp) ?_
                refine AllReady.cons (o := { dst := some 5, op := Op.assign (Operand.tmp 39), type := 25, pos := "tiers.go:276", after := #[{ on := 17, ground := Ground.data }, { on := 17, ground := Ground.chain }, { on := 0, ground := Ground.phase }, { on := 1, ground := Ground.phase }, { on := 2, ground := Ground.phase }, { on := 3, ground := Ground.phase }, { on := 4, ground := Ground.phase }, { on := 5, ground := Ground.phase }, { on := 6, ground := Ground.phase }, { on := 7, ground := Ground.phase }, { on := 8, ground := Ground.phase }, { on := 9, ground := Ground.phase }, { on := 10, ground := Ground.phase }, { on := 11, ground := Ground.phase }, { on := 12, ground := Ground.phase }, { on := 13, ground := Ground.phase }, { on := 14, ground := Ground.phase }, { on := 15, ground := Ground.phase }, { on := 16, ground := Ground.phase }, { on := 17, ground := Ground.phase }], guard := none }) rfl (fun K hK => ?_) AllReady.nil
                go_simp
                refine hK _ _ ?_
                clear hK K
                try go_frame
                refine wpAny_done (by kernel_rfl) ?_ _
                go_wp2
                go_roundw
                case rel =>
                  refine ⟨k + 1, R6, c6, by omega, by go_num, by go_num, (Hb05.out.alloc _).fr Hm6.out.fr (own_blk_ne Hr5.out Hb05.out (by decide)), (Hb15.out.alloc _).fr Hm6.out.fr (own_blk_ne Hr5.out Hb15.out (by decide)), ?_, (O5.out.skip (Fr.none_alloc _ _)).mv Hm6.out⟩
                  have h := Ho6.out
                  rw [take_snoc Hv.out]
                  unfold ints at h ⊢
                  rw [List.map_append]
                  exact h
                case measure => simp [intOf]; omega
              exact AllReady.nil
            exact AllReady.nil
          refine AllReady.cons (o := { dst := some 32, op := Op.load 22 (Operand.tmp 31), type := 22, pos := "tiers.go:276", after := #[{ on := 9, ground := Ground.data }], guard := none }) rfl (fun K hK => ?_) ?_
          · go_simp
            refine hK _ _ ?_
            clear hK K
            try go_frame
            refine wpAny_take (i := 12) (oi := { dst := some 34, op := Op.indexAddr 22 (Operand.tmp 32) (Operand.tmp 33), type := 0, pos := "tiers.go:276", after := #[{ on := 10, ground := Ground.data }, { on := 11, ground := Ground.data }], guard := none }) (v := ?vq12) rfl (by kernel_rfl) (by kernel_rfl) (by kernel_rfl) (fun _ _ _ h => h) (Or.inl ⟨by rfl, ?hq12⟩) ?rq12
            case hq12 => intro W; go_simp; (try with_reducible rfl)
            try go_frame
            refine wpAny_take (i := 13) (oi := { dst := some 35, op := Op.fieldAddr 69 (Operand.tmp 34) 1, type := 0, pos := "tiers.go:276", after := #[{ on := 12, ground := Ground.data }], guard := none }) (v := ?vq13) rfl (by kernel_rfl) (by kernel_rfl) (by kernel_rfl) (fun _ _ _ h => h) (Or.inl ⟨by rfl, ?hq13⟩) ?rq13
            case hq13 => intro W; go_simp; (try with_reducible rfl)
            try go_frame
            refine wpAny_ready (rs := [6, 14]) (by kernel_rfl) (by simp) ?_
            refine AllReady.cons (o := { dst := some 28, op := Op.load 3 (Operand.tmp 27), type := 3, pos := "tiers.go:276", after := #[{ on := 5, ground := Ground.data }], guard := none }) rfl (fun K hK => ?_) ?_
            · go_simp
              refine hK _ _ ?_
              clear hK K
              try go_frame
              refine wpAny_ready (rs := [7, 14]) (by kernel_rfl) (by simp) ?_
              refine AllReady.cons (o := { dst := some 29, op := Op.call { callee := Callee.value (Operand.func 27), args := #[Operand.tmp 23, Operand.tmp 28], argTypes := #[29, 3] }, type := 3, pos := "tiers.go:276", after := #[{ on := 1, ground := Ground.data }, { on := 6, ground := Ground.data }], guard := none }) rfl (fun K hK => ?_) ?_
              · go_simp
                go_wp2_with (first | (go_at_call 27; refine (HF1.out _ F2).mono ?_; rintro r w5 ⟨rfl, f5⟩; obtain ⟨p0, p1, p2, q0, q1, q2, q3, te, sc⟩ := HC.out w5 f5))
                try go_frame
                refine wpAny_ready (rs := [14]) (by kernel_rfl) (by simp) ?_
                refine AllReady.cons (o := { dst := some 36, op := Op.load 3 (Operand.tmp 35), type := 3, pos := "tiers.go:276", after := #[{ on := 13, ground := Ground.data }], guard := none }) rfl (fun K hK => ?_) AllReady.nil
                go_simp
                refine hK _ _ ?_
                clear hK K
                try go_frame
                refine wpAny_ready (rs := [15]) (by kernel_rfl) (by simp) ?_
                refine AllReady.cons (o := { dst := some 37, op := Op.call { callee := Callee.value (Operand.func 37), args := #[Operand.tmp 29, Operand.tmp 36], argTypes := #[3, 3] }, type := 3, pos := "tiers.go:276", after := #[{ on := 7, ground := Ground.data }, { on := 14, ground := Ground.data }, { on := 7, ground := Ground.chain }], guard := none }) rfl (fun K hK => ?_) AllReady.nil
                go_simp
                go_wp2_with (first | (go_at_call 37; refine (HCl.out _).mono ?_; rintro r w6 ⟨rfl, rfl⟩))
                refine wpAny_ready (rs := [16]) (by kernel_rfl) (by simp) ?_
                refine AllReady.cons (o := { dst := some 38, op := Op.buildSlice 25 1 #[(0, Operand.tmp 37)], type := 25, pos := "tiers.go:276", after := #[{ on := 15, ground := Ground.data }], guard := none }) rfl (fun K hK => ?_) AllReady.nil
                go_simp
                refine hK _ _ ?_
                clear hK K
                try go_frame
                refine wpAny_ready (rs := [17]) (by kernel_rfl) (by simp) ?_
                refine AllReady.cons (o := { dst := some 39, op := Op.call { callee := Callee.builtin Builtin.append, args := #[Operand.tmp 22, Operand.tmp 38], argTypes := #[25, 25] }, type := 25, pos := "tiers.go:276", after := #[{ on := 0, ground := Ground.data }, { on := 16, ground := Ground.data }, { on := 15, ground := Ground.chain }], guard := none }) rfl (fun K hK => ?_) AllReady.nil
                rw [if_pos (by rfl)]
                have O5 := Lib.hid (Ho.out.skip f5)
                have Hr5 := Lib.hid (own_fr0 Hrow.out f5)
                have Hb05 := Lib.hid (Hb0.out.fr f5 (fun h => h))
                have Hb15 := Lib.hid (Hb1.out.fr f5 (fun h => h))
                refine op_app3 _ _ 25 rfl 3 i0 (.int .i64 0) 1 8 Tryz.underlying25 hi hz0 hz1 hz2 rfl (by decide) (.slice R k cs) k _ rfl 0 (Nat.zero_le _) (own_fr0 Hr5.out (Fr.none_alloc _ _)) (some ⟨w5.heap.size, 0, none⟩) 1 1 [.int .i64 cv] rfl (Rd.new w5 [.int .i64 cv] _ 1 rfl) (by simp [Value.oneCell']) (by unfold maxLen; omega) (by omega) (fun R6 c6 w6 ho6 hm6 _ => ?_)
                have Ho6 := Lib.hid ho6
                have Hm6 := Lib.hid hm6
                clear ho6 hm6
                refine hK _ _ ?_
                clear hK K
                try go_frame
                refine wpAny_ready (rs := [18]) (by kernel_rfl) (by simp) ?_
                refine AllReady.cons (o := { dst := some 5, op := Op.assign (Operand.tmp 39), type := 25, pos := "tiers.go:276", after := #[{ on := 17, ground := Ground.data }, { on := 17, ground := Ground.chain }, { on := 0, ground := Ground.phase }, { on := 1, ground := Ground.phase }, { on := 2, ground := Ground.phase }, { on := 3, ground := Ground.phase }, { on := 4, ground := Ground.phase }, { on := 5, ground := Ground.phase }, { on := 6, ground := Ground.phase }, { on := 7, ground := Ground.phase }, { on := 8, ground := Ground.phase }, { on := 9, ground := Ground.phase }, { on := 10, ground := Ground.phase }, { on := 11, ground := Ground.phase }, { on := 12, ground := Ground.phase }, { on := 13, ground := Ground.phase }, { on := 14, ground := Ground.phase }, { on := 15, ground := Ground.phase }, { on := 16, ground := Ground.phase }, { on := 17, ground := Ground.phase }], guard := none }) rfl (fun K hK => ?_) AllReady.nil
                go_simp
                refine hK _ _ ?_
                clear hK K
                try go_frame
                refine wpAny_done (by kernel_rfl) ?_ _
                go_wp2
                go_roundw
                case rel =>
                  refine ⟨k + 1, R6, c6, by omega, by go_num, by go_num, (Hb05.out.alloc _).fr Hm6.out.fr (own_blk_ne Hr5.out Hb05.out (by decide)), (Hb15.out.alloc _).fr Hm6.out.fr (own_blk_ne Hr5.out Hb15.out (by decide)), ?_, (O5.out.skip (Fr.none_alloc _ _)).mv Hm6.out⟩
                  have h := Ho6.out
                  rw [take_snoc Hv.out]
                  unfold ints at h ⊢
                  rw [List.map_append]
                  exact h
                case measure => simp [intOf]; omega
              refine AllReady.cons (o := { dst := some 36, op := Op.load 3 (Operand.tmp 35), type := 3, pos := "tiers.go:276", after := #[{ on := 13, ground := Ground.data }], guard := none }) rfl (fun K hK => ?_) ?_
              · go_simp
                refine hK _ _ ?_
                clear hK K
                try go_frame
                refine wpAny_ready (rs := [7]) (by kernel_rfl) (by simp) ?_
                refine AllReady.cons (o := { dst := some 29, op := Op.call { callee := Callee.value (Operand.func 27), args := #[Operand.tmp 23, Operand.tmp 28], argTypes := #[29, 3] }, type := 3, pos := "tiers.go:276", after := #[{ on := 1, ground := Ground.data }, { on := 6, ground := Ground.data }], guard := none }) rfl (fun K hK => ?_) AllReady.nil
                go_simp
                go_wp2_with (first | (go_at_call 27; refine (HF1.out _ F2).mono ?_; rintro r w5 ⟨rfl, f5⟩; obtain ⟨p0, p1, p2, q0, q1, q2, q3, te, sc⟩ := HC.out w5 f5))
                refine wpAny_ready (rs := [15]) (by kernel_rfl) (by simp) ?_
                refine AllReady.cons (o := { dst := some 37, op := Op.call { callee := Callee.value (Operand.func 37), args := #[Operand.tmp 29, Operand.tmp 36], argTypes := #[3, 3] }, type := 3, pos := "tiers.go:276", after := #[{ on := 7, ground := Ground.data }, { on := 14, ground := Ground.data }, { on := 7, ground := Ground.chain }], guard := none }) rfl (fun K hK => ?_) AllReady.nil
                go_simp
                go_wp2_with (first | (go_at_call 37; refine (HCl.out _).mono ?_; rintro r w6 ⟨rfl, rfl⟩))
                refine wpAny_ready (rs := [16]) (by kernel_rfl) (by simp) ?_
                refine AllReady.cons (o := { dst := some 38, op := Op.buildSlice 25 1 #[(0, Operand.tmp 37)], type := 25, pos := "tiers.go:276", after := #[{ on := 15, ground := Ground.data }], guard := none }) rfl (fun K hK => ?_) AllReady.nil
                go_simp
                refine hK _ _ ?_
                clear hK K
                try go_frame
                refine wpAny_ready (rs := [17]) (by kernel_rfl) (by simp) ?_
                refine AllReady.cons (o := { dst := some 39, op := Op.call { callee := Callee.builtin Builtin.append, args := #[Operand.tmp 22, Operand.tmp 38], argTypes := #[25, 25] }, type := 25, pos := "tiers.go:276", after := #[{ on := 0, ground := Ground.data }, { on := 16, ground := Ground.data }, { on := 15, ground := Ground.chain }], guard := none }) rfl (fun K hK => ?_) AllReady.nil
                rw [if_pos (by rfl)]
                have O5 := Lib.hid (Ho.out.skip f5)
                have Hr5 := Lib.hid (own_fr0 Hrow.out f5)
                have Hb05 := Lib.hid (Hb0.out.fr f5 (fun h => h))
                have Hb15 := Lib.hid (Hb1.out.fr f5 (fun h => h))
                refine op_app3 _ _ 25 rfl 3 i0 (.int .i64 0) 1 8 Tryz.underlying25 hi hz0 hz1 hz2 rfl (by decide) (.slice R k cs) k _ rfl 0 (Nat.zero_le _) (own_fr0 Hr5.out (Fr.none_alloc _ _)) (some ⟨w5.heap.size, 0, none⟩) 1 1 [.int .i64 cv] rfl (Rd.new w5 [.int .i64 cv] _ 1 rfl) (by simp [Value.oneCell']) (by unfold maxLen; omega) (by omega) (fun R6 c6 w6 ho6 hm6 _ => ?_)
                have Ho6 := Lib.hid ho6
                have Hm6 := Lib.hid hm6
                clear ho6 hm6
                refine hK _ _ ?_
                clear hK K
                try go_frame
                refine wpAny_ready (rs := [18]) (by kernel_rfl) (by simp) ?_
                refine AllReady.cons (o := { dst := some 5, op := Op.assign (Operand.tmp 39), type := 25, pos := "tiers.go:276", after := #[{ on := 17, ground := Ground.data }, { on := 17, ground := Ground.chain }, { on := 0, ground := Ground.phase }, { on := 1, ground := Ground.phase }, { on := 2, ground := Ground.phase }, { on := 3, ground := Ground.phase }, { on := 4, ground := Ground.phase }, { on := 5, ground := Ground.phase }, { on := 6, ground := Ground.phase }, { on := 7, ground := Ground.phase }, { on := 8, ground := Ground.phase }, { on := 9, ground := Ground.phase }, { on := 10, ground := Ground.phase }, { on := 11, ground := Ground.phase }, { on := 12, ground := Ground.phase }, { on := 13, ground := Ground.phase }, { on := 14, ground := Ground.phase }, { on := 15, ground := Ground.phase }, { on := 16, ground := Ground.phase }, { on := 17, ground := Ground.phase }], guard := none }) rfl (fun K hK => ?_) AllReady.nil
                go_simp
                refine hK _ _ ?_
                clear hK K
                try go_frame
                refine wpAny_done (by kernel_rfl) ?_ _
                go_wp2
                go_roundw
                case rel =>
                  refine ⟨k + 1, R6, c6, by omega, by go_num, by go_num, (Hb05.out.alloc _).fr Hm6.out.fr (own_blk_ne Hr5.out Hb05.out (by decide)), (Hb15.out.alloc _).fr Hm6.out.fr (own_blk_ne Hr5.out Hb15.out (by decide)), ?_, (O5.out.skip (Fr.none_alloc _ _)).mv Hm6.out⟩
                  have h := Ho6.out
                  rw [take_snoc Hv.out]
                  unfold ints at h ⊢
                  rw [List.map_append]
                  exact h
                case measure => simp [intOf]; omega
              exact AllReady.nil
            refine AllReady.cons (o := { dst := some 36, op := Op.load 3 (Operand.tmp 35), type := 3, pos := "tiers.go:276", after := #[{ on := 13, ground := Ground.data }], guard := none }) rfl (fun K hK => ?_) ?_
            · go_simp
              refine hK _ _ ?_
              clear hK K
              try go_frame
              refine wpAny_ready (rs := [6]) (by kernel_rfl) (by simp) ?_
              refine AllReady.cons (o := { dst := some 28, op := Op.load 3 (Operand.tmp 27), type := 3, pos := "tiers.go:276", after := #[{ on := 5, ground := Ground.data }], guard := none }) rfl (fun K hK => ?_) AllReady.nil
              go_simp
              refine hK _ _ ?_
              clear hK K
              try go_frame
              refine wpAny_ready (rs := [7]) (by kernel_rfl) (by simp) ?_
              refine AllReady.cons (o := { dst := some 29, op := Op.call { callee := Callee.value (Operand.func 27), args := #[Operand.tmp 23, Operand.tmp 28], argTypes := #[29, 3] }, type := 3, pos := "tiers.go:276", after := #[{ on := 1, ground := Ground.data }, { on := 6, ground := Ground.data }], guard := none }) rfl (fun K hK => ?_) AllReady.nil
              go_simp
              go_wp2_with (first | (go_at_call 27; refine (HF1.out _ F2).mono ?_; rintro r w5 ⟨rfl, f5⟩; obtain ⟨p0, p1, p2, q0, q1, q2, q3, te, sc⟩ := HC.out w5 f5))
              refine wpAny_ready (rs := [15]) (by kernel_rfl) (by simp) ?_
              refine AllReady.cons (o := { dst := some 37, op := Op.call { callee := Callee.value (Operand.func 37), args := #[Operand.tmp 29, Operand.tmp 36], argTypes := #[3, 3] }, type := 3, pos := "tiers.go:276", after := #[{ on := 7, ground := Ground.data }, { on := 14, ground := Ground.data }, { on := 7, ground := Ground.chain }], guard := none }) rfl (fun K hK => ?_) AllReady.nil
              go_simp
              go_wp2_with (first | (go_at_call 37; refine (HCl.out _).mono ?_; rintro r w6 ⟨rfl, rfl⟩))
              refine wpAny_ready (rs := [16]) (by kernel_rfl) (by simp) ?_
              refine AllReady.cons (o := { dst := some 38, op := Op.buildSlice 25 1 #[(0, Operand.tmp 37)], type := 25, pos := "tiers.go:276", after := #[{ on := 15, ground := Ground.data }], guard := none }) rfl (fun K hK => ?_) AllReady.nil
              go_simp
              refine hK _ _ ?_
              clear hK K
              try go_frame
              refine wpAny_ready (rs := [17]) (by kernel_rfl) (by simp) ?_
              refine AllReady.cons (o := { dst := some 39, op := Op.call { callee := Callee.builtin Builtin.append, args := #[Operand.tmp 22, Operand.tmp 38], argTypes := #[25, 25] }, type := 25, pos := "tiers.go:276", after := #[{ on := 0, ground := Ground.data }, { on := 16, ground := Ground.data }, { on := 15, ground := Ground.chain }], guard := none }) rfl (fun K hK => ?_) AllReady.nil
              rw [if_pos (by rfl)]
              have O5 := Lib.hid (Ho.out.skip f5)
              have Hr5 := Lib.hid (own_fr0 Hrow.out f5)
              have Hb05 := Lib.hid (Hb0.out.fr f5 (fun h => h))
              have Hb15 := Lib.hid (Hb1.out.fr f5 (fun h => h))
              refine op_app3 _ _ 25 rfl 3 i0 (.int .i64 0) 1 8 Tryz.underlying25 hi hz0 hz1 hz2 rfl (by decide) (.slice R k cs) k _ rfl 0 (Nat.zero_le _) (own_fr0 Hr5.out (Fr.none_alloc _ _)) (some ⟨w5.heap.size, 0, none⟩) 1 1 [.int .i64 cv] rfl (Rd.new w5 [.int .i64 cv] _ 1 rfl) (by simp [Value.oneCell']) (by unfold maxLen; omega) (by omega) (fun R6 c6 w6 ho6 hm6 _ => ?_)
              have Ho6 := Lib.hid ho6
              have Hm6 := Lib.hid hm6
              clear ho6 hm6
              refine hK _ _ ?_
              clear hK K
              try go_frame
              refine wpAny_ready (rs := [18]) (by kernel_rfl) (by simp) ?_
              refine AllReady.cons (o := { dst := some 5, op := Op.assign (Operand.tmp 39), type := 25, pos := "tiers.go:276", after := #[{ on := 17, ground := Ground.data }, { on := 17, ground := Ground.chain }, { on := 0, ground := Ground.phase }, { on := 1, ground := Ground.phase }, { on := 2, ground := Ground.phase }, { on := 3, ground := Ground.phase }, { on := 4, ground := Ground.phase }, { on := 5, ground := Ground.phase }, { on := 6, ground := Ground.phase }, { on := 7, ground := Ground.phase }, { on := 8, ground := Ground.phase }, { on := 9, ground := Ground.phase }, { on := 10, ground := Ground.phase }, { on := 11, ground := Ground.phase }, { on := 12, ground := Ground.phase }, { on := 13, ground := Ground.phase }, { on := 14, ground := Ground.phase }, { on := 15, ground := Ground.phase }, { on := 16, ground := Ground.phase }, { on := 17, ground := Ground.phase }], guard := none }) rfl (fun K hK => ?_) AllReady.nil
              go_simp
              refine hK _ _ ?_
              clear hK K
              try go_frame
              refine wpAny_done (by kernel_rfl) ?_ _
              go_wp2
              go_roundw
              case rel =>
                refine ⟨k + 1, R6, c6, by omega, by go_num, by go_num, (Hb05.out.alloc _).fr Hm6.out.fr (own_blk_ne Hr5.out Hb05.out (by decide)), (Hb15.out.alloc _).fr Hm6.out.fr (own_blk_ne Hr5.out Hb15.out (by decide)), ?_, (O5.out.skip (Fr.none_alloc _ _)).mv Hm6.out⟩
                have h := Ho6.out
                rw [take_snoc Hv.out]
                unfold ints at h ⊢
                rw [List.map_append]
                exact h
              case measure => simp [intOf]; omega
            exact AllReady.nil
          exact AllReady.nil
        refine AllReady.cons (o := { dst := some 32, op := Op.load 22 (Operand.tmp 31), type := 22, pos := "tiers.go:276", after := #[{ on := 9, ground := Ground.data }], guard := none }) rfl (fun K hK => ?_) ?_
        · go_simp
          refine hK _ _ ?_
          clear hK K
          try go_frame
          refine wpAny_take (i := 12) (oi := { dst := some 34, op := Op.indexAddr 22 (Operand.tmp 32) (Operand.tmp 33), type := 0, pos := "tiers.go:276", after := #[{ on := 10, ground := Ground.data }, { on := 11, ground := Ground.data }], guard := none }) (v := ?vq14) rfl (by kernel_rfl) (by kernel_rfl) (by kernel_rfl) (fun _ _ _ h => h) (Or.inl ⟨by rfl, ?hq14⟩) ?rq14
          case hq14 => intro W; go_simp; (try with_reducible rfl)
          try go_frame
          refine wpAny_take (i := 13) (oi := { dst := some 35, op := Op.fieldAddr 69 (Operand.tmp 34) 1, type := 0, pos := "tiers.go:276", after := #[{ on := 12, ground := Ground.data }], guard := none }) (v := ?vq15) rfl (by kernel_rfl) (by kernel_rfl) (by kernel_rfl) (fun _ _ _ h => h) (Or.inl ⟨by rfl, ?hq15⟩) ?rq15
          case hq15 => intro W; go_simp; (try with_reducible rfl)
          try go_frame
          refine wpAny_ready (rs := [3, 14]) (by kernel_rfl) (by simp) ?_
          refine AllReady.cons (o := { dst := some 25, op := Op.load 25 (Operand.tmp 24), type := 25, pos := "tiers.go:276", after := #[{ on := 2, ground := Ground.data }], guard := none }) rfl (fun K hK => ?_) ?_
          · go_simp
            refine hK _ _ ?_
            clear hK K
            try go_frame
            refine wpAny_take (i := 5) (oi := { dst := some 27, op := Op.indexAddr 25 (Operand.tmp 25) (Operand.tmp 26), type := 0, pos := "tiers.go:276", after := #[{ on := 3, ground := Ground.data }, { on := 4, ground := Ground.data }], guard := none }) (v := ?vq16) rfl (by kernel_rfl) (by kernel_rfl) (by kernel_rfl) (fun _ _ _ h => h) (Or.inl ⟨by rfl, ?hq16⟩) ?rq16
            case hq16 => intro W; go_simp; (try with_reducible rfl)
            try go_frame
            refine wpAny_ready (rs := [6, 14]) (by kernel_rfl) (by simp) ?_
            refine AllReady.cons (o := { dst := some 28, op := Op.load 3 (Operand.tmp 27), type := 3, pos := "tiers.go:276", after := #[{ on := 5, ground := Ground.data }], guard := none }) rfl (fun K hK => ?_) ?_
            · go_simp
              refine hK _ _ ?_
              clear hK K
              try go_frame
              refine wpAny_ready (rs := [7, 14]) (by kernel_rfl) (by simp) ?_
              refine AllReady.cons (o := { dst := some 29, op := Op.call { callee := Callee.value (Operand.func 27), args := #[Operand.tmp 23, Operand.tmp 28], argTypes := #[29, 3] }, type := 3, pos := "tiers.go:276", after := #[{ on := 1, ground := Ground.data }, { on := 6, ground := Ground.data }], guard := none }) rfl (fun K hK => ?_) ?_
              · go_simp
                go_wp2_with (first | (go_at_call 27; refine (HF1.out _ F2).mono ?_; rintro r w5 ⟨rfl, f5⟩; obtain ⟨p0, p1, p2, q0, q1, q2, q3, te, sc⟩ := HC.out w5 f5))
                try go_frame
                refine wpAny_ready (rs := [14]) (by kernel_rfl) (by simp) ?_
                refine AllReady.cons (o := { dst := some 36, op := Op.load 3 (Operand.tmp 35), type := 3, pos := "tiers.go:276", after := #[{ on := 13, ground := Ground.data }], guard := none }) rfl (fun K hK => ?_) AllReady.nil
                go_simp
                refine hK _ _ ?_
                clear hK K
                try go_frame
                refine wpAny_ready (rs := [15]) (by kernel_rfl) (by simp) ?_
                refine AllReady.cons (o := { dst := some 37, op := Op.call { callee := Callee.value (Operand.func 37), args := #[Operand.tmp 29, Operand.tmp 36], argTypes := #[3, 3] }, type := 3, pos := "tiers.go:276", after := #[{ on := 7, ground := Ground.data }, { on := 14, ground := Ground.data }, { on := 7, ground := Ground.chain }], guard := none }) rfl (fun K hK => ?_) AllReady.nil
                go_simp
                go_wp2_with (first | (go_at_call 37; refine (HCl.out _).mono ?_; rintro r w6 ⟨rfl, rfl⟩))
                refine wpAny_ready (rs := [16]) (by kernel_rfl) (by simp) ?_
                refine AllReady.cons (o := { dst := some 38, op := Op.buildSlice 25 1 #[(0, Operand.tmp 37)], type := 25, pos := "tiers.go:276", after := #[{ on := 15, ground := Ground.data }], guard := none }) rfl (fun K hK => ?_) AllReady.nil
                go_simp
                refine hK _ _ ?_
                clear hK K
                try go_frame
                refine wpAny_ready (rs := [17]) (by kernel_rfl) (by simp) ?_
                refine AllReady.cons (o := { dst := some 39, op := Op.call { callee := Callee.builtin Builtin.append, args := #[Operand.tmp 22, Operand.tmp 38], argTypes := #[25, 25] }, type := 25, pos := "tiers.go:276", after := #[{ on := 0, ground := Ground.data }, { on := 16, ground := Ground.data }, { on := 15, ground := Ground.chain }], guard := none }) rfl (fun K hK => ?_) AllReady.nil
                rw [if_pos (by rfl)]
                have O5 := Lib.hid (Ho.out.skip f5)
                have Hr5 := Lib.hid (own_fr0 Hrow.out f5)
                have Hb05 := Lib.hid (Hb0.out.fr f5 (fun h => h))
                have Hb15 := Lib.hid (Hb1.out.fr f5 (fun h => h))
                refine op_app3 _ _ 25 rfl 3 i0 (.int .i64 0) 1 8 Tryz.underlying25 hi hz0 hz1 hz2 rfl (by decide) (.slice R k cs) k _ rfl 0 (Nat.zero_le _) (own_fr0 Hr5.out (Fr.none_alloc _ _)) (some ⟨w5.heap.size, 0, none⟩) 1 1 [.int .i64 cv] rfl (Rd.new w5 [.int .i64 cv] _ 1 rfl) (by simp [Value.oneCell']) (by unfold maxLen; omega) (by omega) (fun R6 c6 w6 ho6 hm6 _ => ?_)
                have Ho6 := Lib.hid ho6
                have Hm6 := Lib.hid hm6
                clear ho6 hm6
                refine hK _ _ ?_
                clear hK K
                try go_frame
                refine wpAny_ready (rs := [18]) (by kernel_rfl) (by simp) ?_
                refine AllReady.cons (o := { dst := some 5, op := Op.assign (Operand.tmp 39), type := 25, pos := "tiers.go:276", after := #[{ on := 17, ground := Ground.data }, { on := 17, ground := Ground.chain }, { on := 0, ground := Ground.phase }, { on := 1, ground := Ground.phase }, { on := 2, ground := Ground.phase }, { on := 3, ground := Ground.phase }, { on := 4, ground := Ground.phase }, { on := 5, ground := Ground.phase }, { on := 6, ground := Ground.phase }, { on := 7, ground := Ground.phase }, { on := 8, ground := Ground.phase }, { on := 9, ground := Ground.phase }, { on := 10, ground := Ground.phase }, { on := 11, ground := Ground.phase }, { on := 12, ground := Ground.phase }, { on := 13, ground := Ground.phase }, { on := 14, ground := Ground.phase }, { on := 15, ground := Ground.phase }, { on := 16, ground := Ground.phase }, { on := 17, ground := Ground.phase }], guard := none }) rfl (fun K hK => ?_) AllReady.nil
                go_simp
                refine hK _ _ ?_
                clear hK K
                try go_frame
                refine wpAny_done (by kernel_rfl) ?_ _
                go_wp2
                go_roundw
                case rel =>
                  refine ⟨k + 1, R6, c6, by omega, by go_num, by go_num, (Hb05.out.alloc _).fr Hm6.out.fr (own_blk_ne Hr5.out Hb05.out (by decide)), (Hb15.out.alloc _).fr Hm6.out.fr (own_blk_ne Hr5.out Hb15.out (by decide)), ?_, (O5.out.skip (Fr.none_alloc _ _)).mv Hm6.out⟩
                  have h := Ho6.out
                  rw [take_snoc Hv.out]
                  unfold ints at h ⊢
                  rw [List.map_append]
                  exact h
                case measure => simp [intOf]; omega
              refine AllReady.cons (o := { dst := some 36, op := Op.load 3 (Operand.tmp 35), type := 3, pos := "tiers.go:276", after := #[{ on := 13, ground := Ground.data }], guard := none }) rfl (fun K hK => ?_) ?_
              · go_simp
                refine hK _ _ ?_
                clear hK K
                try go_frame
                refine wpAny_ready (rs := [7]) (by kernel_rfl) (by simp) ?_
                refine AllReady.cons (o := { dst := some 29, op := Op.call { callee := Callee.value (Operand.func 27), args := #[Operand.tmp 23, Operand.tmp 28], argTypes := #[29, 3] }, type := 3, pos := "tiers.go:276", after := #[{ on := 1, ground := Ground.data }, { on := 6, ground := Ground.data }], guard := none }) rfl (fun K hK => ?_) AllReady.nil
                go_simp
                go_wp2_with (first | (go_at_call 27; refine (HF1.out _ F2).mono ?_; rintro r w5 ⟨rfl, f5⟩; obtain ⟨p0, p1, p2, q0, q1, q2, q3, te, sc⟩ := HC.out w5 f5))
                refine wpAny_ready (rs := [15]) (by kernel_rfl) (by simp) ?_
                refine AllReady.cons (o := { dst := some 37, op := Op.call { callee := Callee.value (Operand.func 37), args := #[Operand.tmp 29, Operand.tmp 36], argTypes := #[3, 3] }, type := 3, pos := "tiers.go:276", after := #[{ on := 7, ground := Ground.data }, { on := 14, ground := Ground.data }, { on := 7, ground := Ground.chain }], guard := none }) rfl (fun K hK => ?_) AllReady.nil
                go_simp
                go_wp2_with (first | (go_at_call 37; refine (HCl.out _).mono ?_; rintro r w6 ⟨rfl, rfl⟩))
                refine wpAny_ready (rs := [16]) (by kernel_rfl) (by simp) ?_
                refine AllReady.cons (o := { dst := some 38, op := Op.buildSlice 25 1 #[(0, Operand.tmp 37)], type := 25, pos := "tiers.go:276", after := #[{ on := 15, ground := Ground.data }], guard := none }) rfl (fun K hK => ?_) AllReady.nil
                go_simp
                refine hK _ _ ?_
                clear hK K
                try go_frame
                refine wpAny_ready (rs := [17]) (by kernel_rfl) (by simp) ?_
                refine AllReady.cons (o := { dst := some 39, op := Op.call { callee := Callee.builtin Builtin.append, args := #[Operand.tmp 22, Operand.tmp 38], argTypes := #[25, 25] }, type := 25, pos := "tiers.go:276", after := #[{ on := 0, ground := Ground.data }, { on := 16, ground := Ground.data }, { on := 15, ground := Ground.chain }], guard := none }) rfl (fun K hK => ?_) AllReady.nil
                rw [if_pos (by rfl)]
                have O5 := Lib.hid (Ho.out.skip f5)
                have Hr5 := Lib.hid (own_fr0 Hrow.out f5)
                have Hb05 := Lib.hid (Hb0.out.fr f5 (fun h => h))
                have Hb15 := Lib.hid (Hb1.out.fr f5 (fun h => h))
                refine op_app3 _ _ 25 rfl 3 i0 (.int .i64 0) 1 8 Tryz.underlying25 hi hz0 hz1 hz2 rfl (by decide) (.slice R k cs) k _ rfl 0 (Nat.zero_le _) (own_fr0 Hr5.out (Fr.none_alloc _ _)) (some ⟨w5.heap.size, 0, none⟩) 1 1 [.int .i64 cv] rfl (Rd.new w5 [.int .i64 cv] _ 1 rfl) (by simp [Value.oneCell']) (by unfold maxLen; omega) (by omega) (fun R6 c6 w6 ho6 hm6 _ => ?_)
                have Ho6 := Lib.hid ho6
                have Hm6 := Lib.hid hm6
                clear ho6 hm6
                refine hK _ _ ?_
                clear hK K
                try go_frame
                refine wpAny_ready (rs := [18]) (by kernel_rfl) (by simp) ?_
                refine AllReady.cons (o := { dst := some 5, op := Op.assign (Operand.tmp 39), type := 25, pos := "tiers.go:276", after := #[{ on := 17, ground := Ground.data }, { on := 17, ground := Ground.chain }, { on := 0, ground := Ground.phase }, { on := 1, ground := Ground.phase }, { on := 2, ground := Ground.phase }, { on := 3, ground := Ground.phase }, { on := 4, ground := Ground.phase }, { on := 5, ground := Ground.phase }, { on := 6, ground := Ground.phase }, { on := 7, ground := Ground.phase }, { on := 8, ground := Ground.phase }, { on := 9, ground := Ground.phase }, { on := 10, ground := Ground.phase }, { on := 11, ground := Ground.phase }, { on := 12, ground := Ground.phase }, { on := 13, ground := Ground.phase }, { on := 14, ground := Ground.phase }, { on := 15, ground := Ground.phase }, { on := 16, ground := Ground.phase }, { on := 17, ground := Ground.phase }], guard := none }) rfl (fun K hK => ?_) AllReady.nil
                go_simp
                refine hK _ _ ?_
                clear hK K
                try go_frame
                refine wpAny_done (by kernel_rfl) ?_ _
                go_wp2
                go_roundw
                case rel =>
                  refine ⟨k + 1, R6, c6, by omega, by go_num, by go_num, (Hb05.out.alloc _).fr Hm6.out.fr (own_blk_ne Hr5.out Hb05.out (by decide)), (Hb15.out.alloc _).fr Hm6.out.fr (own_blk_ne Hr5.out Hb15.out (by decide)), ?_, (O5.out.skip (Fr.none_alloc _ _)).mv Hm6.out⟩
                  have h := Ho6.out
                  rw [take_snoc Hv.out]
                  unfold ints at h ⊢
                  rw [List.map_append]
                  exact h
                case measure => simp [intOf]; omega
              exact AllReady.nil
            refine AllReady.cons (o := { dst := some 36, op := Op.load 3 (Operand.tmp 35), type := 3, pos := "tiers.go:276", after := #[{ on := 13, ground := Ground.data }], guard := none }) rfl (fun K hK => ?_) ?_
            · go_simp
              refine hK _ _ ?_
              clear hK K
              try go_frame
              refine wpAny_ready (rs := [6]) (by kernel_rfl) (by simp) ?_
              refine AllReady.cons (o := { dst := some 28, op := Op.load 3 (Operand.tmp 27), type := 3, pos := "tiers.go:276", after := #[{ on := 5, ground := Ground.data }], guard := none }) rfl (fun K hK => ?_) AllReady.nil
              go_simp
              refine hK _ _ ?_
              clear hK K
              try go_frame
              refine wpAny_ready (rs := [7]) (by kernel_rfl) (by simp) ?_
              refine AllReady.cons (o := { dst := some 29, op := Op.call { callee := Callee.value (Operand.func 27), args := #[Operand.tmp 23, Operand.tmp 28], argTypes := #[29, 3] }, type := 3, pos := "tiers.go:276", after := #[{ on := 1, ground := Ground.data }, { on := 6, ground := Ground.data }], guard := none }) rfl (fun K hK => ?_) AllReady.nil
              go_simp
              go_wp2_with (first | (go_at_call 27; refine (HF1.out _ F2).mono ?_; rintro r w5 ⟨rfl, f5⟩; obtain ⟨p0, p1, p2, q0, q1, q2, q3, te, sc⟩ := HC.out w5 f5))
              refine wpAny_ready (rs := [15]) (by kernel_rfl) (by simp) ?_
              refine AllReady.cons (o := { dst := some 37, op := Op.call { callee := Callee.value (Operand.func 37), args := #[Operand.tmp 29, Operand.tmp 36], argTypes := #[3, 3] }, type := 3, pos := "tiers.go:276", after := #[{ on := 7, ground := Ground.data }, { on := 14, ground := Ground.data }, { on := 7, ground := Ground.chain }], guard := none }) rfl (fun K hK => ?_) AllReady.nil
              go_simp
              go_wp2_with (first | (go_at_call 37; refine (HCl.out _).mono ?_; rintro r w6 ⟨rfl, rfl⟩))
              refine wpAny_ready (rs := [16]) (by kernel_rfl) (by simp) ?_
              refine AllReady.cons (o := { dst := some 38, op := Op.buildSlice 25 1 #[(0, Operand.tmp 37)], type := 25, pos := "tiers.go:276", after := #[{ on := 15, ground := Ground.data }], guard := none }) rfl (fun K hK => ?_) AllReady.nil
              go_simp
              refine hK _ _ ?_
              clear hK K
              try go_frame
              refine wpAny_ready (rs := [17]) (by kernel_rfl) (by simp) ?_
              refine AllReady.cons (o := { dst := some 39, op := Op.call { callee := Callee.builtin Builtin.append, args := #[Operand.tmp 22, Operand.tmp 38], argTypes := #[25, 25] }, type := 25, pos := "tiers.go:276", after := #[{ on := 0, ground := Ground.data }, { on := 16, ground := Ground.data }, { on := 15, ground := Ground.chain }], guard := none }) rfl (fun K hK => ?_) AllReady.nil
              rw [if_pos (by rfl)]
              have O5 := Lib.hid (Ho.out.skip f5)
              have Hr5 := Lib.hid (own_fr0 Hrow.out f5)
              have Hb05 := Lib.hid (Hb0.out.fr f5 (fun h => h))
              have Hb15 := Lib.hid (Hb1.out.fr f5 (fun h => h))
              refine op_app3 _ _ 25 rfl 3 i0 (.int .i64 0) 1 8 Tryz.underlying25 hi hz0 hz1 hz2 rfl (by decide) (.slice R k cs) k _ rfl 0 (Nat.zero_le _) (own_fr0 Hr5.out (Fr.none_alloc _ _)) (some ⟨w5.heap.size, 0, none⟩) 1 1 [.int .i64 cv] rfl (Rd.new w5 [.int .i64 cv] _ 1 rfl) (by simp [Value.oneCell']) (by unfold maxLen; omega) (by omega) (fun R6 c6 w6 ho6 hm6 _ => ?_)
              have Ho6 := Lib.hid ho6
              have Hm6 := Lib.hid hm6
              clear ho6 hm6
              refine hK _ _ ?_
              clear hK K
              try go_frame
              refine wpAny_ready (rs := [18]) (by kernel_rfl) (by simp) ?_
              refine AllReady.cons (o := { dst := some 5, op := Op.assign (Operand.tmp 39), type := 25, pos := "tiers.go:276", after := #[{ on := 17, ground := Ground.data }, { on := 17, ground := Ground.chain }, { on := 0, ground := Ground.phase }, { on := 1, ground := Ground.phase }, { on := 2, ground := Ground.phase }, { on := 3, ground := Ground.phase }, { on := 4, ground := Ground.phase }, { on := 5, ground := Ground.phase }, { on := 6, ground := Ground.phase }, { on := 7, ground := Ground.phase }, { on := 8, ground := Ground.phase }, { on := 9, ground := Ground.phase }, { on := 10, ground := Ground.phase }, { on := 11, ground := Ground.phase }, { on := 12, ground := Ground.phase }, { on := 13, ground := Ground.phase }, { on := 14, ground := Ground.phase }, { on := 15, ground := Ground.phase }, { on := 16, ground := Ground.phase }, { on := 17, ground := Ground.phase }], guard := none }) rfl (fun K hK => ?_) AllReady.nil
              go_simp
              refine hK _ _ ?_
              clear hK K
              try go_frame
              refine wpAny_done (by kernel_rfl) ?_ _
              go_wp2
              go_roundw
              case rel =>
                refine ⟨k + 1, R6, c6, by omega, by go_num, by go_num, (Hb05.out.alloc _).fr Hm6.out.fr (own_blk_ne Hr5.out Hb05.out (by decide)), (Hb15.out.alloc _).fr Hm6.out.fr (own_blk_ne Hr5.out Hb15.out (by decide)), ?_, (O5.out.skip (Fr.none_alloc _ _)).mv Hm6.out⟩
                have h := Ho6.out
                rw [take_snoc Hv.out]
                unfold ints at h ⊢
                rw [List.map_append]
                exact h
              case measure => simp [intOf]; omega
            exact AllReady.nil
          refine AllReady.cons (o := { dst := some 36, op := Op.load 3 (Operand.tmp 35), type := 3, pos := "tiers.go:276", after := #[{ on := 13, ground := Ground.data }], guard := none }) rfl (fun K hK => ?_) ?_
          · go_simp
            refine hK _ _ ?_
            clear hK K
            try go_frame
            refine wpAny_ready (rs := [3]) (by kernel_rfl) (by simp) ?_
            refine AllReady.cons (o := { dst := some 25, op := Op.load 25 (Operand.tmp 24), type := 25, pos := "tiers.go:276", after := #[{ on := 2, ground := Ground.data }], guard := none }) rfl (fun K hK => ?_) AllReady.nil
            go_simp
            refine hK _ _ ?_
            clear hK K
            try go_frame
            refine wpAny_take (i := 5) (oi := { dst := some 27, op := Op.indexAddr 25 (Operand.tmp 25) (Operand.tmp 26), type := 0, pos := "tiers.go:276", after := #[{ on := 3, ground := Ground.data }, { on := 4, ground := Ground.data }], guard := none }) (v := ?vq17) rfl (by kernel_rfl) (by kernel_rfl) (by kernel_rfl) (fun _ _ _ h => h) (Or.inl ⟨by rfl, ?hq17⟩) ?rq17
            case hq17 => intro W; go_simp; (try with_reducible rfl)
            try go_frame
            refine wpAny_ready (rs := [6]) (by kernel_rfl) (by simp) ?_
            refine AllReady.cons (o := { dst := some 28, op := Op.load 3 (Operand.tmp 27), type := 3, pos := "tiers.go:276", after := #[{ on := 5, ground := Ground.data }], guard := none }) rfl (fun K hK => ?_) AllReady.nil
            go_simp
            refine hK _ _ ?_
            clear hK K
            try go_frame
            refine wpAny_ready (rs := [7]) (by kernel_rfl) (by simp) ?_
            refine AllReady.cons (o := { dst := some 29, op := Op.call { callee := Callee.value (Operand.func 27), args := #[Operand.tmp 23, Operand.tmp 28], argTypes := #[29, 3] }, type := 3, pos := "tiers.go:276", after := #[{ on := 1, ground := Ground.data }, { on := 6, ground := Ground.data }], guard := none }) rfl (fun K hK => ?_) AllReady.nil
            go_simp
            go_wp2_with (first | (go_at_call 27; refine (HF1.out _ F2).mono ?_; rintro r w5 ⟨rfl, f5⟩; obtain ⟨p0, p1, p2, q0, q1, q2, q3, te, sc⟩ := HC.out w5 f5))
            refine wpAny_ready (rs := [15]) (by kernel_rfl) (by simp) ?_
            refine AllReady.cons (o := { dst := some 37, op := Op.call { callee := Callee.value (Operand.func 37), args := #[Operand.tmp 29, Operand.tmp 36], argTypes := #[3, 3] }, type := 3, pos := "tiers.go:276", after := #[{ on := 7, ground := Ground.data }, { on := 14, ground := Ground.data }, { on := 7, ground := Ground.chain }], guard := none }) rfl (fun K hK => ?_) AllReady.nil
            go_simp
            go_wp2_with (first | (go_at_call 37; refine (HCl.out _).mono ?_; rintro r w6 ⟨rfl, rfl⟩))
            refine wpAny_ready (rs := [16]) (by kernel_rfl) (by simp) ?_
            refine AllReady.cons (o := { dst := some 38, op := Op.buildSlice 25 1 #[(0, Operand.tmp 37)], type := 25, pos := "tiers.go:276", after := #[{ on := 15, ground := Ground.data }], guard := none }) rfl (fun K hK => ?_) AllReady.nil
            go_simp
            refine hK _ _ ?_
            clear hK K
            try go_frame
            refine wpAny_ready (rs := [17]) (by kernel_rfl) (by simp) ?_
            refine AllReady.cons (o := { dst := some 39, op := Op.call { callee := Callee.builtin Builtin.append, args := #[Operand.tmp 22, Operand.tmp 38], argTypes := #[25, 25] }, type := 25, pos := "tiers.go:276", after := #[{ on := 0, ground := Ground.data }, { on := 16, ground := Ground.data }, { on := 15, ground := Ground.chain }], guard := none }) rfl (fun K hK => ?_) AllReady.nil
            rw [if_pos (by rfl)]
            have O5 := Lib.hid (Ho.out.skip f5)
            have Hr5 := Lib.hid (own_fr0 Hrow.out f5)
            have Hb05 := Lib.hid (Hb0.out.fr f5 (fun h => h))
            have Hb15 := Lib.hid (Hb1.out.fr f5 (fun h => h))
            refine op_app3 _ _ 25 rfl 3 i0 (.int .i64 0) 1 8 Tryz.underlying25 hi hz0 hz1 hz2 rfl (by decide) (.slice R k cs) k _ rfl 0 (Nat.zero_le _) (own_fr0 Hr5.out (Fr.none_alloc _ _)) (some ⟨w5.heap.size, 0, none⟩) 1 1 [.int .i64 cv] rfl (Rd.new w5 [.int .i64 cv] _ 1 rfl) (by simp [Value.oneCell']) (by unfold maxLen; omega) (by omega) (fun R6 c6 w6 ho6 hm6 _ => ?_)
            have Ho6 := Lib.hid ho6
            have Hm6 := Lib.hid hm6
            clear ho6 hm6
            refine hK _ _ ?_
            clear hK K
            try go_frame
            refine wpAny_ready (rs := [18]) (by kernel_rfl) (by simp) ?_
            refine AllReady.cons (o := { dst := some 5, op := Op.assign (Operand.tmp 39), type := 25, pos := "tiers.go:276", after := #[{ on := 17, ground := Ground.data }, { on := 17, ground := Ground.chain }, { on := 0, ground := Ground.phase }, { on := 1, ground := Ground.phase }, { on := 2, ground := Ground.phase }, { on := 3, ground := Ground.phase }, { on := 4, ground := Ground.phase }, { on := 5, ground := Ground.phase }, { on := 6, ground := Ground.phase }, { on := 7, ground := Ground.phase }, { on := 8, ground := Ground.phase }, { on := 9, ground := Ground.phase }, { on := 10, ground := Ground.phase }, { on := 11, ground := Ground.phase }, { on := 12, ground := Ground.phase }, { on := 13, ground := Ground.phase }, { on := 14, ground := Ground.phase }, { on := 15, ground := Ground.phase }, { on := 16, ground := Ground.phase }, { on := 17, ground := Ground.phase }], guard := none }) rfl (fun K hK => ?_) AllReady.nil
            go_simp
            refine hK _ _ ?_
            clear hK K
            try go_frame
            refine wpAny_done (by kernel_rfl) ?_ _
            go_wp2
            go_roundw
            case rel =>
              refine ⟨k + 1, R6, c6, by omega, by go_num, by go_num, (Hb05.out.alloc _).fr Hm6.out.fr (own_blk_ne Hr5.out Hb05.out (by decide)), (Hb15.out.alloc _).fr Hm6.out.fr (own_blk_ne Hr5.out Hb15.out (by decide)), ?_, (O5.out.skip (Fr.none_alloc _ _)).mv Hm6.out⟩
              have h := Ho6.out
              rw [take_snoc Hv.out]
              unfold ints at h ⊢
              rw [List.map_append]
              exact h
            case measure => simp [intOf]; omega
          exact AllReady.nil
        exact AllReady.nil
      refine AllReady.cons (o := { dst := some 25, op := Op.load 25 (Operand.tmp 24), type := 25, pos := "tiers.go:276", after := #[{ on := 2, ground := Ground.data }], guard := none }) rfl (fun K hK => ?_) ?_
      · go_simp
        refine hK _ _ ?_
        clear hK K
        try go_frame
        refine wpAny_take (i := 5) (oi := { dst := some 27, op := Op.indexAddr 25 (Operand.tmp 25) (Operand.tmp 26), type := 0, pos := "tiers.go:276", after := #[{ on := 3, ground := Ground.data }, { on := 4, ground := Ground.data }], guard := none }) (v := ?vq18) rfl (by kernel_rfl) (by kernel_rfl) (by kernel_rfl) (fun _ _ _ h => h) (Or.inl ⟨by rfl, ?hq18⟩) ?rq18
        case hq18 => intro W; go_simp; (try with_reducible rfl)
        try go_frame
        refine wpAny_ready (rs := [1, 6, 10]) (by kernel_rfl) (by simp) ?_
        refine AllReady.cons (o := { dst := some 23, op := Op.load 29 (Operand.tmp 3), type := 29, pos := "tiers.go:276", after := #[], guard := none }) rfl (fun K hK => ?_) ?_
        · go_simp
          refine hK _ _ ?_
          clear hK K
          try go_frame
          refine wpAny_ready (rs := [6, 10]) (by kernel_rfl) (by simp) ?_
          refine AllReady.cons (o := { dst := some 28, op := Op.load 3 (Operand.tmp 27), type := 3, pos := "tiers.go:276", after := #[{ on := 5, ground := Ground.data }], guard := none }) rfl (fun K hK => ?_) ?_
          · go_simp
            refine hK _ _ ?_
            clear hK K
            try go_frame
            refine wpAny_ready (rs := [7, 10]) (by kernel_rfl) (by simp) ?_
            refine AllReady.cons (o := { dst := some 29, op := Op.call { callee := Callee.value (Operand.func 27), args := #[Operand.tmp 23, Operand.tmp 28], argTypes := #[29, 3] }, type := 3, pos := "tiers.go:276", after := #[{ on := 1, ground := Ground.data }, { on := 6, ground := Ground.data }], guard := none }) rfl (fun K hK => ?_) ?_
            · go_simp
              go_wp2_with (first | (go_at_call 27; refine (HF1.out _ F2).mono ?_; rintro r w5 ⟨rfl, f5⟩; obtain ⟨p0, p1, p2, q0, q1, q2, q3, te, sc⟩ := HC.out w5 f5))
              try go_frame
              refine wpAny_ready (rs := [10]) (by kernel_rfl) (by simp) ?_
              refine AllReady.cons (o := { dst := some 32, op := Op.load 22 (Operand.tmp 31), type := 22, pos := "tiers.go:276", after := #[{ on := 9, ground := Ground.data }], guard := none }) rfl (fun K hK => ?_) AllReady.nil
              go_simp
              refine hK _ _ ?_
              clear hK K
              try go_frame
              refine wpAny_take (i := 12) (oi := { dst := some 34, op := Op.indexAddr 22 (Operand.tmp 32) (Operand.tmp 33), type := 0, pos := "tiers.go:276", after := #[{ on := 10, ground := Ground.data }, { on := 11, ground := Ground.data }], guard := none }) (v := ?vq19) rfl (by kernel_rfl) (by kernel_rfl) (by kernel_rfl) (fun _ _ _ h => h) (Or.inl ⟨by rfl, ?hq19⟩) ?rq19
              case hq19 => intro W; go_simp; (try with_reducible rfl)
              try go_frame
              refine wpAny_take (i := 13) (oi := { dst := some 35, op := Op.fieldAddr 69 (Operand.tmp 34) 1, type := 0, pos := "tiers.go:276", after := #[{ on := 12, ground := Ground.data }], guard := none }) (v := ?vq20) rfl (by kernel_rfl) (by kernel_rfl) (by kernel_rfl) (fun _ _ _ h => h) (Or.inl ⟨by rfl, ?hq20⟩) ?rq20
              case hq20 => intro W; go_simp; (try with_reducible rfl)
              try go_frame
              refine wpAny_ready (rs := [14]) (by kernel_rfl) (by simp) ?_
              refine AllReady.cons (o := { dst := some 36, op := Op.load 3 (Operand.tmp 35), type := 3, pos := "tiers.go:276", after := #[{ on := 13, ground := Ground.data }], guard := none }) rfl (fun K hK => ?_) AllReady.nil
              go_simp
              refine hK _ _ ?_
              clear hK K
              try go_frame
              refine wpAny_ready (rs := [15]) (by kernel_rfl) (by simp) ?_
              refine AllReady.cons (o := { dst := some 37, op := Op.call { callee := Callee.value (Operand.func 37), args := #[Operand.tmp 29, Operand.tmp 36], argTypes := #[3, 3] }, type := 3, pos := "tiers.go:276", after := #[{ on := 7, ground := Ground.data }, { on := 14, ground := Ground.data }, { on := 7, ground := Ground.chain }], guard := none }) rfl (fun K hK => ?_) AllReady.nil
              go_simp
              go_wp2_with (first | (go_at_call 37; refine (HCl.out _).mono ?_; rintro r w6 ⟨rfl, rfl⟩))
              refine wpAny_ready (rs := [16]) (by kernel_rfl) (by simp) ?_
              refine AllReady.cons (o := { dst := some 38, op := Op.buildSlice 25 1 #[(0, Operand.tmp 37)], type := 25, pos := "tiers.go:276", after := #[{ on := 15, ground := Ground.data }], guard := none }) rfl (fun K hK => ?_) AllReady.nil
              go_simp
              refine hK _ _ ?_
              clear hK K
              try go_frame
              refine wpAny_ready (rs := [17]) (by kernel_rfl) (by simp) ?_
              refine AllReady.cons (o := { dst := some 39, op := Op.call { callee := Callee.builtin Builtin.append, args := #[Operand.tmp 22, Operand.tmp 38], argTypes := #[25, 25] }, type := 25, pos := "tiers.go:276", after := #[{ on := 0, ground := Ground.data }, { on := 16, ground := Ground.data }, { on := 15, ground := Ground.chain }], guard := none }) rfl (fun K hK => ?_) AllReady.nil
              rw [if_pos (by rfl)]
              have O5 := Lib.hid (Ho.out.skip f5)
              have Hr5 := Lib.hid (own_fr0 Hrow.out f5)
              have Hb05 := Lib.hid (Hb0.out.fr f5 (fun h => h))
              have Hb15 := Lib.hid (Hb1.out.fr f5 (fun h => h))
              refine op_app3 _ _ 25 rfl 3 i0 (.int .i64 0) 1 8 Tryz.underlying25 hi hz0 hz1 hz2 rfl (by decide) (.slice R k cs) k _ rfl 0 (Nat.zero_le _) (own_fr0 Hr5.out (Fr.none_alloc _ _)) (some ⟨w5.heap.size, 0, none⟩) 1 1 [.int .i64 cv] rfl (Rd.new w5 [.int .i64 cv] _ 1 rfl) (by simp [Value.oneCell']) (by unfold maxLen; omega) (by omega) (fun R6 c6 w6 ho6 hm6 _ => ?_)
              have Ho6 := Lib.hid ho6
              have Hm6 := Lib.hid hm6
              clear ho6 hm6
              refine hK _ _ ?_
              clear hK K
              try go_frame
              refine wpAny_ready (rs := [18]) (by kernel_rfl) (by simp) ?_
              refine AllReady.cons (o := { dst := some 5, op := Op.assign (Operand.tmp 39), type := 25, pos := "tiers.go:276", after := #[{ on := 17, ground := Ground.data }, { on := 17, ground := Ground.chain }, { on := 0, ground := Ground.phase }, { on := 1, ground := Ground.phase }, { on := 2, ground := Ground.phase }, { on := 3, ground := Ground.phase }, { on := 4, ground := Ground.phase }, { on := 5, ground := Ground.phase }, { on := 6, ground := Ground.phase }, { on := 7, ground := Ground.phase }, { on := 8, ground := Ground.phase }, { on := 9, ground := Ground.phase }, { on := 10, ground := Ground.phase }, { on := 11, ground := Ground.phase }, { on := 12, ground := Ground.phase }, { on := 13, ground := Ground.phase }, { on := 14, ground := Ground.phase }, { on := 15, ground := Ground.phase }, { on := 16, ground := Ground.phase }, { on := 17, ground := Ground.phase }], guard := none }) rfl (fun K hK => ?_) AllReady.nil
              go_simp
              refine hK _ _ ?_
              clear hK K
              try go_frame
              refine wpAny_done (by kernel_rfl) ?_ _
              go_wp2
              go_roundw
              case rel =>
                refine ⟨k + 1, R6, c6, by omega, by go_num, by go_num, (Hb05.out.alloc _).fr Hm6.out.fr (own_blk_ne Hr5.out Hb05.out (by decide)), (Hb15.out.alloc _).fr Hm6.out.fr (own_blk_ne Hr5.out Hb15.out (by decide)), ?_, (O5.out.skip (Fr.none_alloc _ _)).mv Hm6.out⟩
                have h := Ho6.out
                rw [take_snoc Hv.out]
                unfold ints at h ⊢
                rw [List.map_append]
                exact h
              case measure => simp [intOf]; omega
            refine AllReady.cons (o := { dst := some 32, op := Op.load 22 (Operand.tmp 31), type := 22, pos := "tiers.go:276", after := #[{ on := 9, ground := Ground.data }], guard := none }) rfl (fun K hK => ?_) ?_
            · go_simp
              refine hK _ _ ?_
              clear hK K
              try go_frame
              refine wpAny_take (i := 12) (oi := { dst := some 34, op := Op.indexAddr 22 (Operand.tmp 32) (Operand.tmp 33), type := 0, pos := "tiers.go:276", after := #[{ on := 10, ground := Ground.data }, { on := 11, ground := Ground.data }], guard := none }) (v := ?vq21) rfl (by kernel_rfl) (by kernel_rfl) (by kernel_rfl) (fun _ _ _ h => h) (Or.inl ⟨by rfl, ?hq21⟩) ?rq21
              case hq21 => intro W; go_simp; (try with_reducible rfl)
              try go_frame
              refine wpAny_take (i := 13) (oi := { dst := some 35, op := Op.fieldAddr 69 (Operand.tmp 34) 1, type := 0, pos := "tiers.go:276", after := #[{ on := 12, ground := Ground.data }], guard := none }) (v := ?vq22) rfl (by kernel_rfl) (by kernel_rfl) (by kernel_rfl) (fun _ _ _ h => h) (Or.inl ⟨by rfl, ?hq22⟩) ?rq22
              case hq22 => intro W; go_simp; (try with_reducible rfl)
              try go_frame
              refine wpAny_ready (rs := [7, 14]) (by kernel_rfl) (by simp) ?_
              refine AllReady.cons (o := { dst := some 29, op := Op.call { callee := Callee.value (Operand.func 27), args := #[Operand.tmp 23, Operand.tmp 28], argTypes := #[29, 3] }, type := 3, pos := "tiers.go:276", after := #[{ on := 1, ground := Ground.data }, { on := 6, ground := Ground.data }], guard := none }) rfl (fun K hK => ?_) ?_
              · go_simp
                go_wp2_with (first | (go_at_call 27; refine (HF1.out _ F2).mono ?_; rintro r w5 ⟨rfl, f5⟩; obtain ⟨p0, p1, p2, q0, q1, q2, q3, te, sc⟩ := HC.out w5 f5))
                try go_frame
                refine wpAny_ready (rs := [14]) (by kernel_rfl) (by simp) ?_
                refine AllReady.cons (o := { dst := some 36, op := Op.load 3 (Operand.tmp 35), type := 3, pos := "tiers.go:276", after := #[{ on := 13, ground := Ground.data }], guard := none }) rfl (fun K hK => ?_) AllReady.nil
                go_simp
                refine hK _ _ ?_
                clear hK K
                try go_frame
                refine wpAny_ready (rs := [15]) (by kernel_rfl) (by simp) ?_
                refine AllReady.cons (o := { dst := some 37, op := Op.call { callee := Callee.value (Operand.func 37), args := #[Operand.tmp 29, Operand.tmp 36], argTypes := #[3, 3] }, type := 3, pos := "tiers.go:276", after := #[{ on := 7, ground := Ground.data }, { on := 14, ground := Ground.data }, { on := 7, ground := Ground.chain }], guard := none }) rfl (fun K hK => ?_) AllReady.nil
                go_simp
                go_wp2_with (first | (go_at_call 37; refine (HCl.out _).mono ?_; rintro r w6 ⟨rfl, rfl⟩))
                refine wpAny_ready (rs := [16]) (by kernel_rfl) (by simp) ?_
                refine AllReady.cons (o := { dst := some 38, op := Op.buildSlice 25 1 #[(0, Operand.tmp 37)], type := 25, pos := "tiers.go:276", after := #[{ on := 15, ground := Ground.data }], guard := none }) rfl (fun K hK => ?_) AllReady.nil
                go_simp
                refine hK _ _ ?_
                clear hK K
                try go_frame
                refine wpAny_ready (rs := [17]) (by kernel_rfl) (by simp) ?_
                refine AllReady.cons (o := { dst := some 39, op := Op.call { callee := Callee.builtin Builtin.append, args := #[Operand.tmp 22, Operand.tmp 38], argTypes := #[25, 25] }, type := 25, pos := "tiers.go:276", after := #[{ on := 0, ground := Ground.data }, { on := 16, ground := Ground.data }, { on := 15, ground := Ground.chain }], guard := none }) rfl (fun K hK => ?_) AllReady.nil
                rw [if_pos (by rfl)]
                have O5 := Lib.hid (Ho.out.skip f5)
                have Hr5 := Lib.hid (own_fr0 Hrow.out f5)
                have Hb05 := Lib.hid (Hb0.out.fr f5 (fun h => h))
                have Hb15 := Lib.hid (Hb1.out.fr f5 (fun h => h))
                refine op_app3 _ _ 25 rfl 3 i0 (.int .i64 0) 1 8 Tryz.underlying25 hi hz0 hz1 hz2 rfl (by decide) (.slice R k cs) k _ rfl 0 (Nat.zero_le _) (own_fr0 Hr5.out (Fr.none_alloc _ _)) (some ⟨w5.heap.size, 0, none⟩) 1 1 [.int .i64 cv] rfl (Rd.new w5 [.int .i64 cv] _ 1 rfl) (by simp [Value.oneCell']) (by unfold maxLen; omega) (by omega) (fun R6 c6 w6 ho6 hm6 _ => ?_)
                have Ho6 := Lib.hid ho6
                have Hm6 := Lib.hid hm6
                clear ho6 hm6
                refine hK _ _ ?_
                clear hK K
                try go_frame
                refine wpAny_ready (rs := [18]) (by kernel_rfl) (by simp) ?_
                refine AllReady.cons (o := { dst := some 5, op := Op.assign (Operand.tmp 39), type := 25, pos := "tiers.go:276", after := #[{ on := 17, ground := Ground.data }, { on := 17, ground := Ground.chain }, { on := 0, ground := Ground.phase }, { on := 1, ground := Ground.phase }, { on := 2, ground := Ground.phase }, { on := 3, ground := Ground.phase }, { on := 4, ground := Ground.phase }, { on := 5, ground := Ground.phase }, { on := 6, ground := Ground.phase }, { on := 7, ground := Ground.phase }, { on := 8, ground := Ground.phase }, { on := 9, ground := Ground.phase }, { on := 10, ground := Ground.phase }, { on := 11, ground := Ground.phase }, { on := 12, ground := Ground.phase }, { on := 13, ground := Ground.phase }, { on := 14, ground := Ground.phase }, { on := 15, ground := Ground.phase }, { on := 16, ground := Ground.phase }, { on := 17, ground := Ground.phase }], guard := none }) rfl (fun K hK => ?_) AllReady.nil
                go_simp
                refine hK _ _ ?_
                clear hK K
                try go_frame
                refine wpAny_done (by kernel_rfl) ?_ _
                go_wp2
                go_roundw
                case rel =>
                  refine ⟨k + 1, R6, c6, by omega, by go_num, by go_num, (Hb05.out.alloc _).fr Hm6.out.fr (own_blk_ne Hr5.out Hb05.out (by decide)), (Hb15.out.alloc _).fr Hm6.out.fr (own_blk_ne Hr5.out Hb15.out (by decide)), ?_, (O5.out.skip (Fr.none_alloc _ _)).mv Hm6.out⟩
                  have h := Ho6.out
                  rw [take_snoc Hv.out]
                  unfold ints at h ⊢
                  rw [List.map_append]
                  exact h
                case measure => simp [intOf]; omega
              refine AllReady.cons (o := { dst := some 36, op := Op.load 3 (Operand.tmp 35), type := 3, pos := "tiers.go:276", after := #[{ on := 13, ground := Ground.data }], guard := none }) rfl (fun K hK => ?_) ?_
              · go_simp
                refine hK _ _ ?_
                clear hK K
                try go_frame
                refine wpAny_ready (rs := [7]) (by kernel_rfl) (by simp) ?_
                refine AllReady.cons (o := { dst := some 29, op := Op.call { callee := Callee.value (Operand.func 27), args := #[Operand.tmp 23, Operand.tmp 28], argTypes := #[29, 3] }, type := 3, pos := "tiers.go:276", after := #[{ on := 1, ground := Ground.data }, { on := 6, ground := Ground.data }], guard := none }) rfl (fun K hK => ?_) AllReady.nil
                go_simp
                go_wp2_with (first | (go_at_call 27; refine (HF1.out _ F2).mono ?_; rintro r w5 ⟨rfl, f5⟩; obtain ⟨p0, p1, p2, q0, q1, q2, q3, te, sc⟩ := HC.out w5 f5))
                refine wpAny_ready (rs := [15]) (by kernel_rfl) (by simp) ?_
                refine AllReady.cons (o := { dst := some 37, op := Op.call { callee := Callee.value (Operand.func 37), args := #[Operand.tmp 29, Operand.tmp 36], argTypes := #[3, 3] }, type := 3, pos := "tiers.go:276", after := #[{ on := 7, ground := Ground.data }, { on := 14, ground := Ground.data }, { on := 7, ground := Ground.chain }], guard := none }) rfl (fun K hK => ?_) AllReady.nil
                go_simp
                go_wp2_with (first | (go_at_call 37; refine (HCl.out _).mono ?_; rintro r w6 ⟨rfl, rfl⟩))
                refine wpAny_ready (rs := [16]) (by kernel_rfl) (by simp) ?_
                refine AllReady.cons (o := { dst := some 38, op := Op.buildSlice 25 1 #[(0, Operand.tmp 37)], type := 25, pos := "tiers.go:276", after := #[{ on := 15, ground := Ground.data }], guard := none }) rfl (fun K hK => ?_) AllReady.nil
                go_simp
                refine hK _ _ ?_
                clear hK K
                try go_frame
                refine wpAny_ready (rs := [17]) (by kernel_rfl) (by simp) ?_
                refine AllReady.cons (o := { dst := some 39, op := Op.call { callee := Callee.builtin Builtin.append, args := #[Operand.tmp 22, Operand.tmp 38], argTypes := #[25, 25] }, type := 25, pos := "tiers.go:276", after := #[{ on := 0, ground := Ground.data }, { on := 16, ground := Ground.data }, { on := 15, ground := Ground.chain }], guard := none }) rfl (fun K hK => ?_) AllReady.nil
                rw [if_pos (by rfl)]
                have O5 := Lib.hid (Ho.out.skip f5)
                have Hr5 := Lib.hid (own_fr0 Hrow.out f5)
                have Hb05 := Lib.hid (Hb0.out.fr f5 (fun h => h))
                have Hb15 := Lib.hid (Hb1.out.fr f5 (fun h => h))
                refine op_app3 _ _ 25 rfl 3 i0 (.int .i64 0) 1 8 Tryz.underlying25 hi hz0 hz1 hz2 rfl (by decide) (.slice R k cs) k _ rfl 0 (Nat.zero_le _) (own_fr0 Hr5.out (Fr.none_alloc _ _)) (some ⟨w5.heap.size, 0, none⟩) 1 1 [.int .i64 cv] rfl (Rd.new w5 [.int .i64 cv] _ 1 rfl) (by simp [Value.oneCell']) (by unfold maxLen; omega) (by omega) (fun R6 c6 w6 ho6 hm6 _ => ?_)
                have Ho6 := Lib.hid ho6
                have Hm6 := Lib.hid hm6
                clear ho6 hm6
                refine hK _ _ ?_
                clear hK K
                try go_frame
                refine wpAny_ready (rs := [18]) (by kernel_rfl) (by simp) ?_
                refine AllReady.cons (o := { dst := some 5, op := Op.assign (Operand.tmp 39), type := 25, pos := "tiers.go:276", after := #[{ on := 17, ground := Ground.data }, { on := 17, ground := Ground.chain }, { on := 0, ground := Ground.phase }, { on := 1, ground := Ground.phase }, { on := 2, ground := Ground.phase }, { on := 3, ground := Ground.phase }, { on := 4, ground := Ground.phase }, { on := 5, ground := Ground.phase }, { on := 6, ground := Ground.phase }, { on := 7, ground := Ground.phase }, { on := 8, ground := Ground.phase }, { on := 9, ground := Ground.phase }, { on := 10, ground := Ground.phase }, { on := 11, ground := Ground.phase }, { on := 12, ground := Ground.phase }, { on := 13, ground := Ground.phase }, { on := 14, ground := Ground.phase }, { on := 15, ground := Ground.phase }, { on := 16, ground := Ground.phase }, { on := 17, ground := Ground.phase }], guard := none }) rfl (fun K hK => ?_) AllReady.nil
                go_simp
                refine hK _ _ ?_
                clear hK K
                try go_frame
                refine wpAny_done (by kernel_rfl) ?_ _
                go_wp2
                go_roundw
                case rel =>
                  refine ⟨k + 1, R6, c6, by omega, by go_num, by go_num, (Hb05.out.alloc _).fr Hm6.out.fr (own_blk_ne Hr5.out Hb05.out (by decide)), (Hb15.out.alloc _).fr Hm6.out.fr (own_blk_ne Hr5.out Hb15.out (by decide)), ?_, (O5.out.skip (Fr.none_alloc _ _)).mv Hm6.out⟩
                  have h := Ho6.out
                  rw [take_snoc Hv.out]
                  unfold ints at h ⊢
                  rw [List.map_append]
                  exact h
                case measure => simp [intOf]; omega
              exact AllReady.nil
            exact AllReady.nil
          refine AllReady.cons (o := { dst := some 32, op := Op.load 22 (Operand.tmp 31), type := 22, pos := "tiers.go:276", after := #[{ on := 9, ground := Ground.data }], guard := none }) rfl (fun K hK => ?_) ?_
          · go_simp
            refine hK _ _ ?_
            clear hK K
            try go_frame
            refine wpAny_take (i := 12) (oi := { dst := some 34, op := Op.indexAddr 22 (Operand.tmp 32) (Operand.tmp 33), type := 0, pos := "tiers.go:276", after := #[{ on := 10, ground := Ground.data }, { on := 11, ground := Ground.data }], guard := none }) (v := ?vq23) rfl (by kernel_rfl) (by kernel_rfl) (by kernel_rfl) (fun _ _ _ h => h) (Or.inl ⟨by rfl, ?hq23⟩) ?rq23
            case hq23 => intro W; go_simp; (try with_reducible rfl)
            try go_frame
            refine wpAny_take (i := 13) (oi := { dst := some 35, op := Op.fieldAddr 69 (Operand.tmp 34) 1, type := 0, pos := "tiers.go:276", after := #[{ on := 12, ground := Ground.data }], guard := none }) (v := ?vq24) rfl (by kernel_rfl) (by kernel_rfl) (by kernel_rfl) (fun _ _ _ h => h) (Or.inl ⟨by rfl, ?hq24⟩) ?rq24
            case hq24 => intro W; go_simp; (try with_reducible rfl)
            try go_frame
            refine wpAny_ready (rs := [6, 14]) (by kernel_rfl) (by simp) ?_
            refine AllReady.cons (o := { dst := some 28, op := Op.load 3 (Operand.tmp 27), type := 3, pos := "tiers.go:276", after := #[{ on := 5, ground := Ground.data }], guard := none }) rfl (fun K hK => ?_) ?_
            · go_simp
              refine hK _ _ ?_
              clear hK K
              try go_frame
              refine wpAny_ready (rs := [7, 14]) (by kernel_rfl) (by simp) ?_
              refine AllReady.cons (o := { dst := some 29, op := Op.call { callee := Callee.value (Operand.func 27), args := #[Operand.tmp 23, Operand.tmp 28], argTypes := #[29, 3] }, type := 3, pos := "tiers.go:276", after := #[{ on := 1, ground := Ground.data }, { on := 6, ground := Ground.data }], guard := none }) rfl (fun K hK => ?_) ?_
              · go_simp
                go_wp2_with (first | (go_at_call 27; refine (HF1.out _ F2).mono ?_; rintro r w5 ⟨rfl, f5⟩; obtain ⟨p0, p1, p2, q0, q1, q2, q3, te, sc⟩ := HC.out w5 f5))
                try go_frame
                refine wpAny_ready (rs := [14]) (by kernel_rfl) (by simp) ?_
                refine AllReady.cons (o := { dst := some 36, op := Op.load 3 (Operand.tmp 35), type := 3, pos := "tiers.go:276", after := #[{ on := 13, ground := Ground.data }], guard := none }) rfl (fun K hK => ?_) AllReady.nil
                go_simp
                refine hK _ _ ?_
                clear hK K
                try go_frame
                refine wpAny_ready (rs := [15]) (by kernel_rfl) (by simp) ?_
                refine AllReady.cons (o := { dst := some 37, op := Op.call { callee := Callee.value (Operand.func 37), args := #[Operand.tmp 29, Operand.tmp 36], argTypes := #[3, 3] }, type := 3, pos := "tiers.go:276", after := #[{ on := 7, ground := Ground.data }, { on := 14, ground := Ground.data }, { on := 7, ground := Ground.chain }], guard := none }) rfl (fun K hK => ?_) AllReady.nil
                go_simp
                go_wp2_with (first | (go_at_call 37; refine (HCl.out _).mono ?_; rintro r w6 ⟨rfl, rfl⟩))
                refine wpAny_ready (rs := [16]) (by kernel_rfl) (by simp) ?_
                refine AllReady.cons (o := { dst := some 38, op := Op.buildSlice 25 1 #[(0, Operand.tmp 37)], type := 25, pos := "tiers.go:276", after := #[{ on := 15, ground := Ground.data }], guard := none }) rfl (fun K hK => ?_) AllReady.nil
                go_simp
                refine hK _ _ ?_
                clear hK K
                try go_frame
                refine wpAny_ready (rs := [17]) (by kernel_rfl) (by simp) ?_
                refine AllReady.cons (o := { dst := some 39, op := Op.call { callee := Callee.builtin Builtin.append, args := #[Operand.tmp 22, Operand.tmp 38], argTypes := #[25, 25] }, type := 25, pos := "tiers.go:276", after := #[{ on := 0, ground := Ground.data }, { on := 16, ground := Ground.data }, { on := 15, ground := Ground.chain }], guard := none }) rfl (fun K hK => ?_) AllReady.nil
                rw [if_pos (by rfl)]
                have O5 := Lib.hid (Ho.out.skip f5)
                have Hr5 := Lib.hid (own_fr0 Hrow.out f5)
                have Hb05 := Lib.hid (Hb0.out.fr f5 (fun h => h))
                have Hb15 := Lib.hid (Hb1.out.fr f5 (fun h => h))
                refine op_app3 _ _ 25 rfl 3 i0 (.int .i64 0) 1 8 Tryz.underlying25 hi hz0 hz1 hz2 rfl (by decide) (.slice R k cs) k _ rfl 0 (Nat.zero_le _) (own_fr0 Hr5.out (Fr.none_alloc _ _)) (some ⟨w5.heap.size, 0, none⟩) 1 1 [.int .i64 cv] rfl (Rd.new w5 [.int .i64 cv] _ 1 rfl) (by simp [Value.oneCell']) (by unfold maxLen; omega) (by omega) (fun R6 c6 w6 ho6 hm6 _ => ?_)
                have Ho6 := Lib.hid ho6
                have Hm6 := Lib.hid hm6
                clear ho6 hm6
                refine hK _ _ ?_
                clear hK K
                try go_frame
                refine wpAny_ready (rs := [18]) (by kernel_rfl) (by simp) ?_
                refine AllReady.cons (o := { dst := some 5, op := Op.assign (Operand.tmp 39), type := 25, pos := "tiers.go:276", after := #[{ on := 17, ground := Ground.data }, { on := 17, ground := Ground.chain }, { on := 0, ground := Ground.phase }, { on := 1, ground := Ground.phase }, { on := 2, ground := Ground.phase }, { on := 3, ground := Ground.phase }, { on := 4, ground := Ground.phase }, { on := 5, ground := Ground.phase }, { on := 6, ground := Ground.phase }, { on := 7, ground := Ground.phase }, { on := 8, ground := Ground.phase }, { on := 9, ground := Ground.phase }, { on := 10, ground := Ground.phase }, { on := 11, ground := Ground.phase }, { on := 12, ground := Ground.phase }, { on := 13, ground := Ground.phase }, { on := 14, ground := Ground.phase }, { on := 15, ground := Ground.phase }, { on := 16, ground := Ground.phase }, { on := 17, ground := Ground.phase }], guard := none }) rfl (fun K hK => ?_) AllReady.nil
                go_simp
                refine hK _ _ ?_
                clear hK K
                try go_frame
                refine wpAny_done (by kernel_rfl) ?_ _
                go_wp2
                go_roundw
                case rel =>
                  refine ⟨k + 1, R6, c6, by omega, by go_num, by go_num, (Hb05.out.alloc _).fr Hm6.out.fr (own_blk_ne Hr5.out Hb05.out (by decide)), (Hb15.out.alloc _).fr Hm6.out.fr (own_blk_ne Hr5.out Hb15.out (by decide)), ?_, (O5.out.skip (Fr.none_alloc _ _)).mv Hm6.out⟩
                  have h := Ho6.out
                  rw [take_snoc Hv.out]
                  unfold ints at h ⊢
                  rw [List.map_append]
                  exact h
                case measure => simp [intOf]; omega
              refine AllReady.cons (o := { dst := some 36, op := Op.load 3 (Operand.tmp 35), type := 3, pos := "tiers.go:276", after := #[{ on := 13, ground := Ground.data }], guard := none }) rfl (fun K hK => ?_) ?_
              · go_simp
                refine hK _ _ ?_
                clear hK K
                try go_frame
                refine wpAny_ready (rs := [7]) (by kernel_rfl) (by simp) ?_
                refine AllReady.cons (o := { dst := some 29, op := Op.call { callee := Callee.value (Operand.func 27), args := #[Operand.tmp 23, Operand.tmp 28], argTypes := #[29, 3] }, type := 3, pos := "tiers.go:276", after := #[{ on := 1, ground := Ground.data }, { on := 6, ground := Ground.data }], guard := none }) rfl (fun K hK => ?_) AllReady.nil
                go_simp
                go_wp2_with (first | (go_at_call 27; refine (HF1.out _ F2).mono ?_; rintro r w5 ⟨rfl, f5⟩; obtain ⟨p0, p1, p2, q0, q1, q2, q3, te, sc⟩ := HC.out w5 f5))
                refine wpAny_ready (rs := [15]) (by kernel_rfl) (by simp) ?_
                refine AllReady.cons (o := { dst := some 37, op := Op.call { callee := Callee.value (Operand.func 37), args := #[Operand.tmp 29, Operand.tmp 36], argTypes := #[3, 3] }, type := 3, pos := "tiers.go:276", after := #[{ on := 7, ground := Ground.data }, { on := 14, ground := Ground.data }, { on := 7, ground := Ground.chain }], guard := none }) rfl (fun K hK => ?_) AllReady.nil
                go_simp
                go_wp2_with (first | (go_at_call 37; refine (HCl.out _).mono ?_; rintro r w6 ⟨rfl, rfl⟩))
                refine wpAny_ready (rs := [16]) (by kernel_rfl) (by simp) ?_
                refine AllReady.cons (o := { dst := some 38, op := Op.buildSlice 25 1 #[(0, Operand.tmp 37)], type := 25, pos := "tiers.go:276", after := #[{ on := 15, ground := Ground.data }], guard := none }) rfl (fun K hK => ?_) AllReady.nil
                go_simp
                refine hK _ _ ?_
                clear hK K
                try go_frame
                refine wpAny_ready (rs := [17]) (by kernel_rfl) (by simp) ?_
                refine AllReady.cons (o := { dst := some 39, op := Op.call { callee := Callee.builtin Builtin.append, args := #[Operand.tmp 22, Operand.tmp 38], argTypes := #[25, 25] }, type := 25, pos := "tiers.go:276", after := #[{ on := 0, ground := Ground.data }, { on := 16, ground := Ground.data }, { on := 15, ground := Ground.chain }], guard := none }) rfl (fun K hK => ?_) AllReady.nil
                rw [if_pos (by rfl)]
                have O5 := Lib.hid (Ho.out.skip f5)
                have Hr5 := Lib.hid (own_fr0 Hrow.out f5)
                have Hb05 := Lib.hid (Hb0.out.fr f5 (fun h => h))
                have Hb15 := Lib.hid (Hb1.out.fr f5 (fun h => h))
                refine op_app3 _ _ 25 rfl 3 i0 (.int .i64 0) 1 8 Tryz.underlying25 hi hz0 hz1 hz2 rfl (by decide) (.slice R k cs) k _ rfl 0 (Nat.zero_le _) (own_fr0 Hr5.out (Fr.none_alloc _ _)) (some ⟨w5.heap.size, 0, none⟩) 1 1 [.int .i64 cv] rfl (Rd.new w5 [.int .i64 cv] _ 1 rfl) (by simp [Value.oneCell']) (by unfold maxLen; omega) (by omega) (fun R6 c6 w6 ho6 hm6 _ => ?_)
                have Ho6 := Lib.hid ho6
                have Hm6 := Lib.hid hm6
                clear ho6 hm6
                refine hK _ _ ?_
                clear hK K
                try go_frame
                refine wpAny_ready (rs := [18]) (by kernel_rfl) (by simp) ?_
                refine AllReady.cons (o := { dst := some 5, op := Op.assign (Operand.tmp 39), type := 25, pos := "tiers.go:276", after := #[{ on := 17, ground := Ground.data }, { on := 17, ground := Ground.chain }, { on := 0, ground := Ground.phase }, { on := 1, ground := Ground.phase }, { on := 2, ground := Ground.phase }, { on := 3, ground := Ground.phase }, { on := 4, ground := Ground.phase }, { on := 5, ground := Ground.phase }, { on := 6, ground := Ground.phase }, { on := 7, ground := Ground.phase }, { on := 8, ground := Ground.phase }, { on := 9, ground := Ground.phase }, { on := 10, ground := Ground.phase }, { on := 11, ground := Ground.phase }, { on := 12, ground := Ground.phase }, { on := 13, ground := Ground.phase }, { on := 14, ground := Ground.phase }, { on := 15, ground := Ground.phase }, { on := 16, ground := Ground.phase }, { on := 17, ground := Ground.phase }], guard := none }) rfl (fun K hK => ?_) AllReady.nil
                go_simp
                refine hK _ _ ?_
                clear hK K
                try go_frame
                refine wpAny_done (by kernel_rfl) ?_ _
                go_wp2
                go_roundw
                case rel =>
                  refine ⟨k + 1, R6, c6, by omega, by go_num, by go_num, (Hb05.out.alloc _).fr Hm6.out.fr (own_blk_ne Hr5.out Hb05.out (by decide)), (Hb15.out.alloc _).fr Hm6.out.fr (own_blk_ne Hr5.out Hb15.out (by decide)), ?_, (O5.out.skip (Fr.none_alloc _ _)).mv Hm6.out⟩
                  have h := Ho6.out
                  rw [take_snoc Hv.out]
                  unfold ints at h ⊢
                  rw [List.map_append]
                  exact h
                case measure => simp [intOf]; omega
              exact AllReady.nil
            refine AllReady.cons (o := { dst := some 36, op := Op.load 3 (Operand.tmp 35), type := 3, pos := "tiers.go:276", after := #[{ on := 13, ground := Ground.data }], guard := none }) rfl (fun K hK => ?_) ?_
            · go_simp
              refine hK _ _ ?_
              clear hK K
              try go_frame
              refine wpAny_ready (rs := [6]) (by kernel_rfl) (by simp) ?_
              refine AllReady.cons (o := { dst := some 28, op := Op.load 3 (Operand.tmp 27), type := 3, pos := "tiers.go:276", after := #[{ on := 5, ground := Ground.data }], guard := none }) rfl (fun K hK => ?_) AllReady.nil
              go_simp
              refine hK _ _ ?_
              clear hK K
              try go_frame
              refine wpAny_ready (rs := [7]) (by kernel_rfl) (by simp) ?_
              refine AllReady.cons (o := { dst := some 29, op := Op.call { callee := Callee.value (Operand.func 27), args := #[Operand.tmp 23, Operand.tmp 28], argTypes := #[29, 3] }, type := 3, pos := "tiers.go:276", after := #[{ on := 1, ground := Ground.data }, { on := 6, ground := Ground.data }], guard := none }) rfl (fun K hK => ?_) AllReady.nil
              go_simp
              go_wp2_with (first | (go_at_call 27; refine (HF1.out _ F2).mono ?_; rintro r w5 ⟨rfl, f5⟩; obtain ⟨p0, p1, p2, q0, q1, q2, q3, te, sc⟩ := HC.out w5 f5))
              refine wpAny_ready (rs := [15]) (by kernel_rfl) (by simp) ?_
              refine AllReady.cons (o := { dst := some 37, op := Op.call { callee := Callee.value (Operand.func 37), args := #[Operand.tmp 29, Operand.tmp 36], argTypes := #[3, 3] }, type := 3, pos := "tiers.go:276", after := #[{ on := 7, ground := Ground.data }, { on := 14, ground := Ground.data }, { on := 7, ground := Ground.chain }], guard := none }) rfl (fun K hK => ?_) AllReady.nil
              go_simp
              go_wp2_with (first | (go_at_call 37; refine (HCl.out _).mono ?_; rintro r w6 ⟨rfl, rfl⟩))
              refine wpAny_ready (rs := [16]) (by kernel_rfl) (by simp) ?_
              refine AllReady.cons (o := { dst := some 38, op := Op.buildSlice 25 1 #[(0, Operand.tmp 37)], type := 25, pos := "tiers.go:276", after := #[{ on := 15, ground := Ground.data }], guard := none }) rfl (fun K hK => ?_) AllReady.nil
              go_simp
              refine hK _ _ ?_
              clear hK K
              try go_frame
              refine wpAny_ready (rs := [17]) (by kernel_rfl) (by simp) ?_
              refine AllReady.cons (o := { dst := some 39, op := Op.call { callee := Callee.builtin Builtin.append, args := #[Operand.tmp 22, Operand.tmp 38], argTypes := #[25, 25] }, type := 25, pos := "tiers.go:276", after := #[{ on := 0, ground := Ground.data }, { on := 16, ground := Ground.data }, { on := 15, ground := Ground.chain }], guard := none }) rfl (fun K hK => ?_) AllReady.nil
              rw [if_pos (by rfl)]
              have O5 := Lib.hid (Ho.out.skip f5)
              have Hr5 := Lib.hid (own_fr0 Hrow.out f5)
              have Hb05 := Lib.hid (Hb0.out.fr f5 (fun h => h))
              have Hb15 := Lib.hid (Hb1.out.fr f5 (fun h => h))
              refine op_app3 _ _ 25 rfl 3 i0 (.int .i64 0) 1 8 Tryz.underlying25 hi hz0 hz1 hz2 rfl (by decide) (.slice R k cs) k _ rfl 0 (Nat.zero_le _) (own_fr0 Hr5.out (Fr.none_alloc _ _)) (some ⟨w5.heap.size, 0, none⟩) 1 1 [.int .i64 cv] rfl (Rd.new w5 [.int .i64 cv] _ 1 rfl) (by simp [Value.oneCell']) (by unfold maxLen; omega) (by omega) (fun R6 c6 w6 ho6 hm6 _ => ?_)
              have Ho6 := Lib.hid ho6
              have Hm6 := Lib.hid hm6
              clear ho6 hm6
              refine hK _ _ ?_
              clear hK K
              try go_frame
              refine wpAny_ready (rs := [18]) (by kernel_rfl) (by simp) ?_
              refine AllReady.cons (o := { dst := some 5, op := Op.assign (Operand.tmp 39), type := 25, pos := "tiers.go:276", after := #[{ on := 17, ground := Ground.data }, { on := 17, ground := Ground.chain }, { on := 0, ground := Ground.phase }, { on := 1, ground := Ground.phase }, { on := 2, ground := Ground.phase }, { on := 3, ground := Ground.phase }, { on := 4, ground := Ground.phase }, { on := 5, ground := Ground.phase }, { on := 6, ground := Ground.phase }, { on := 7, ground := Ground.phase }, { on := 8, ground := Ground.phase }, { on := 9, ground := Ground.phase }, { on := 10, ground := Ground.phase }, { on := 11, ground := Ground.phase }, { on := 12, ground := Ground.phase }, { on := 13, ground := Ground.phase }, { on := 14, ground := Ground.phase }, { on := 15, ground := Ground.phase }, { on := 16, ground := Ground.phase }, { on := 17, ground := Ground.phase }], guard := none }) rfl (fun K hK => ?_) AllReady.nil
              go_simp
              refine hK _ _ ?_
              clear hK K
              try go_frame
              refine wpAny_done (by kernel_rfl) ?_ _
              go_wp2
              go_roundw
              case rel =>
                refine ⟨k + 1, R6, c6, by omega, by go_num, by go_num, (Hb05.out.alloc _).fr Hm6.out.fr (own_blk_ne Hr5.out Hb05.out (by decide)), (Hb15.out.alloc _).fr Hm6.out.fr (own_blk_ne Hr5.out Hb15.out (by decide)), ?_, (O5.out.skip (Fr.none_alloc _ _)).mv Hm6.out⟩
                have h := Ho6.out
                rw [take_snoc Hv.out]
                unfold ints at h ⊢
                rw [List.map_append]
                exact h
              case measure => simp [intOf]; omega
            exact AllReady.nil
          exact AllReady.nil
        refine AllReady.cons (o := { dst := some 28, op := Op.load 3 (Operand.tmp 27), type := 3, pos := "tiers.go:276", after := #[{ on := 5, ground := Ground.data }], guard := none }) rfl (fun K hK => ?_) ?_
        · go_simp
          refine hK _ _ ?_
          clear hK K
          try go_frame
          refine wpAny_ready (rs := [1, 10]) (by kernel_rfl) (by simp) ?_
          refine AllReady.cons (o := { dst := some 23, op := Op.load 29 (Operand.tmp 3), type := 29, pos := "tiers.go:276", after := #[], guard := none }) rfl (fun K hK => ?_) ?_
          · go_simp
            refine hK _ _ ?_
            clear hK K
            try go_frame
            refine wpAny_ready (rs := [7, 10]) (by kernel_rfl) (by simp) ?_
            refine AllReady.cons (o := { dst := some 29, op := Op.call { callee := Callee.value (Operand.func 27), args := #[Operand.tmp 23, Operand.tmp 28], argTypes := #[29, 3] }, type := 3, pos := "tiers.go:276", after := #[{ on := 1, ground := Ground.data }, { on := 6, ground := Ground.data }], guard := none }) rfl (fun K hK => ?_) ?_
            · go_simp
              go_wp2_with (first | (go_at_call 27; refine (HF1.out _ F2).mono ?_; rintro r w5 ⟨rfl, f5⟩; obtain ⟨p0, p1, p2, q0, q1, q2, q3, te, sc⟩ := HC.out w5 f5))
              try go_frame
              refine wpAny_ready (rs := [10]) (by kernel_rfl) (by simp) ?_
              refine AllReady.cons (o := { dst := some 32, op := Op.load 22 (Operand.tmp 31), type := 22, pos := "tiers.go:276", after := #[{ on := 9, ground := Ground.data }], guard := none }) rfl (fun K hK => ?_) AllReady.nil
              go_simp
              refine hK _ _ ?_
              clear hK K
              try go_frame
              refine wpAny_take (i := 12) (oi := { dst := some 34, op := Op.indexAddr 22 (Operand.tmp 32) (Operand.tmp 33), type := 0, pos := "tiers.go:276", after := #[{ on := 10, ground := Ground.data }, { on := 11, ground := Ground.data }], guard := none }) (v := ?vq25) rfl (by kernel_rfl) (by kernel_rfl) (by kernel_rfl) (fun _ _ _ h => h) (Or.inl ⟨by rfl, ?hq25⟩) ?rq25
              case hq25 => intro W; go_simp; (try with_reducible rfl)
              try go_frame
              refine wpAny_take (i := 13) (oi := { dst := some 35, op := Op.fieldAddr 69 (Operand.tmp 34) 1, type := 0, pos := "tiers.go:276", after := #[{ on := 12, ground := Ground.data }], guard := none }) (v := ?vq26) rfl (by kernel_rfl) (by kernel_rfl) (by kernel_rfl) (fun _ _ _ h => h) (Or.inl ⟨by rfl, ?hq26⟩) ?rq26
              case hq26 => intro W; go_simp; (try with_reducible rfl)
              try go_frame
              refine wpAny_ready (rs := [14]) (by kernel_rfl) (by simp) ?_
              refine AllReady.cons (o := { dst := some 36, op := Op.load 3 (Operand.tmp 35), type := 3, pos := "tiers.go:276", after := #[{ on := 13, ground := Ground.data }], guard := none }) rfl (fun K hK => ?_) AllReady.nil
              go_simp
              refine hK _ _ ?_
              clear hK K
              try go_frame
              refine wpAny_ready (rs := [15]) (by kernel_rfl) (by simp) ?_
              refine AllReady.cons (o := { dst := some 37, op := Op.call { callee := Callee.value (Operand.func 37), args := #[Operand.tmp 29, Operand.tmp 36], argTypes := #[3, 3] }, type := 3, pos := "tiers.go:276", after := #[{ on := 7, ground := Ground.data }, { on := 14, ground := Ground.data }, { on := 7, ground := Ground.chain }], guard := none }) rfl (fun K hK => ?_) AllReady.nil
              go_simp
              go_wp2_with (first | (go_at_call 37; refine (HCl.out _).mono ?_; rintro r w6 ⟨rfl, rfl⟩))
              refine wpAny_ready (rs := [16]) (by kernel_rfl) (by simp) ?_
              refine AllReady.cons (o := { dst := some 38, op := Op.buildSlice 25 1 #[(0, Operand.tmp 37)], type := 25, pos := "tiers.go:276", after := #[{ on := 15, ground := Ground.data }], guard := none }) rfl (fun K hK => ?_) AllReady.nil
              go_simp
              refine hK _ _ ?_
              clear hK K
              try go_frame
              refine wpAny_ready (rs := [17]) (by kernel_rfl) (by simp) ?_
              refine AllReady.cons (o := { dst := some 39, op := Op.call { callee := Callee.builtin Builtin.append, args := #[Operand.tmp 22, Operand.tmp 38], argTypes := #[25, 25] }, type := 25, pos := "tiers.go:276", after := #[{ on := 0, ground := Ground.data }, { on := 16, ground := Ground.data }, { on := 15, ground := Ground.chain }], guard := none }) rfl (fun K hK => ?_) AllReady.nil
              rw [if_pos (by rfl)]
              have O5 := Lib.hid (Ho.out.skip f5)
              have Hr5 := Lib.hid (own_fr0 Hrow.out f5)
              have Hb05 := Lib.hid (Hb0.out.fr f5 (fun h => h))
              have Hb15 := Lib.hid (Hb1.out.fr f5 (fun h => h))
              refine op_app3 _ _ 25 rfl 3 i0 (.int .i64 0) 1 8 Tryz.underlying25 hi hz0 hz1 hz2 rfl (by decide) (.slice R k cs) k _ rfl 0 (Nat.zero_le _) (own_fr0 Hr5.out (Fr.none_alloc _ _)) (some ⟨w5.heap.size, 0, none⟩) 1 1 [.int .i64 cv] rfl (Rd.new w5 [.int .i64 cv] _ 1 rfl) (by simp [Value.oneCell']) (by unfold maxLen; omega) (by omega) (fun R6 c6 w6 ho6 hm6 _ => ?_)
              have Ho6 := Lib.hid ho6
              have Hm6 := Lib.hid hm6
              clear ho6 hm6
              refine hK _ _ ?_
              clear hK K
              try go_frame
              refine wpAny_ready (rs := [18]) (by kernel_rfl) (by simp) ?_
              refine AllReady.cons (o := { dst := some 5, op := Op.assign (Operand.tmp 39), type := 25, pos := "tiers.go:276", after := #[{ on := 17, ground := Ground.data }, { on := 17, ground := Ground.chain }, { on := 0, ground := Ground.phase }, { on := 1, ground := Ground.phase }, { on := 2, ground := Ground.phase }, { on := 3, ground := Ground.phase }, { on := 4, ground := Ground.phase }, { on := 5, ground := Ground.phase }, { on := 6, ground := Ground.phase }, { on := 7, ground := Ground.phase }, { on := 8, ground := Ground.phase }, { on := 9, ground := Ground.phase }, { on := 10, ground := Ground.phase }, { on := 11, ground := Ground.phase }, { on := 12, ground := Ground.phase }, { on := 13, ground := Ground.phase }, { on := 14, ground := Ground.phase }, { on := 15, ground := Ground.phase }, { on := 16, ground := Ground.phase }, { on := 17, ground := Ground.phase }], guard := none }) rfl (fun K hK => ?_) AllReady.nil
              go_simp
              refine hK _ _ ?_
              clear hK K
              try go_frame
              refine wpAny_done (by kernel_rfl) ?_ _
              go_wp2
              go_roundw
              case rel =>
                refine ⟨k + 1, R6, c6, by omega, by go_num, by go_num, (Hb05.out.alloc _).fr Hm6.out.fr (own_blk_ne Hr5.out Hb05.out (by decide)), (Hb15.out.alloc _).fr Hm6.out.fr (own_blk_ne Hr5.out Hb15.out (by decide)), ?_, (O5.out.skip (Fr.none_alloc _ _)).mv Hm6.out⟩
                have h := Ho6.out
                rw [take_snoc Hv.out]
                unfold ints at h ⊢
                rw [List.map_append]
                exact h
              case measure => simp [intOf]; omega
            refine AllReady.cons (o := { dst := some 32, op := Op.load 22 (Operand.tmp 31), type := 22, pos := "tiers.go:276", after := #[{ on := 9, ground := Ground.data }], guard := none }) rfl (fun K hK => ?_) ?_
            · go_simp
              refine hK _ _ ?_
              clear hK K
              try go_frame
              refine wpAny_take (i := 12) (oi := { dst := some 34, op := Op.indexAddr 22 (Operand.tmp 32) (Operand.tmp 33), type := 0, pos := "tiers.go:276", after := #[{ on := 10, ground := Ground.data }, { on := 11, ground := Ground.data }], guard := none }) (v := ?vq27) rfl (by kernel_rfl) (by kernel_rfl) (by kernel_rfl) (fun _ _ _ h => h) (Or.inl ⟨by rfl, ?hq27⟩) ?rq27
              case hq27 => intro W; go_simp; (try with_reducible rfl)
              try go_frame
              refine wpAny_take (i := 13) (oi := { dst := some 35, op := Op.fieldAddr 69 (Operand.tmp 34) 1, type := 0, pos := "tiers.go:276", after := #[{ on := 12, ground := Ground.data }], guard := none }) (v := ?vq28) rfl (by kernel_rfl) (by kernel_rfl) (by kernel_rfl) (fun _ _ _ h => h) (Or.inl ⟨by rfl, ?hq28⟩) ?rq28
              case hq28 => intro W; go_simp; (try with_reducible rfl)
              try go_frame
              refine wpAny_ready (rs := [7, 14]) (by kernel_rfl) (by simp) ?_
              refine AllReady.cons (o := { dst := some 29, op := Op.call { callee := Callee.value (Operand.func 27), args := #[Operand.tmp 23, Operand.tmp 28], argTypes := #[29, 3] }, type := 3, pos := "tiers.go:276", after := #[{ on := 1, ground := Ground.data }, { on := 6, ground := Ground.data }], guard := none }) rfl (fun K hK => ?_) ?_
              · go_simp
                go_wp2_with (first | (go_at_call 27; refine (HF1.out _ F2).mono ?_; rintro r w5 ⟨rfl, f5⟩; obtain ⟨p0, p1, p2, q0, q1, q2, q3, te, sc⟩ := HC.out w5 f5))
                try go_frame
                refine wpAny_ready (rs := [14]) (by kernel_rfl) (by simp) ?_
                refine AllReady.cons (o := { dst := some 36, op := Op.load 3 (Operand.tmp 35), type := 3, pos := "tiers.go:276", after := #[{ on := 13, ground := Ground.data }], guard := none }) rfl (fun K hK => ?_) AllReady.nil
                go_simp
                refine hK _ _ ?_
                clear hK K
                try go_frame
                refine wpAny_ready (rs := [15]) (by kernel_rfl) (by simp) ?_
                refine AllReady.cons (o := { dst := some 37, op := Op.call { callee := Callee.value (Operand.func 37), args := #[Operand.tmp 29, Operand.tmp 36], argTypes := #[3, 3] }, type := 3, pos := "tiers.go:276", after := #[{ on := 7, ground := Ground.data }, { on := 14, ground := Ground.data }, { on := 7, ground := Ground.chain }], guard := none }) rfl (fun K hK => ?_) AllReady.nil
                go_simp
                go_wp2_with (first | (go_at_call 37; refine (HCl.out _).mono ?_; rintro r w6 ⟨rfl, rfl⟩))
                refine wpAny_ready (rs := [16]) (by kernel_rfl) (by simp) ?_
                refine AllReady.cons (o := { dst := some 38, op := Op.buildSlice 25 1 #[(0, Operand.tmp 37)], type := 25, pos := "tiers.go:276", after := #[{ on := 15, ground := Ground.data }], guard := none }) rfl (fun K hK => ?_) AllReady.nil
                go_simp
                refine hK _ _ ?_
                clear hK K
                try go_frame
                refine wpAny_ready (rs := [17]) (by kernel_rfl) (by simp) ?_
                refine AllReady.cons (o := { dst := some 39, op := Op.call { callee := Callee.builtin Builtin.append, args := #[Operand.tmp 22, Operand.tmp 38], argTypes := #[25, 25] }, type := 25, pos := "tiers.go:276", after := #[{ on := 0, ground := Ground.data }, { on := 16, ground := Ground.data }, { on := 15, ground := Ground.chain }], guard := none }) rfl (fun K hK => ?_) AllReady.nil
                rw [if_pos (by rfl)]
                have O5 := Lib.hid (Ho.out.skip f5)
                have Hr5 := Lib.hid (own_fr0 Hrow.out f5)
                have Hb05 := Lib.hid (Hb0.out.fr f5 (fun h => h))
                have Hb15 := Lib.hid (Hb1.out.fr f5 (fun h => h))
                refine op_app3 _ _ 25 rfl 3 i0 (.int .i64 0) 1 8 Tryz.underlying25 hi hz0 hz1 hz2 rfl (by decide) (.slice R k cs) k _ rfl 0 (Nat.zero_le _) (own_fr0 Hr5.out (Fr.none_alloc _ _)) (some ⟨w5.heap.size, 0, none⟩) 1 1 [.int .i64 cv] rfl (Rd.new w5 [.int .i64 cv] _ 1 rfl) (by simp [Value.oneCell']) (by unfold maxLen; omega) (by omega) (fun R6 c6 w6 ho6 hm6 _ => ?_)
                have Ho6 := Lib.hid ho6
                have Hm6 := Lib.hid hm6
                clear ho6 hm6
                refine hK _ _ ?_
                clear hK K
                try go_frame
                refine wpAny_ready (rs := [18]) (by kernel_rfl) (by simp) ?_
                refine AllReady.cons (o := { dst := some 5, op := Op.assign (Operand.tmp 39), type := 25, pos := "tiers.go:276", after := #[{ on := 17, ground := Ground.data }, { on := 17, ground := Ground.chain }, { on := 0, ground := Ground.phase }, { on := 1, ground := Ground.phase }, { on := 2, ground := Ground.phase }, { on := 3, ground := Ground.phase }, { on := 4, ground := Ground.phase }, { on := 5, ground := Ground.phase }, { on := 6, ground := Ground.phase }, { on := 7, ground := Ground.phase }, { on := 8, ground := Ground.phase }, { on := 9, ground := Ground.phase }, { on := 10, ground := Ground.phase }, { on := 11, ground := Ground.phase }, { on := 12, ground := Ground.phase }, { on := 13, ground := Ground.phase }, { on := 14, ground := Ground.phase }, { on := 15, ground := Ground.phase }, { on := 16, ground := Ground.phase }, { on := 17, ground := Ground.phase }], guard := none }) rfl (fun K hK => ?_) AllReady.nil
                go_simp
                refine hK _ _ ?_
                clear hK K
                try go_frame
                refine wpAny_done (by kernel_rfl) ?_ _
                go_wp2
                go_roundw
                case rel =>
                  refine ⟨k + 1, R6, c6, by omega, by go_num, by go_num, (Hb05.out.alloc _).fr Hm6.out.fr (own_blk_ne Hr5.out Hb05.out (by decide)), (Hb15.out.alloc _).fr Hm6.out.fr (own_blk_ne Hr5.out Hb15.out (by decide)), ?_, (O5.out.skip (Fr.none_alloc _ _)).mv Hm6.out⟩
                  have h := Ho6.out
                  rw [take_snoc Hv.out]
                  unfold ints at h ⊢
                  rw [List.map_append]
                  exact h
                case measure => simp [intOf]; omega
              refine AllReady.cons (o := { dst := some 36, op := Op.load 3 (Operand.tmp 35), type := 3, pos := "tiers.go:276", after := #[{ on := 13, ground := Ground.data }], guard := none }) rfl (fun K hK => ?_) ?_
              · go_simp
                refine hK _ _ ?_
                clear hK K
                try go_frame
                refine wpAny_ready (rs := [7]) (by kernel_rfl) (by simp) ?_
                refine AllReady.cons (o := { dst := some 29, op := Op.call { callee := Callee.value (Operand.func 27), args := #[Operand.tmp 23, Operand.tmp 28], argTypes := #[29, 3] }, type := 3, pos := "tiers.go:276", after := #[{ on := 1, ground := Ground.data }, { on := 6, ground := Ground.data }], guard := none }) rfl (fun K hK => ?_) AllReady.nil
                go_simp
                go_wp2_with (first | (go_at_call 27; refine (HF1.out _ F2).mono ?_; rintro r w5 ⟨rfl, f5⟩; obtain ⟨p0, p1, p2, q0, q1, q2, q3, te, sc⟩ := HC.out w5 f5))
                refine wpAny_ready (rs := [15]) (by kernel_rfl) (by simp) ?_
                refine AllReady.cons (o := { dst := some 37, op := Op.call { callee := Callee.value (Operand.func 37), args := #[Operand.tmp 29, Operand.tmp 36], argTypes := #[3, 3] }, type := 3, pos := "tiers.go:276", after := #[{ on := 7, ground := Ground.data }, { on := 14, ground := Ground.data }, { on := 7, ground := Ground.chain }], guard := none }) rfl (fun K hK => ?_) AllReady.nil
                go_simp
                go_wp2_with (first | (go_at_call 37; refine (HCl.out _).mono ?_; rintro r w6 ⟨rfl, rfl⟩))
                refine wpAny_ready (rs := [16]) (by kernel_rfl) (by simp) ?_
                refine AllReady.cons (o := { dst := some 38, op := Op.buildSlice 25 1 #[(0, Operand.tmp 37)], type := 25, pos := "tiers.go:276", after := #[{ on := 15, ground := Ground.data }], guard := none }) rfl (fun K hK => ?_) AllReady.nil
                go_simp
                refine hK _ _ ?_
                clear hK K
                try go_frame
                refine wpAny_ready (rs := [17]) (by kernel_rfl) (by simp) ?_
                refine AllReady.cons (o := { dst := some 39, op := Op.call { callee := Callee.builtin Builtin.append, args := #[Operand.tmp 22, Operand.tmp 38], argTypes := #[25, 25] }, type := 25, pos := "tiers.go:276", after := #[{ on := 0, ground := Ground.data }, { on := 16, ground := Ground.data }, { on := 15, ground := Ground.chain }], guard := none }) rfl (fun K hK => ?_) AllReady.nil
                rw [if_pos (by rfl)]
                have O5 := Lib.hid (Ho.out.skip f5)
                have Hr5 := Lib.hid (own_fr0 Hrow.out f5)
                have Hb05 := Lib.hid (Hb0.out.fr f5 (fun h => h))
                have Hb15 := Lib.hid (Hb1.out.fr f5 (fun h => h))
                refine op_app3 _ _ 25 rfl 3 i0 (.int .i64 0) 1 8 Tryz.underlying25 hi hz0 hz1 hz2 rfl (by decide) (.slice R k cs) k _ rfl 0 (Nat.zero_le _) (own_fr0 Hr5.out (Fr.none_alloc _ _)) (some ⟨w5.heap.size, 0, none⟩) 1 1 [.int .i64 cv] rfl (Rd.new w5 [.int .i64 cv] _ 1 rfl) (by simp [Value.oneCell']) (by unfold maxLen; omega) (by omega) (fun R6 c6 w6 ho6 hm6 _ => ?_)
                have Ho6 := Lib.hid ho6
                have Hm6 := Lib.hid hm6
                clear ho6 hm6
                refine hK _ _ ?_
                clear hK K
                try go_frame
                refine wpAny_ready (rs := [18]) (by kernel_rfl) (by simp) ?_
                refine AllReady.cons (o := { dst := some 5, op := Op.assign (Operand.tmp 39), type := 25, pos := "tiers.go:276", after := #[{ on := 17, ground := Ground.data }, { on := 17, ground := Ground.chain }, { on := 0, ground := Ground.phase }, { on := 1, ground := Ground.phase }, { on := 2, ground := Ground.phase }, { on := 3, ground := Ground.phase }, { on := 4, ground := Ground.phase }, { on := 5, ground := Ground.phase }, { on := 6, ground := Ground.phase }, { on := 7, ground := Ground.phase }, { on := 8, ground := Ground.phase }, { on := 9, ground := Ground.phase }, { on := 10, ground := Ground.phase }, { on := 11, ground := Ground.phase }, { on := 12, ground := Ground.phase }, { on := 13, ground := Ground.phase }, { on := 14, ground := Ground.phase }, { on := 15, ground := Ground.phase }, { on := 16, ground := Ground.phase }, { on := 17, ground := Ground.phase }], guard := none }) rfl (fun K hK => ?_) AllReady.nil
                go_simp
                refine hK _ _ ?_
                clear hK K
                try go_frame
                refine wpAny_done (by kernel_rfl) ?_ _
                go_wp2
                go_roundw
                case rel =>
                  refine ⟨k + 1, R6, c6, by omega, by go_num, by go_num, (Hb05.out.alloc _).fr Hm6.out.fr (own_blk_ne Hr5.out Hb05.out (by decide)), (Hb15.out.alloc _).fr Hm6.out.fr (own_blk_ne Hr5.out Hb15.out (by decide)), ?_, (O5.out.skip (Fr.none_alloc _ _)).mv Hm6.out⟩
                  have h := Ho6.out
                  rw [take_snoc Hv.out]
                  unfold ints at h ⊢
                  rw [List.map_append]
                  exact h
                case measure => simp [intOf]; omega
              exact AllReady.nil
            exact AllReady.nil
          refine AllReady.cons (o := { dst := some 32, op := Op.load 22 (Operand.tmp 31), type := 22, pos := "tiers.go:276", after := #[{ on := 9, ground := Ground.data }], guard := none }) rfl (fun K hK => ?_) ?_
          · go_simp
            refine hK _ _ ?_
            clear hK K
            try go_frame
            refine wpAny_take (i := 12) (oi := { dst := some 34, op := Op.indexAddr 22 (Operand.tmp 32) (Operand.tmp 33), type := 0, pos := "tiers.go:276", after := #[{ on := 10, ground := Ground.data }, { on := 11, ground := Ground.data }], guard := none }) (v := ?vq29) rfl (by kernel_rfl) (by kernel_rfl) (by kernel_rfl) (fun _ _ _ h => h) (Or.inl ⟨by rfl, ?hq29⟩) ?rq29
            case hq29 => intro W; go_simp; (try with_reducible rfl)
            try go_frame
            refine wpAny_take (i := 13) (oi := { dst := some 35, op := Op.fieldAddr 69 (Operand.tmp 34) 1, type := 0, pos := "tiers.go:276", after := #[{ on := 12, ground := Ground.data }], guard := none }) (v := ?vq30) rfl (by kernel_rfl) (by kernel_rfl) (by kernel_rfl) (fun _ _ _ h => h) (Or.inl ⟨by rfl, ?hq30⟩) ?rq30
            case hq30 => intro W; go_simp; (try with_reducible rfl)
            try go_frame
            refine wpAny_ready (rs := [1, 14]) (by kernel_rfl) (by simp) ?_
            refine AllReady.cons (o := { dst := some 23, op := Op.load 29 (Operand.tmp 3), type := 29, pos := "tiers.go:276", after := #[], guard := none }) rfl (fun K hK => ?_) ?_
            · go_simp
              refine hK _ _ ?_
              clear hK K
              try go_frame
              refine wpAny_ready (rs := [7, 14]) (by kernel_rfl) (by simp) ?_
              refine AllReady.cons (o := { dst := some 29, op := Op.call { callee := Callee.value (Operand.func 27), args := #[Operand.tmp 23, Operand.tmp 28], argTypes := #[29, 3] }, type := 3, pos := "tiers.go:276", after := #[{ on := 1, ground := Ground.data }, { on := 6, ground := Ground.data }], guard := none }) rfl (fun K hK => ?_) ?_
              · go_simp
                go_wp2_with (first | (go_at_call 27; refine (HF1.out _ F2).mono ?_; rintro r w5 ⟨rfl, f5⟩; obtain ⟨p0, p1, p2, q0, q1, q2, q3, te, sc⟩ := HC.out w5 f5))
                try go_frame
                refine wpAny_ready (rs := [14]) (by kernel_rfl) (by simp) ?_
                refine AllReady.cons (o := { dst := some 36, op := Op.load 3 (Operand.tmp 35), type := 3, pos := "tiers.go:276", after := #[{ on := 13, ground := Ground.data }], guard := none }) rfl (fun K hK => ?_) AllReady.nil
                go_simp
                refine hK _ _ ?_
                clear hK K
                try go_frame
                refine wpAny_ready (rs := [15]) (by kernel_rfl) (by simp) ?_
                refine AllReady.cons (o := { dst := some 37, op := Op.call { callee := Callee.value (Operand.func 37), args := #[Operand.tmp 29, Operand.tmp 36], argTypes := #[3, 3] }, type := 3, pos := "tiers.go:276", after := #[{ on := 7, ground := Ground.data }, { on := 14, ground := Ground.data }, { on := 7, ground := Ground.chain }], guard := none }) rfl (fun K hK => ?_) AllReady.nil
                go_simp
                go_wp2_with (first | (go_at_call 37; refine (HCl.out _).mono ?_; rintro r w6 ⟨rfl, rfl⟩))
                refine wpAny_ready (rs := [16]) (by kernel_rfl) (by simp) ?_
                refine AllReady.cons (o := { dst := some 38, op := Op.buildSlice 25 1 #[(0, Operand.tmp 37)], type := 25, pos := "tiers.go:276", after := #[{ on := 15, ground := Ground.data }], guard := none }) rfl (fun K hK => ?_) AllReady.nil
                go_simp
                refine hK _ _ ?_
                clear hK K
                try go_frame
                refine wpAny_ready (rs := [17]) (by kernel_rfl) (by simp) ?_
                refine AllReady.cons (o := { dst := some 39, op := Op.call { callee := Callee.builtin Builtin.append, args := #[Operand.tmp 22, Operand.tmp 38], argTypes := #[25, 25] }, type := 25, pos := "tiers.go:276", after := #[{ on := 0, ground := Ground.data }, { on := 16, ground := Ground.data }, { on := 15, ground := Ground.chain }], guard := none }) rfl (fun K hK => ?_) AllReady.nil
                rw [if_pos (by rfl)]
                have O5 := Lib.hid (Ho.out.skip f5)
                have Hr5 := Lib.hid (own_fr0 Hrow.out f5)
                have Hb05 := Lib.hid (Hb0.out.fr f5 (fun h => h))
                have Hb15 := Lib.hid (Hb1.out.fr f5 (fun h => h))
                refine op_app3 _ _ 25 rfl 3 i0 (.int .i64 0) 1 8 Tryz.underlying25 hi hz0 hz1 hz2 rfl (by decide) (.slice R k cs) k _ rfl 0 (Nat.zero_le _) (own_fr0 Hr5.out (Fr.none_alloc _ _)) (some ⟨w5.heap.size, 0, none⟩) 1 1 [.int .i64 cv] rfl (Rd.new w5 [.int .i64 cv] _ 1 rfl) (by simp [Value.oneCell']) (by unfold maxLen; omega) (by omega) (fun R6 c6 w6 ho6 hm6 _ => ?_)
                have Ho6 := Lib.hid ho6
                have Hm6 := Lib.hid hm6
                clear ho6 hm6
                refine hK _ _ ?_
                clear hK K
                try go_frame
                refine wpAny_ready (rs := [18]) (by kernel_rfl) (by simp) ?_
                refine AllReady.cons (o := { dst := some 5, op := Op.assign (Operand.tmp 39), type := 25, pos := "tiers.go:276", after := #[{ on := 17, ground := Ground.data }, { on := 17, ground := Ground.chain }, { on := 0, ground := Ground.phase }, { on := 1, ground := Ground.phase }, { on := 2, ground := Ground.phase }, { on := 3, ground := Ground.phase }, { on := 4, ground := Ground.phase }, { on := 5, ground := Ground.phase }, { on := 6, ground := Ground.phase }, { on := 7, ground := Ground.phase }, { on := 8, ground := Ground.phase }, { on := 9, ground := Ground.phase }, { on := 10, ground := Ground.phase }, { on := 11, ground := Ground.phase }, { on := 12, ground := Ground.phase }, { on := 13, ground := Ground.phase }, { on := 14, ground := Ground.phase }, { on := 15, ground := Ground.phase }, { on := 16, ground := Ground.phase }, { on := 17, ground := Ground.phase }], guard := none }) rfl (fun K hK => ?_) AllReady.nil
                go_simp
                refine hK _ _ ?_
                clear hK K
                try go_frame
                refine wpAny_done (by kernel_rfl) ?_ _
                go_wp2
                go_roundw
                case rel =>
                  refine ⟨k + 1, R6, c6, by omega, by go_num, by go_num, (Hb05.out.alloc _).fr Hm6.out.fr (own_blk_ne Hr5.out Hb05.out (by decide)), (Hb15.out.alloc _).fr Hm6.out.fr (own_blk_ne Hr5.out Hb15.out (by decide)), ?_, (O5.out.skip (Fr.none_alloc _ _)).mv Hm6.out⟩
                  have h := Ho6.out
                  rw [take_snoc Hv.out]
                  unfold ints at h ⊢
                  rw [List.map_append]
                  exact h
                case measure => simp [intOf]; omega
              refine AllReady.cons (o := { dst := some 36, op := Op.load 3 (Operand.tmp 35), type := 3, pos := "tiers.go:276", after := #[{ on := 13, ground := Ground.data }], guard := none }) rfl (fun K hK => ?_) ?_
              · go_simp
                refine hK _ _ ?_
                clear hK K
                try go_frame
                refine wpAny_ready (rs := [7]) (by kernel_rfl) (by simp) ?_
                refine AllReady.cons (o := { dst := some 29, op := Op.call { callee := Callee.value (Operand.func 27), args := #[Operand.tmp 23, Operand.tmp 28], argTypes := #[29, 3] }, type := 3, pos := "tiers.go:276", after := #[{ on := 1, ground := Ground.data }, { on := 6, ground := Ground.data }], guard := none }) rfl (fun K hK => ?_) AllReady.nil
                go_simp
                go_wp2_with (first | (go_at_call 27; refine (HF1.out _ F2).mono ?_; rintro r w5 ⟨rfl, f5⟩; obtain ⟨p0, p1, p2, q0, q1, q2, q3, te, sc⟩ := HC.out w5 f5))
                refine wpAny_ready (rs := [15]) (by kernel_rfl) (by simp) ?_
                refine AllReady.cons (o := { dst := some 37, op := Op.call { callee := Callee.value (Operand.func 37), args := #[Operand.tmp 29, Operand.tmp 36], argTypes := #[3, 3] }, type := 3, pos := "tiers.go:276", after := #[{ on := 7, ground := Ground.data }, { on := 14, ground := Ground.data }, { on := 7, ground := Ground.chain }], guard := none }) rfl (fun K hK => ?_) AllReady.nil
                go_simp
                go_wp2_with (first | (go_at_call 37; refine (HCl.out _).mono ?_; rintro r w6 ⟨rfl, rfl⟩))
                refine wpAny_ready (rs := [16]) (by kernel_rfl) (by simp) ?_
                refine AllReady.cons (o := { dst := some 38, op := Op.buildSlice 25 1 #[(0, Operand.tmp 37)], type := 25, pos := "tiers.go:276", after := #[{ on := 15, ground := Ground.data }], guard := none }) rfl (fun K hK => ?_) AllReady.nil
                go_simp
                refine hK _ _ ?_
                clear hK K
                try go_frame
                refine wpAny_ready (rs := [17]) (by kernel_rfl) (by simp) ?_
                refine AllReady.cons (o := { dst := some 39, op := Op.call { callee := Callee.builtin Builtin.append, args := #[Operand.tmp 22, Operand.tmp 38], argTypes := #[25, 25] }, type := 25, pos := "tiers.go:276", after := #[{ on := 0, ground := Ground.data }, { on := 16, ground := Ground.data }, { on := 15, ground := Ground.chain }], guard := none }) rfl (fun K hK => ?_) AllReady.nil
                rw [if_pos (by rfl)]
                have O5 := Lib.hid (Ho.out.skip f5)
                have Hr5 := Lib.hid (own_fr0 Hrow.out f5)
                have Hb05 := Lib.hid (Hb0.out.fr f5 (fun h => h))
                have Hb15 := Lib.hid (Hb1.out.fr f5 (fun h => h))
                refine op_app3 _ _ 25 rfl 3 i0 (.int .i64 0) 1 8 Tryz.underlying25 hi hz0 hz1 hz2 rfl (by decide) (.slice R k cs) k _ rfl 0 (Nat.zero_le _) (own_fr0 Hr5.out (Fr.none_alloc _ _)) (some ⟨w5.heap.size, 0, none⟩) 1 1 [.int .i64 cv] rfl (Rd.new w5 [.int .i64 cv] _ 1 rfl) (by simp [Value.oneCell']) (by unfold maxLen; omega) (by omega) (fun R6 c6 w6 ho6 hm6 _ => ?_)
                have Ho6 := Lib.hid ho6
                have Hm6 := Lib.hid hm6
                clear ho6 hm6
                refine hK _ _ ?_
                clear hK K
                try go_frame
                refine wpAny_ready (rs := [18]) (by kernel_rfl) (by simp) ?_
                refine AllReady.cons (o := { dst := some 5, op := Op.assign (Operand.tmp 39), type := 25, pos := "tiers.go:276", after := #[{ on := 17, ground := Ground.data }, { on := 17, ground := Ground.chain }, { on := 0, ground := Ground.phase }, { on := 1, ground := Ground.phase }, { on := 2, ground := Ground.phase }, { on := 3, ground := Ground.phase }, { on := 4, ground := Ground.phase }, { on := 5, ground := Ground.phase }, { on := 6, ground := Ground.phase }, { on := 7, ground := Ground.phase }, { on := 8, ground := Ground.phase }, { on := 9, ground := Ground.phase }, { on := 10, ground := Ground.phase }, { on := 11, ground := Ground.phase }, { on := 12, ground := Ground.phase }, { on := 13, ground := Ground.phase }, { on := 14, ground := Ground.phase }, { on := 15, ground := Ground.phase }, { on := 16, ground := Ground.phase }, { on := 17, ground := Ground.phase }], guard := none }) rfl (fun K hK => ?_) AllReady.nil
                go_simp
                refine hK _ _ ?_
                clear hK K
                try go_frame
                refine wpAny_done (by kernel_rfl) ?_ _
                go_wp2
                go_roundw
                case rel =>
                  refine ⟨k + 1, R6, c6, by omega, by go_num, by go_num, (Hb05.out.alloc _).fr Hm6.out.fr (own_blk_ne Hr5.out Hb05.out (by decide)), (Hb15.out.alloc _).fr Hm6.out.fr (own_blk_ne Hr5.out Hb15.out (by decide)), ?_, (O5.out.skip (Fr.none_alloc _ _)).mv Hm6.out⟩
                  have h := Ho6.out
                  rw [take_snoc Hv.out]
                  unfold ints at h ⊢
                  rw [List.map_append]
                  exact h
                case measure => simp [intOf]; omega
              exact AllReady.nil
            refine AllReady.cons (o := { dst := some 36, op := Op.load 3 (Operand.tmp 35), type := 3, pos := "tiers.go:276", after := #[{ on := 13, ground := Ground.data }], guard := none }) rfl (fun K hK => ?_) ?_
            · go_simp
              refine hK _ _ ?_
              clear hK K
              try go_frame
              refine wpAny_ready (rs := [1]) (by kernel_rfl) (by simp) ?_
              refine AllReady.cons (o := { dst := some 23, op := Op.load 29 (Operand.tmp 3), type := 29, pos := "tiers.go:276", after := #[], guard := none }) rfl (fun K hK => ?_) AllReady.nil
              go_simp
              refine hK _ _ ?_
              clear hK K
              try go_frame
              refine wpAny_ready (rs := [7]) (by kernel_rfl) (by simp) ?_
              refine AllReady.cons (o := { dst := some 29, op := Op.call { callee := Callee.value (Operand.func 27), args := #[Operand.tmp 23, Operand.tmp 28], argTypes := #[29, 3] }, type := 3, pos := "tiers.go:276", after := #[{ on := 1, ground := Ground.data }, { on := 6, ground := Ground.data }], guard := none }) rfl (fun K hK => ?_) AllReady.nil
              go_simp
              go_wp2_with (first | (go_at_call 27; refine (HF1.out _ F2).mono ?_; rintro r w5 ⟨rfl, f5⟩; obtain ⟨p0, p1, p2, q0, q1, q2, q3, te, sc⟩ := HC.out w5 f5))
              refine wpAny_ready (rs := [15]) (by kernel_rfl) (by simp) ?_
              refine AllReady.cons (o := { dst := some 37, op := Op.call { callee := Callee.value (Operand.func 37), args := #[Operand.tmp 29, Operand.tmp 36], argTypes := #[3, 3] }, type := 3, pos := "tiers.go:276", after := #[{ on := 7, ground := Ground.data }, { on := 14, ground := Ground.data }, { on := 7, ground := Ground.chain }], guard := none }) rfl (fun K hK => ?_) AllReady.nil
              go_simp
              go_wp2_with (first | (go_at_call 37; refine (HCl.out _).mono ?_; rintro r w6 ⟨rfl, rfl⟩))
              refine wpAny_ready (rs := [16]) (by kernel_rfl) (by simp) ?_
              refine AllReady.cons (o := { dst := some 38, op := Op.buildSlice 25 1 #[(0, Operand.tmp 37)], type := 25, pos := "tiers.go:276", after := #[{ on := 15, ground := Ground.data }], guard := none }) rfl (fun K hK => ?_) AllReady.nil
              go_simp
              refine hK _ _ ?_
              clear hK K
              try go_frame
              refine wpAny_ready (rs := [17]) (by kernel_rfl) (by simp) ?_
              refine AllReady.cons (o := { dst := some 39, op := Op.call { callee := Callee.builtin Builtin.append, args := #[Operand.tmp 22, Operand.tmp 38], argTypes := #[25, 25] }, type := 25, pos := "tiers.go:276", after := #[{ on := 0, ground := Ground.data }, { on := 16, ground := Ground.data }, { on := 15, ground := Ground.chain }], guard := none }) rfl (fun K hK => ?_) AllReady.nil
              rw [if_pos (by rfl)]
              have O5 := Lib.hid (Ho.out.skip f5)
              have Hr5 := Lib.hid (own_fr0 Hrow.out f5)
              have Hb05 := Lib.hid (Hb0.out.fr f5 (fun h => h))
              have Hb15 := Lib.hid (Hb1.out.fr f5 (fun h => h))
              refine op_app3 _ _ 25 rfl 3 i0 (.int .i64 0) 1 8 Tryz.underlying25 hi hz0 hz1 hz2 rfl (by decide) (.slice R k cs) k _ rfl 0 (Nat.zero_le _) (own_fr0 Hr5.out (Fr.none_alloc _ _)) (some ⟨w5.heap.size, 0, none⟩) 1 1 [.int .i64 cv] rfl (Rd.new w5 [.int .i64 cv] _ 1 rfl) (by simp [Value.oneCell']) (by unfold maxLen; omega) (by omega) (fun R6 c6 w6 ho6 hm6 _ => ?_)
              have Ho6 := Lib.hid ho6
              have Hm6 := Lib.hid hm6
              clear ho6 hm6
              refine hK _ _ ?_
              clear hK K
              try go_frame
              refine wpAny_ready (rs := [18]) (by kernel_rfl) (by simp) ?_
              refine AllReady.cons (o := { dst := some 5, op := Op.assign (Operand.tmp 39), type := 25, pos := "tiers.go:276", after := #[{ on := 17, ground := Ground.data }, { on := 17, ground := Ground.chain }, { on := 0, ground := Ground.phase }, { on := 1, ground := Ground.phase }, { on := 2, ground := Ground.phase }, { on := 3, ground := Ground.phase }, { on := 4, ground := Ground.phase }, { on := 5, ground := Ground.phase }, { on := 6, ground := Ground.phase }, { on := 7, ground := Ground.phase }, { on := 8, ground := Ground.phase }, { on := 9, ground := Ground.phase }, { on := 10, ground := Ground.phase }, { on := 11, ground := Ground.phase }, { on := 12, ground := Ground.phase }, { on := 13, ground := Ground.phase }, { on := 14, ground := Ground.phase }, { on := 15, ground := Ground.phase }, { on := 16, ground := Ground.phase }, { on := 17, ground := Ground.phase }], guard := none }) rfl (fun K hK => ?_) AllReady.nil
              go_simp
              refine hK _ _ ?_
              clear hK K
              try go_frame
              refine wpAny_done (by kernel_rfl) ?_ _
              go_wp2
              go_roundw
              case rel =>
                refine ⟨k + 1, R6, c6, by omega, by go_num, by go_num, (Hb05.out.alloc _).fr Hm6.out.fr (own_blk_ne Hr5.out Hb05.out (by decide)), (Hb15.out.alloc _).fr Hm6.out.fr (own_blk_ne Hr5.out Hb15.out (by decide)), ?_, (O5.out.skip (Fr.none_alloc _ _)).mv Hm6.out⟩
                have h := Ho6.out
                rw [take_snoc Hv.out]
                unfold ints at h ⊢
                rw [List.map_append]
                exact h
              case measure => simp [intOf]; omega
            exact AllReady.nil
          exact AllReady.nil
        refine AllReady.cons (o := { dst := some 32, op := Op.load 22 (Operand.tmp 31), type := 22, pos := "tiers.go:276", after := #[{ on := 9, ground := Ground.data }], guard := none }) rfl (fun K hK => ?_) ?_
        · go_simp
          refine hK _ _ ?_
          clear hK K
          try go_frame
          refine wpAny_take (i := 12) (oi := { dst := some 34, op := Op.indexAddr 22 (Operand.tmp 32) (Operand.tmp 33), type := 0, pos := "tiers.go:276", after := #[{ on := 10, ground := Ground.data }, { on := 11, ground := Ground.data }], guard := none }) (v := ?vq31) rfl (by kernel_rfl) (by kernel_rfl) (by kernel_rfl) (fun _ _ _ h => h) (Or.inl ⟨by rfl, ?hq31⟩) ?rq31
          case hq31 => intro W; go_simp; (try with_reducible rfl)
          try go_frame
          refine wpAny_take (i := 13) (oi := { dst := some 35, op := Op.fieldAddr 69 (Operand.tmp 34) 1, type := 0, pos := "tiers.go:276", after := #[{ on := 12, ground := Ground.data }], guard := none }) (v := ?vq32) rfl (by kernel_rfl) (by kernel_rfl) (by kernel_rfl) (fun _ _ _ h => h) (Or.inl ⟨by rfl, ?hq32⟩) ?rq32
          case hq32 => intro W; go_simp; (try with_reducible rfl)
          try go_frame
          refine wpAny_ready (rs := [1, 6, 14]) (by kernel_rfl) (by simp) ?_
          refine AllReady.cons (o := { dst := some 23, op := Op.load 29 (Operand.tmp 3), type := 29, pos := "tiers.go:276", after := #[], guard := none }) rfl (fun K hK => ?_) ?_
          · go_simp
            refine hK _ _ ?_
            clear hK K
            try go_frame
            refine wpAny_ready (rs := [6, 14]) (by kernel_rfl) (by simp) ?_
            refine AllReady.cons (o := { dst := some 28, op := Op.load 3 (Operand.tmp 27), type := 3, pos := "tiers.go:276", after := #[{ on := 5, ground := Ground.data }], guard := none }) rfl (fun K hK => ?_) ?_
            · go_simp
              refine hK _ _ ?_
              clear hK K
              try go_frame
              refine wpAny_ready (rs := [7, 14]) (by kernel_rfl) (by simp) ?_
              refine AllReady.cons (o := { dst := some 29, op := Op.call { callee := Callee.value (Operand.func 27), args := #[Operand.tmp 23, Operand.tmp 28], argTypes := #[29, 3] }, type := 3, pos := "tiers.go:276", after := #[{ on := 1, ground := Ground.data }, { on := 6, ground := Ground.data }], guard := none }) rfl (fun K hK => ?_) ?_
              · go_simp
                go_wp2_with (first | (go_at_call 27; refine (HF1.out _ F2).mono ?_; rintro r w5 ⟨rfl, f5⟩; obtain ⟨p0, p1, p2, q0, q1, q2, q3, te, sc⟩ := HC.out w5 f5))
                try go_frame
                refine wpAny_ready (rs := [14]) (by kernel_rfl) (by simp) ?_
                refine AllReady.cons (o := { dst := some 36, op := Op.load 3 (Operand.tmp 35), type := 3, pos := "tiers.go:276", after := #[{ on := 13, ground := Ground.data }], guard := none }) rfl (fun K hK => ?_) AllReady.nil
                go_simp
                refine hK _ _ ?_
                clear hK K
                try go_frame
                refine wpAny_ready (rs := [15]) (by kernel_rfl) (by simp) ?_
                refine AllReady.cons (o := { dst := some 37, op := Op.call { callee := Callee.value (Operand.func 37), args := #[Operand.tmp 29, Operand.tmp 36], argTypes := #[3, 3] }, type := 3, pos := "tiers.go:276", after := #[{ on := 7, ground := Ground.data }, { on := 14, ground := Ground.data }, { on := 7, ground := Ground.chain }], guard := none }) rfl (fun K hK => ?_) AllReady.nil
                go_simp
                go_wp2_with (first | (go_at_call 37; refine (HCl.out _).mono ?_; rintro r w6 ⟨rfl, rfl⟩))
                refine wpAny_ready (rs := [16]) (by kernel_rfl) (by simp) ?_
                refine AllReady.cons (o := { dst := some 38, op := Op.buildSlice 25 1 #[(0, Operand.tmp 37)], type := 25, pos := "tiers.go:276", after := #[{ on := 15, ground := Ground.data }], guard := none }) rfl (fun K hK => ?_) AllReady.nil
                go_simp
                refine hK _ _ ?_
                clear hK K
                try go_frame
                refine wpAny_ready (rs := [17]) (by kernel_rfl) (by simp) ?_
                refine AllReady.cons (o := { dst := some 39, op := Op.call { callee := Callee.builtin Builtin.append, args := #[Operand.tmp 22, Operand.tmp 38], argTypes := #[25, 25] }, type := 25, pos := "tiers.go:276", after := #[{ on := 0, ground := Ground.data }, { on := 16, ground := Ground.data }, { on := 15, ground := Ground.chain }], guard := none }) rfl (fun K hK => ?_) AllReady.nil
                rw [if_pos (by rfl)]
                have O5 := Lib.hid (Ho.out.skip f5)
                have Hr5 := Lib.hid (own_fr0 Hrow.out f5)
                have Hb05 := Lib.hid (Hb0.out.fr f5 (fun h => h))
                have Hb15 := Lib.hid (Hb1.out.fr f5 (fun h => h))
                refine op_app3 _ _ 25 rfl 3 i0 (.int .i64 0) 1 8 Tryz.underlying25 hi hz0 hz1 hz2 rfl (by decide) (.slice R k cs) k _ rfl 0 (Nat.zero_le _) (own_fr0 Hr5.out (Fr.none_alloc _ _)) (some ⟨w5.heap.size, 0, none⟩) 1 1 [.int .i64 cv] rfl (Rd.new w5 [.int .i64 cv] _ 1 rfl) (by simp [Value.oneCell']) (by unfold maxLen; omega) (by omega) (fun R6 c6 w6 ho6 hm6 _ => ?_)
                have Ho6 := Lib.hid ho6
                have Hm6 := Lib.hid hm6
                clear ho6 hm6
                refine hK _ _ ?_
                clear hK K
                try go_frame
                refine wpAny_ready (rs := [18]) (by kernel_rfl) (by simp) ?_
                refine AllReady.cons (o := { dst := some 5, op := Op.assign (Operand.tmp 39), type := 25, pos := "tiers.go:276", after := #[{ on := 17, ground := Ground.data }, { on := 17, ground := Ground.chain }, { on := 0, ground := Ground.phase }, { on := 1, ground := Ground.phase }, { on := 2, ground := Ground.phase }, { on := 3, ground := Ground.phase }, { on := 4, ground := Ground.phase }, { on := 5, ground := Ground.phase }, { on := 6, ground := Ground.phase }, { on := 7, ground := Ground.phase }, { on := 8, ground := Ground.phase }, { on := 9, ground := Ground.phase }, { on := 10, ground := Ground.phase }, { on := 11, ground := Ground.phase }, { on := 12, ground := Ground.phase }, { on := 13, ground := Ground.phase }, { on := 14, ground := Ground.phase }, { on := 15, ground := Ground.phase }, { on := 16, ground := Ground.phase }, { on := 17, ground := Ground.phase }], guard := none }) rfl (fun K hK => ?_) AllReady.nil
                go_simp
                refine hK _ _ ?_
                clear hK K
                try go_frame
                refine wpAny_done (by kernel_rfl) ?_ _
                go_wp2
                go_roundw
                case rel =>
                  refine ⟨k + 1, R6, c6, by omega, by go_num, by go_num, (Hb05.out.alloc _).fr Hm6.out.fr (own_blk_ne Hr5.out Hb05.out (by decide)), (Hb15.out.alloc _).fr Hm6.out.fr (own_blk_ne Hr5.out Hb15.out (by decide)), ?_, (O5.out.skip (Fr.none_alloc _ _)).mv Hm6.out⟩
                  have h := Ho6.out
                  rw [take_snoc Hv.out]
                  unfold ints at h ⊢
                  rw [List.map_append]
                  exact h
                case measure => simp [intOf]; omega
              refine AllReady.cons (o := { dst := some 36, op := Op.load 3 (Operand.tmp 35), type := 3, pos := "tiers.go:276", after := #[{ on := 13, ground := Ground.data }], guard := none }) rfl (fun K hK => ?_) ?_
              · go_simp
                refine hK _ _ ?_
                clear hK K
                try go_frame
                refine wpAny_ready (rs := [7]) (by kernel_rfl) (by simp) ?_
                refine AllReady.cons (o := { dst := some 29, op := Op.call { callee := Callee.value (Operand.func 27), args := #[Operand.tmp 23, Operand.tmp 28], argTypes := #[29, 3] }, type := 3, pos := "tiers.go:276", after := #[{ on := 1, ground := Ground.data }, { on := 6, ground := Ground.data }], guard := none }) rfl (fun K hK => ?_) AllReady.nil
                go_simp
                go_wp2_with (first | (go_at_call 27; refine (HF1.out _ F2).mono ?_; rintro r w5 ⟨rfl, f5⟩; obtain ⟨p0, p1, p2, q0, q1, q2, q3, te, sc⟩ := HC.out w5 f5))
                refine wpAny_ready (rs := [15]) (by kernel_rfl) (by simp) ?_
                refine AllReady.cons (o := { dst := some 37, op := Op.call { callee := Callee.value (Operand.func 37), args := #[Operand.tmp 29, Operand.tmp 36], argTypes := #[3, 3] }, type := 3, pos := "tiers.go:276", after := #[{ on := 7, ground := Ground.data }, { on := 14, ground := Ground.data }, { on := 7, ground := Ground.chain }], guard := none }) rfl (fun K hK => ?_) AllReady.nil
                go_simp
                go_wp2_with (first | (go_at_call 37; refine (HCl.out _).mono ?_; rintro r w6 ⟨rfl, rfl⟩))
                refine wpAny_ready (rs := [16]) (by kernel_rfl) (by simp) ?_
                refine AllReady.cons (o := { dst := some 38, op := Op.buildSlice 25 1 #[(0, Operand.tmp 37)], type := 25, pos := "tiers.go:276", after := #[{ on := 15, ground := Ground.data }], guard := none }) rfl (fun K hK => ?_) AllReady.nil
                go_simp
                refine hK _ _ ?_
                clear hK K
                try go_frame
                refine wpAny_ready (rs := [17]) (by kernel_rfl) (by simp) ?_
                refine AllReady.cons (o := { dst := some 39, op := Op.call { callee := Callee.builtin Builtin.append, args := #[Operand.tmp 22, Operand.tmp 38], argTypes := #[25, 25] }, type := 25, pos := "tiers.go:276", after := #[{ on := 0, ground := Ground.data }, { on := 16, ground := Ground.data }, { on := 15, ground := Ground.chain }], guard := none }) rfl (fun K hK => ?_) AllReady.nil
                rw [if_pos (by rfl)]
                have O5 := Lib.hid (Ho.out.skip f5)
                have Hr5 := Lib.hid (own_fr0 Hrow.out f5)
                have Hb05 := Lib.hid (Hb0.out.fr f5 (fun h => h))
                have Hb15 := Lib.hid (Hb1.out.fr f5 (fun h => h))
                refine op_app3 _ _ 25 rfl 3 i0 (.int .i64 0) 1 8 Tryz.underlying25 hi hz0 hz1 hz2 rfl (by decide) (.slice R k cs) k _ rfl 0 (Nat.zero_le _) (own_fr0 Hr5.out (Fr.none_alloc _ _)) (some ⟨w5.heap.size, 0, none⟩) 1 1 [.int .i64 cv] rfl (Rd.new w5 [.int .i64 cv] _ 1 rfl) (by simp [Value.oneCell']) (by unfold maxLen; omega) (by omega) (fun R6 c6 w6 ho6 hm6 _ => ?_)
                have Ho6 := Lib.hid ho6
                have Hm6 := Lib.hid hm6
                clear ho6 hm6
                refine hK _ _ ?_
                clear hK K
                try go_frame
                refine wpAny_ready (rs := [18]) (by kernel_rfl) (by simp) ?_
                refine AllReady.cons (o := { dst := some 5, op := Op.assign (Operand.tmp 39), type := 25, pos := "tiers.go:276", after := #[{ on := 17, ground := Ground.data }, { on := 17, ground := Ground.chain }, { on := 0, ground := Ground.phase }, { on := 1, ground := Ground.phase }, { on := 2, ground := Ground.phase }, { on := 3, ground := Ground.phase }, { on := 4, ground := Ground.phase }, { on := 5, ground := Ground.phase }, { on := 6, ground := Ground.phase }, { on := 7, ground := Ground.phase }, { on := 8, ground := Ground.phase }, { on := 9, ground := Ground.phase }, { on := 10, ground := Ground.phase }, { on := 11, ground := Ground.phase }, { on := 12, ground := Ground.phase }, { on := 13, ground := Ground.phase }, { on := 14, ground := Ground.phase }, { on := 15, ground := Ground.phase }, { on := 16, ground := Ground.phase }, { on := 17, ground := Ground.phase }], guard := none }) rfl (fun K hK => ?_) AllReady.nil
                go_simp
                refine hK _ _ ?_
                clear hK K
                try go_frame
                refine wpAny_done (by kernel_rfl) ?_ _
                go_wp2
                go_roundw
                case rel =>
                  refine ⟨k + 1, R6, c6, by omega, by go_num, by go_num, (Hb05.out.alloc _).fr Hm6.out.fr (own_blk_ne Hr5.out Hb05.out (by decide)), (Hb15.out.alloc _).fr Hm6.out.fr (own_blk_ne Hr5.out Hb15.out (by decide)), ?_, (O5.out.skip (Fr.none_alloc _ _)).mv Hm6.out⟩
                  have h := Ho6.out
                  rw [take_snoc Hv.out]
                  unfold ints at h ⊢
                  rw [List.map_append]
                  exact h
                case measure => simp [intOf]; omega
              exact AllReady.nil
            refine AllReady.cons (o := { dst := some 36, op := Op.load 3 (Operand.tmp 35), type := 3, pos := "tiers.go:276", after := #[{ on := 13, ground := Ground.data }], guard := none }) rfl (fun K hK => ?_) ?_
            · go_simp
              refine hK _ _ ?_
              clear hK K
              try go_frame
              refine wpAny_ready (rs := [6]) (by kernel_rfl) (by simp) ?_
              refine AllReady.cons (o := { dst := some 28, op := Op.load 3 (Operand.tmp 27), type := 3, pos := "tiers.go:276", after := #[{ on := 5, ground := Ground.data }], guard := none }) rfl (fun K hK => ?_) AllReady.nil
              go_simp
              refine hK _ _ ?_
              clear hK K
              try go_frame
              refine wpAny_ready (rs := [7]) (by kernel_rfl) (by simp) ?_
              refine AllReady.cons (o := { dst := some 29, op := Op.call { callee := Callee.value (Operand.func 27), args := #[Operand.tmp 23, Operand.tmp 28], argTypes := #[29, 3] }, type := 3, pos := "tiers.go:276", after := #[{ on := 1, ground := Ground.data }, { on := 6, ground := Ground.data }], guard := none }) rfl (fun K hK => ?_) AllReady.nil
              go_simp
              go_wp2_with (first | (go_at_call 27; refine (HF1.out _ F2).mono ?_; rintro r w5 ⟨rfl, f5⟩; obtain ⟨p0, p1, p2, q0, q1, q2, q3, te, sc⟩ := HC.out w5 f5))
              refine wpAny_ready (rs := [15]) (by kernel_rfl) (by simp) ?_
              refine AllReady.cons (o := { dst := some 37, op := Op.call { callee := Callee.value (Operand.func 37), args := #[Operand.tmp 29, Operand.tmp 36], argTypes := #[3, 3] }, type := 3, pos := "tiers.go:276", after := #[{ on := 7, ground := Ground.data }, { on := 14, ground := Ground.data }, { on := 7, ground := Ground.chain }], guard := none }) rfl (fun K hK => ?_) AllReady.nil
              go_simp
              go_wp2_with (first | (go_at_call 37; refine (HCl.out _).mono ?_; rintro r w6 ⟨rfl, rfl⟩))
              refine wpAny_ready (rs := [16]) (by kernel_rfl) (by simp) ?_
              refine AllReady.cons (o := { dst := some 38, op := Op.buildSlice 25 1 #[(0, Operand.tmp 37)], type := 25, pos := "tiers.go:276", after := #[{ on := 15, ground := Ground.data }], guard := none }) rfl (fun K hK => ?_) AllReady.nil
              go_simp
              refine hK _ _ ?_
              clear hK K
              try go_frame
              refine wpAny_ready (rs := [17]) (by kernel_rfl) (by simp) ?_
              refine AllReady.cons (o := { dst := some 39, op := Op.call { callee := Callee.builtin Builtin.append, args := #[Operand.tmp 22, Operand.tmp 38], argTypes := #[25, 25] }, type := 25, pos := "tiers.go:276", after := #[{ on := 0, ground := Ground.data }, { on := 16, ground := Ground.data }, { on := 15, ground := Ground.chain }], guard := none }) rfl (fun K hK => ?_) AllReady.nil
              rw [if_pos (by rfl)]
              have O5 := Lib.hid (Ho.out.skip f5)
              have Hr5 := Lib.hid (own_fr0 Hrow.out f5)
              have Hb05 := Lib.hid (Hb0.out.fr f5 (fun h => h))
              have Hb15 := Lib.hid (Hb1.out.fr f5 (fun h => h))
              refine op_app3 _ _ 25 rfl 3 i0 (.int .i64 0) 1 8 Tryz.underlying25 hi hz0 hz1 hz2 rfl (by decide) (.slice R k cs) k _ rfl 0 (Nat.zero_le _) (own_fr0 Hr5.out (Fr.none_alloc _ _)) (some ⟨w5.heap.size, 0, none⟩) 1 1 [.int .i64 cv] rfl (Rd.new w5 [.int .i64 cv] _ 1 rfl) (by simp [Value.oneCell']) (by unfold maxLen; omega) (by omega) (fun R6 c6 w6 ho6 hm6 _ => ?_)
              have Ho6 := Lib.hid ho6
              have Hm6 := Lib.hid hm6
              clear ho6 hm6
              refine hK _ _ ?_
              clear hK K
              try go_frame
              refine wpAny_ready (rs := [18]) (by kernel_rfl) (by simp) ?_
              refine AllReady.cons (o := { dst := some 5, op := Op.assign (Operand.tmp 39), type := 25, pos := "tiers.go:276", after := #[{ on := 17, ground := Ground.data }, { on := 17, ground := Ground.chain }, { on := 0, ground := Ground.phase }, { on := 1, ground := Ground.phase }, { on := 2, ground := Ground.phase }, { on := 3, ground := Ground.phase }, { on := 4, ground := Ground.phase }, { on := 5, ground := Ground.phase }, { on := 6, ground := Ground.phase }, { on := 7, ground := Ground.phase }, { on := 8, ground := Ground.phase }, { on := 9, ground := Ground.phase }, { on := 10, ground := Ground.phase }, { on := 11, ground := Ground.phase }, { on := 12, ground := Ground.phase }, { on := 13, ground := Ground.phase }, { on := 14, ground := Ground.phase }, { on := 15, ground := Ground.phase }, { on := 16, ground := Ground.phase }, { on := 17, ground := Ground.phase }], guard := none }) rfl (fun K hK => ?_) AllReady.nil
              go_simp
              refine hK _ _ ?_
              clear hK K
              try go_frame
              refine wpAny_done (by kernel_rfl) ?_ _
              go_wp2
              go_roundw
              case rel =>
                refine ⟨k + 1, R6, c6, by omega, by go_num, by go_num, (Hb05.out.alloc _).fr Hm6.out.fr (own_blk_ne Hr5.out Hb05.out (by decide)), (Hb15.out.alloc _).fr Hm6.out.fr (own_blk_ne Hr5.out Hb15.out (by decide)), ?_, (O5.out.skip (Fr.none_alloc _ _)).mv Hm6.out⟩
                have h := Ho6.out
                rw [take_snoc Hv.out]
                unfold ints at h ⊢
                rw [List.map_append]
                exact h
              case measure => simp [intOf]; omega
            exact AllReady.nil
          refine AllReady.cons (o := { dst := some 28, op := Op.load 3 (Operand.tmp 27), type := 3, pos := "tiers.go:276", after := #[{ on := 5, ground := Ground.data }], guard := none }) rfl (fun K hK => ?_) ?_
          · go_simp
            refine hK _ _ ?_
            clear hK K
            try go_frame
            refine wpAny_ready (rs := [1, 14]) (by kernel_rfl) (by simp) ?_
            refine AllReady.cons (o := { dst := some 23, op := Op.load 29 (Operand.tmp 3), type := 29, pos := "tiers.go:276", after := #[], guard := none }) rfl (fun K hK => ?_) ?_
            · go_simp
              refine hK _ _ ?_
              clear hK K
              try go_frame
              refine wpAny_ready (rs := [7, 14]) (by kernel_rfl) (by simp) ?_
              refine AllReady.cons (o := { dst := some 29, op := Op.call { callee := Callee.value (Operand.func 27), args := #[Operand.tmp 23, Operand.tmp 28], argTypes := #[29, 3] }, type := 3, pos := "tiers.go:276", after := #[{ on := 1, ground := Ground.data }, { on := 6, ground := Ground.data }], guard := none }) rfl (fun K hK => ?_) ?_
              · go_simp
                go_wp2_with (first | (go_at_call 27; refine (HF1.out _ F2).mono ?_; rintro r w5 ⟨rfl, f5⟩; obtain ⟨p0, p1, p2, q0, q1, q2, q3, te, sc⟩ := HC.out w5 f5))
                try go_frame
                refine wpAny_ready (rs := [14]) (by kernel_rfl) (by simp) ?_
                refine AllReady.cons (o := { dst := some 36, op := Op.load 3 (Operand.tmp 35), type := 3, pos := "tiers.go:276", after := #[{ on := 13, ground := Ground.data }], guard := none }) rfl (fun K hK => ?_) AllReady.nil
                go_simp
                refine hK _ _ ?_
                clear hK K
                try go_frame
                refine wpAny_ready (rs := [15]) (by kernel_rfl) (by simp) ?_
                refine AllReady.cons (o := { dst := some 37, op := Op.call { callee := Callee.value (Operand.func 37), args := #[Operand.tmp 29, Operand.tmp 36], argTypes := #[3, 3] }, type := 3, pos := "tiers.go:276", after := #[{ on := 7, ground := Ground.data }, { on := 14, ground := Ground.data }, { on := 7, ground := Ground.chain }], guard := none }) rfl (fun K hK => ?_) AllReady.nil
                go_simp
                go_wp2_with (first | (go_at_call 37; refine (HCl.out _).mono ?_; rintro r w6 ⟨rfl, rfl⟩))
                refine wpAny_ready (rs := [16]) (by kernel_rfl) (by simp) ?_
                refine AllReady.cons (o := { dst := some 38, op := Op.buildSlice 25 1 #[(0, Operand.tmp 37)], type := 25, pos := "tiers.go:276", after := #[{ on := 15, ground := Ground.data }], guard := none }) rfl (fun K hK => ?_) AllReady.nil
                go_simp
                refine hK _ _ ?_
                clear hK K
                try go_frame
                refine wpAny_ready (rs := [17]) (by kernel_rfl) (by simp) ?_
                refine AllReady.cons (o := { dst := some 39, op := Op.call { callee := Callee.builtin Builtin.append, args := #[Operand.tmp 22, Operand.tmp 38], argTypes := #[25, 25] }, type := 25, pos := "tiers.go:276", after := #[{ on := 0, ground := Ground.data }, { on := 16, ground := Ground.data }, { on := 15, ground := Ground.chain }], guard := none }) rfl (fun K hK => ?_) AllReady.nil
                rw [if_pos (by rfl)]
                have O5 := Lib.hid (Ho.out.skip f5)
                have Hr5 := Lib.hid (own_fr0 Hrow.out f5)
                have Hb05 := Lib.hid (Hb0.out.fr f5 (fun h => h))
                have Hb15 := Lib.hid (Hb1.out.fr f5 (fun h => h))
                refine op_app3 _ _ 25 rfl 3 i0 (.int .i64 0) 1 8 Tryz.underlying25 hi hz0 hz1 hz2 rfl (by decide) (.slice R k cs) k _ rfl 0 (Nat.zero_le _) (own_fr0 Hr5.out (Fr.none_alloc _ _)) (some ⟨w5.heap.size, 0, none⟩) 1 1 [.int .i64 cv] rfl (Rd.new w5 [.int .i64 cv] _ 1 rfl) (by simp [Value.oneCell']) (by unfold maxLen; omega) (by omega) (fun R6 c6 w6 ho6 hm6 _ => ?_)
                have Ho6 := Lib.hid ho6
                have Hm6 := Lib.hid hm6
                clear ho6 hm6
                refine hK _ _ ?_
                clear hK K
                try go_frame
                refine wpAny_ready (rs := [18]) (by kernel_rfl) (by simp) ?_
                refine AllReady.cons (o := { dst := some 5, op := Op.assign (Operand.tmp 39), type := 25, pos := "tiers.go:276", after := #[{ on := 17, ground := Ground.data }, { on := 17, ground := Ground.chain }, { on := 0, ground := Ground.phase }, { on := 1, ground := Ground.phase }, { on := 2, ground := Ground.phase }, { on := 3, ground := Ground.phase }, { on := 4, ground := Ground.phase }, { on := 5, ground := Ground.phase }, { on := 6, ground := Ground.phase }, { on := 7, ground := Ground.phase }, { on := 8, ground := Ground.phase }, { on := 9, ground := Ground.phase }, { on := 10, ground := Ground.phase }, { on := 11, ground := Ground.phase }, { on := 12, ground := Ground.phase }, { on := 13, ground := Ground.phase }, { on := 14, ground := Ground.phase }, { on := 15, ground := Ground.phase }, { on := 16, ground := Ground.phase }, { on := 17, ground := Ground.phase }], guard := none }) rfl (fun K hK => ?_) AllReady.nil
                go_simp
                refine hK _ _ ?_
                clear hK K
                try go_frame
                refine wpAny_done (by kernel_rfl) ?_ _
                go_wp2
                go_roundw
                case rel =>
                  refine ⟨k + 1, R6, c6, by omega, by go_num, by go_num, (Hb05.out.alloc _).fr Hm6.out.fr (own_blk_ne Hr5.out Hb05.out (by decide)), (Hb15.out.alloc _).fr Hm6.out.fr (own_blk_ne Hr5.out Hb15.out (by decide)), ?_, (O5.out.skip (Fr.none_alloc _ _)).mv Hm6.out⟩
                  have h := Ho6.out
                  rw [take_snoc Hv.out]
                  unfold ints at h ⊢
                  rw [List.map_append]
                  exact h
                case measure => simp [intOf]; omega
              refine AllReady.cons (o := { dst := some 36, op := Op.load 3 (Operand.tmp 35), type := 3, pos := "tiers.go:276", after := #[{ on := 13, ground := Ground.data }], guard := none }) rfl (fun K hK => ?_) ?_
              · go_simp
                refine hK _ _ ?_
                clear hK K
                try go_frame
                refine wpAny_ready (rs := [7]) (by kernel_rfl) (by simp) ?_
                refine AllReady.cons (o := { dst := some 29, op := Op.call { callee := Callee.value (Operand.func 27), args := #[Operand.tmp 23, Operand.tmp 28], argTypes := #[29, 3] }, type := 3, pos := "tiers.go:276", after := #[{ on := 1, ground := Ground.data }, { on := 6, ground := Ground.data }], guard := none }) rfl (fun K hK => ?_) AllReady.nil
                go_simp
                go_wp2_with (first | (go_at_call 27; refine (HF1.out _ F2).mono ?_; rintro r w5 ⟨rfl, f5⟩; obtain ⟨p0, p1, p2, q0, q1, q2, q3, te, sc⟩ := HC.out w5 f5))
                refine wpAny_ready (rs := [15]) (by kernel_rfl) (by simp) ?_
                refine AllReady.cons (o := { dst := some 37, op := Op.call { callee := Callee.value (Operand.func 37), args := #[Operand.tmp 29, Operand.tmp 36], argTypes := #[3, 3] }, type := 3, pos := "tiers.go:276", after := #[{ on := 7, ground := Ground.data }, { on := 14, ground := Ground.data }, { on := 7, ground := Ground.chain }], guard := none }) rfl (fun K hK => ?_) AllReady.nil
                go_simp
                go_wp2_with (first | (go_at_call 37; refine (HCl.out _).mono ?_; rintro r w6 ⟨rfl, rfl⟩))
                refine wpAny_ready (rs := [16]) (by kernel_rfl) (by simp) ?_
                refine AllReady.cons (o := { dst := some 38, op := Op.buildSlice 25 1 #[(0, Operand.tmp 37)], type := 25, pos := "tiers.go:276", after := #[{ on := 15, ground := Ground.data }], guard := none }) rfl (fun K hK => ?_) AllReady.nil
                go_simp
                refine hK _ _ ?_
                clear hK K
                try go_frame
                refine wpAny_ready (rs := [17]) (by kernel_rfl) (by simp) ?_
                refine AllReady.cons (o := { dst := some 39, op := Op.call { callee := Callee.builtin Builtin.append, args := #[Operand.tmp 22, Operand.tmp 38], argTypes := #[25, 25] }, type := 25, pos := "tiers.go:276", after := #[{ on := 0, ground := Ground.data }, { on := 16, ground := Ground.data }, { on := 15, ground := Ground.chain }], guard := none }) rfl (fun K hK => ?_) AllReady.nil
                rw [if_pos (by rfl)]
                have O5 := Lib.hid (Ho.out.skip f5)
                have Hr5 := Lib.hid (own_fr0 Hrow.out f5)
                have Hb05 := Lib.hid (Hb0.out.fr f5 (fun h => h))
                have Hb15 := Lib.hid (Hb1.out.fr f5 (fun h => h))
                refine op_app3 _ _ 25 rfl 3 i0 (.int .i64 0) 1 8 Tryz.underlying25 hi hz0 hz1 hz2 rfl (by decide) (.slice R k cs) k _ rfl 0 (Nat.zero_le _) (own_fr0 Hr5.out (Fr.none_alloc _ _)) (some ⟨w5.heap.size, 0, none⟩) 1 1 [.int .i64 cv] rfl (Rd.new w5 [.int .i64 cv] _ 1 rfl) (by simp [Value.oneCell']) (by unfold maxLen; omega) (by omega) (fun R6 c6 w6 ho6 hm6 _ => ?_)
                have Ho6 := Lib.hid ho6
                have Hm6 := Lib.hid hm6
                clear ho6 hm6
                refine hK _ _ ?_
                clear hK K
                try go_frame
                refine wpAny_ready (rs := [18]) (by kernel_rfl) (by simp) ?_
                refine AllReady.cons (o := { dst := some 5, op := Op.assign (Operand.tmp 39), type := 25, pos := "tiers.go:276", after := #[{ on := 17, ground := Ground.data }, { on := 17, ground := Ground.chain }, { on := 0, ground := Ground.phase }, { on := 1, ground := Ground.phase }, { on := 2, ground := Ground.phase }, { on := 3, ground := Ground.phase }, { on := 4, ground := Ground.phase }, { on := 5, ground := Ground.phase }, { on := 6, ground := Ground.phase }, { on := 7, ground := Ground.phase }, { on := 8, ground := Ground.phase }, { on := 9, ground := Ground.phase }, { on := 10, ground := Ground.phase }, { on := 11, ground := Ground.phase }, { on := 12, ground := Ground.phase }, { on := 13, ground := Ground.phase }, { on := 14, ground := Ground.phase }, { on := 15, ground := Ground.phase }, { on := 16, ground := Ground.phase }, { on := 17, ground := Ground.phase }], guard := none }) rfl (fun K hK => ?_) AllReady.nil
                go_simp
                refine hK _ _ ?_
                clear hK K
                try go_frame
                refine wpAny_done (by kernel_rfl) ?_ _
                go_wp2
                go_roundw
                case rel =>
                  refine ⟨k + 1, R6, c6, by omega, by go_num, by go_num, (Hb05.out.alloc _).fr Hm6.out.fr (own_blk_ne Hr5.out Hb05.out (by decide)), (Hb15.out.alloc _).fr Hm6.out.fr (own_blk_ne Hr5.out Hb15.out (by decide)), ?_, (O5.out.skip (Fr.none_alloc _ _)).mv Hm6.out⟩
                  have h := Ho6.out
                  rw [take_snoc Hv.out]
                  unfold ints at h ⊢
                  rw [List.map_append]
                  exact h
                case measure => simp [intOf]; omega
              exact AllReady.nil
            refine AllReady.cons (o := { dst := some 36, op := Op.load 3 (Operand.tmp 35), type := 3, pos := "tiers.go:276", after := #[{ on := 13, ground := Ground.data }], guard := none }) rfl (fun K hK => ?_) ?_
            · go_simp
              refine hK _ _ ?_
              clear hK K
              try go_frame
              refine wpAny_ready (rs := [1]) (by kernel_rfl) (by simp) ?_
              refine AllReady.cons (o := { dst := some 23, op := Op.load 29 (Operand.tmp 3), type := 29, pos := "tiers.go:276", after := #[], guard := none }) rfl (fun K hK => ?_) AllReady.nil
              go_simp
              refine hK _ _ ?_
              clear hK K
              try go_frame
              refine wpAny_ready (rs := [7]) (by kernel_rfl) (by simp) ?_
              refine AllReady.cons (o := { dst := some 29, op := Op.call { callee := Callee.value (Operand.func 27), args := #[Operand.tmp 23, Operand.tmp 28], argTypes := #[29, 3] }, type := 3, pos := "tiers.go:276", after := #[{ on := 1, ground := Ground.data }, { on := 6, ground := Ground.data }], guard := none }) rfl (fun K hK => ?_) AllReady.nil
              go_simp
              go_wp2_with (first | (go_at_call 27; refine (HF1.out _ F2).mono ?_; rintro r w5 ⟨rfl, f5⟩; obtain ⟨p0, p1, p2, q0, q1, q2, q3, te, sc⟩ := HC.out w5 f5))
              refine wpAny_ready (rs := [15]) (by kernel_rfl) (by simp) ?_
              refine AllReady.cons (o := { dst := some 37, op := Op.call { callee := Callee.value (Operand.func 37), args := #[Operand.tmp 29, Operand.tmp 36], argTypes := #[3, 3] }, type := 3, pos := "tiers.go:276", after := #[{ on := 7, ground := Ground.data }, { on := 14, ground := Ground.data }, { on := 7, ground := Ground.chain }], guard := none }) rfl (fun K hK => ?_) AllReady.nil
              go_simp
              go_wp2_with (first | (go_at_call 37; refine (HCl.out _).mono ?_; rintro r w6 ⟨rfl, rfl⟩))
              refine wpAny_ready (rs := [16]) (by kernel_rfl) (by simp) ?_
              refine AllReady.cons (o := { dst := some 38, op := Op.buildSlice 25 1 #[(0, Operand.tmp 37)], type := 25, pos := "tiers.go:276", after := #[{ on := 15, ground := Ground.data }], guard := none }) rfl (fun K hK => ?_) AllReady.nil
              go_simp
              refine hK _ _ ?_
              clear hK K
              try go_frame
              refine wpAny_ready (rs := [17]) (by kernel_rfl) (by simp) ?_
              refine AllReady.cons (o := { dst := some 39, op := Op.call { callee := Callee.builtin Builtin.append, args := #[Operand.tmp 22, Operand.tmp 38], argTypes := #[25, 25] }, type := 25, pos := "tiers.go:276", after := #[{ on := 0, ground := Ground.data }, { on := 16, ground := Ground.data }, { on := 15, ground := Ground.chain }], guard := none }) rfl (fun K hK => ?_) AllReady.nil
              rw [if_pos (by rfl)]
              have O5 := Lib.hid (Ho.out.skip f5)
              have Hr5 := Lib.hid (own_fr0 Hrow.out f5)
              have Hb05 := Lib.hid (Hb0.out.fr f5 (fun h => h))
              have Hb15 := Lib.hid (Hb1.out.fr f5 (fun h => h))
              refine op_app3 _ _ 25 rfl 3 i0 (.int .i64 0) 1 8 Tryz.underlying25 hi hz0 hz1 hz2 rfl (by decide) (.slice R k cs) k _ rfl 0 (Nat.zero_le _) (own_fr0 Hr5.out (Fr.none_alloc _ _)) (some ⟨w5.heap.size, 0, none⟩) 1 1 [.int .i64 cv] rfl (Rd.new w5 [.int .i64 cv] _ 1 rfl) (by simp [Value.oneCell']) (by unfold maxLen; omega) (by omega) (fun R6 c6 w6 ho6 hm6 _ => ?_)
              have Ho6 := Lib.hid ho6
              have Hm6 := Lib.hid hm6
              clear ho6 hm6
              refine hK _ _ ?_
              clear hK K
              try go_frame
              refine wpAny_ready (rs := [18]) (by kernel_rfl) (by simp) ?_
              refine AllReady.cons (o := { dst := some 5, op := Op.assign (Operand.tmp 39), type := 25, pos := "tiers.go:276", after := #[{ on := 17, ground := Ground.data }, { on := 17, ground := Ground.chain }, { on := 0, ground := Ground.phase }, { on := 1, ground := Ground.phase }, { on := 2, ground := Ground.phase }, { on := 3, ground := Ground.phase }, { on := 4, ground := Ground.phase }, { on := 5, ground := Ground.phase }, { on := 6, ground := Ground.phase }, { on := 7, ground := Ground.phase }, { on := 8, ground := Ground.phase }, { on := 9, ground := Ground.phase }, { on := 10, ground := Ground.phase }, { on := 11, ground := Ground.phase }, { on := 12, ground := Ground.phase }, { on := 13, ground := Ground.phase }, { on := 14, ground := Ground.phase }, { on := 15, ground := Ground.phase }, { on := 16, ground := Ground.phase }, { on := 17, ground := Ground.phase }], guard := none }) rfl (fun K hK => ?_) AllReady.nil
              go_simp
              refine hK _ _ ?_
              clear hK K
              try go_frame
              refine wpAny_done (by kernel_rfl) ?_ _
              go_wp2
              go_roundw
              case rel =>
                refine ⟨k + 1, R6, c6, by omega, by go_num, by go_num, (Hb05.out.alloc _).fr Hm6.out.fr (own_blk_ne Hr5.out Hb05.out (by decide)), (Hb15.out.alloc _).fr Hm6.out.fr (own_blk_ne Hr5.out Hb15.out (by decide)), ?_, (O5.out.skip (Fr.none_alloc _ _)).mv Hm6.out⟩
                have h := Ho6.out
                rw [take_snoc Hv.out]
                unfold ints at h ⊢
                rw [List.map_append]
                exact h
              case measure => simp [intOf]; omega
            exact AllReady.nil
          refine AllReady.cons (o := { dst := some 36, op := Op.load 3 (Operand.tmp 35), type := 3, pos := "tiers.go:276", after := #[{ on := 13, ground := Ground.data }], guard := none }) rfl (fun K hK => ?_) ?_
          · go_simp
            refine hK _ _ ?_
            clear hK K
            try go_frame
            refine wpAny_ready (rs := [1, 6]) (by kernel_rfl) (by simp) ?_
            refine AllReady.cons (o := { dst := some 23, op := Op.load 29 (Operand.tmp 3), type := 29, pos := "tiers.go:276", after := #[], guard := none }) rfl (fun K hK => ?_) ?_
            · go_simp
              refine hK _ _ ?_
              clear hK K
              try go_frame
              refine wpAny_ready (rs := [6]) (by kernel_rfl) (by simp) ?_
              refine AllReady.cons (o := { dst := some 28, op := Op.load 3 (Operand.tmp 27), type := 3, pos := "tiers.go:276", after := #[{ on := 5, ground := Ground.data }], guard := none }) rfl (fun K hK => ?_) AllReady.nil
              go_simp
              refine hK _ _ ?_
              clear hK K
              try go_frame
              refine wpAny_ready (rs := [7]) (by kernel_rfl) (by simp) ?_
              refine AllReady.cons (o := { dst := some 29, op := Op.call { callee := Callee.value (Operand.func 27), args := #[Operand.tmp 23, Operand.tmp 28], argTypes := #[29, 3] }, type := 3, pos := "tiers.go:276", after := #[{ on := 1, ground := Ground.data }, { on := 6, ground := Ground.data }], guard := none }) rfl (fun K hK => ?_) AllReady.nil
              go_simp
              go_wp2_with (first | (go_at_call 27; refine (HF1.out _ F2).mono ?_; rintro r w5 ⟨rfl, f5⟩; obtain ⟨p0, p1, p2, q0, q1, q2, q3, te, sc⟩ := HC.out w5 f5))
              refine wpAny_ready (rs := [15]) (by kernel_rfl) (by simp) ?_
              refine AllReady.cons (o := { dst := some 37, op := Op.call { callee := Callee.value (Operand.func 37), args := #[Operand.tmp 29, Operand.tmp 36], argTypes := #[3, 3] }, type := 3, pos := "tiers.go:276", after := #[{ on := 7, ground := Ground.data }, { on := 14, ground := Ground.data }, { on := 7, ground := Ground.chain }], guard := none }) rfl (fun K hK => ?_) AllReady.nil
              go_simp
              go_wp2_with (first | (go_at_call 37; refine (HCl.out _).mono ?_; rintro r w6 ⟨rfl, rfl⟩))
              refine wpAny_ready (rs := [16]) (by kernel_rfl) (by simp) ?_
              refine AllReady.cons (o := { dst := some 38, op := Op.buildSlice 25 1 #[(0, Operand.tmp 37)], type := 25, pos := "tiers.go:276", after := #[{ on := 15, ground := Ground.data }], guard := none }) rfl (fun K hK => ?_) AllReady.nil
              go_simp
              refine hK _ _ ?_
              clear hK K
              try go_frame
              refine wpAny_ready (rs := [17]) (by kernel_rfl) (by simp) ?_
              refine AllReady.cons (o := { dst := some 39, op := Op.call { callee := Callee.builtin Builtin.append, args := #[Operand.tmp 22, Operand.tmp 38], argTypes := #[25, 25] }, type := 25, pos := "tiers.go:276", after := #[{ on := 0, ground := Ground.data }, { on := 16, ground := Ground.data }, { on := 15, ground := Ground.chain }], guard := none }) rfl (fun K hK => ?_) AllReady.nil
              rw [if_pos (by rfl)]
              have O5 := Lib.hid (Ho.out.skip f5)
              have Hr5 := Lib.hid (own_fr0 Hrow.out f5)
              have Hb05 := Lib.hid (Hb0.out.fr f5 (fun h => h))
              have Hb15 := Lib.hid (Hb1.out.fr f5 (fun h => h))
              refine op_app3 _ _ 25 rfl 3 i0 (.int .i64 0) 1 8 Tryz.underlying25 hi hz0 hz1 hz2 rfl (by decide) (.slice R k cs) k _ rfl 0 (Nat.zero_le _) (own_fr0 Hr5.out (Fr.none_alloc _ _)) (some ⟨w5.heap.size, 0, none⟩) 1 1 [.int .i64 cv] rfl (Rd.new w5 [.int .i64 cv] _ 1 rfl) (by simp [Value.oneCell']) (by unfold maxLen; omega) (by omega) (fun R6 c6 w6 ho6 hm6 _ => ?_)
              have Ho6 := Lib.hid ho6
              have Hm6 := Lib.hid hm6
              clear ho6 hm6
              refine hK _ _ ?_
              clear hK K
              try go_frame
              refine wpAny_ready (rs := [18]) (by kernel_rfl) (by simp) ?_
              refine AllReady.cons (o := { dst := some 5, op := Op.assign (Operand.tmp 39), type := 25, pos := "tiers.go:276", after := #[{ on := 17, ground := Ground.data }, { on := 17, ground := Ground.chain }, { on := 0, ground := Ground.phase }, { on := 1, ground := Ground.phase }, { on := 2, ground := Ground.phase }, { on := 3, ground := Ground.phase }, { on := 4, ground := Ground.phase }, { on := 5, ground := Ground.phase }, { on := 6, ground := Ground.phase }, { on := 7, ground := Ground.phase }, { on := 8, ground := Ground.phase }, { on := 9, ground := Ground.phase }, { on := 10, ground := Ground.phase }, { on := 11, ground := Ground.phase }, { on := 12, ground := Ground.phase }, { on := 13, ground := Ground.phase }, { on := 14, ground := Ground.phase }, { on := 15, ground := Ground.phase }, { on := 16, ground := Ground.phase }, { on := 17, ground := Ground.phase }], guard := none }) rfl (fun K hK => ?_) AllReady.nil
              go_simp
              refine hK _ _ ?_
              clear hK K
              try go_frame
              refine wpAny_done (by kernel_rfl) ?_ _
              go_wp2
              go_roundw
              case rel =>
                refine ⟨k + 1, R6, c6, by omega, by go_num, by go_num, (Hb05.out.alloc _).fr Hm6.out.fr (own_blk_ne Hr5.out Hb05.out (by decide)), (Hb15.out.alloc _).fr Hm6.out.fr (own_blk_ne Hr5.out Hb15.out (by decide)), ?_, (O5.out.skip (Fr.none_alloc _ _)).mv Hm6.out⟩
                have h := Ho6.out
                rw [take_snoc Hv.out]
                unfold ints at h ⊢
                rw [List.map_append]
                exact h
              case measure => simp [intOf]; omega
            refine AllReady.cons (o := { dst := some 28, op := Op.load 3 (Operand.tmp 27), type := 3, pos := "tiers.go:276", after := #[{ on := 5, ground := Ground.data }], guard := none }) rfl (fun K hK => ?_) ?_
            · go_simp
              refine hK _ _ ?_
              clear hK K
              try go_frame
              refine wpAny_ready (rs := [1]) (by kernel_rfl) (by simp) ?_
              refine AllReady.cons (o := { dst := some 23, op := Op.load 29 (Operand.tmp 3), type := 29, pos := "tiers.go:276", after := #[], guard := none }) rfl (fun K hK => ?_) AllReady.nil
              go_simp
              refine hK _ _ ?_
              clear hK K
              try go_frame
              refine wpAny_ready (rs := [7]) (by kernel_rfl) (by simp) ?_
              refine AllReady.cons (o := { dst := some 29, op := Op.call { callee := Callee.value (Operand.func 27), args := #[Operand.tmp 23, Operand.tmp 28], argTypes := #[29, 3] }, type := 3, pos := "tiers.go:276", after := #[{ on := 1, ground := Ground.data }, { on := 6, ground := Ground.data }], guard := none }) rfl (fun K hK => ?_) AllReady.nil
              go_simp
              go_wp2_with (first | (go_at_call 27; refine (HF1.out _ F2).mono ?_; rintro r w5 ⟨rfl, f5⟩; obtain ⟨p0, p1, p2, q0, q1, q2, q3, te, sc⟩ := HC.out w5 f5))
              refine wpAny_ready (rs := [15]) (by kernel_rfl) (by simp) ?_
              refine AllReady.cons (o := { dst := some 37, op := Op.call { callee := Callee.value (Operand.func 37), args := #[Operand.tmp 29, Operand.tmp 36], argTypes := #[3, 3] }, type := 3, pos := "tiers.go:276", after := #[{ on := 7, ground := Ground.data }, { on := 14, ground := Ground.data }, { on := 7, ground := Ground.chain }], guard := none }) rfl (fun K hK => ?_) AllReady.nil
              go_simp
              go_wp2_with (first | (go_at_call 37; refine (HCl.out _).mono ?_; rintro r w6 ⟨rfl, rfl⟩))
              refine wpAny_ready (rs := [16]) (by kernel_rfl) (by simp) ?_
              refine AllReady.cons (o := { dst := some 38, op := Op.buildSlice 25 1 #[(0, Operand.tmp 37)], type := 25, pos := "tiers.go:276", after := #[{ on := 15, ground := Ground.data }], guard := none }) rfl (fun K hK => ?_) AllReady.nil
              go_simp
              refine hK _ _ ?_
              clear hK K
              try go_frame
              refine wpAny_ready (rs := [17]) (by kernel_rfl) (by simp) ?_
              refine AllReady.cons (o := { dst := some 39, op := Op.call { callee := Callee.builtin Builtin.append, args := #[Operand.tmp 22, Operand.tmp 38], argTypes := #[25, 25] }, type := 25, pos := "tiers.go:276", after := #[{ on := 0, ground := Ground.data }, { on := 16, ground := Ground.data }, { on := 15, ground := Ground.chain }], guard := none }) rfl (fun K hK => ?_) AllReady.nil
              rw [if_pos (by rfl)]
              have O5 := Lib.hid (Ho.out.skip f5)
              have Hr5 := Lib.hid (own_fr0 Hrow.out f5)
              have Hb05 := Lib.hid (Hb0.out.fr f5 (fun h => h))
              have Hb15 := Lib.hid (Hb1.out.fr f5 (fun h => h))
              refine op_app3 _ _ 25 rfl 3 i0 (.int .i64 0) 1 8 Tryz.underlying25 hi hz0 hz1 hz2 rfl (by decide) (.slice R k cs) k _ rfl 0 (Nat.zero_le _) (own_fr0 Hr5.out (Fr.none_alloc _ _)) (some ⟨w5.heap.size, 0, none⟩) 1 1 [.int .i64 cv] rfl (Rd.new w5 [.int .i64 cv] _ 1 rfl) (by simp [Value.oneCell']) (by unfold maxLen; omega) (by omega) (fun R6 c6 w6 ho6 hm6 _ => ?_)
              have Ho6 := Lib.hid ho6
              have Hm6 := Lib.hid hm6
              clear ho6 hm6
              refine hK _ _ ?_
              clear hK K
              try go_frame
              refine wpAny_ready (rs := [18]) (by kernel_rfl) (by simp) ?_
              refine AllReady.cons (o := { dst := some 5, op := Op.assign (Operand.tmp 39), type := 25, pos := "tiers.go:276", after := #[{ on := 17, ground := Ground.data }, { on := 17, ground := Ground.chain }, { on := 0, ground := Ground.phase }, { on := 1, ground := Ground.phase }, { on := 2, ground := Ground.phase }, { on := 3, ground := Ground.phase }, { on := 4, ground := Ground.phase }, { on := 5, ground := Ground.phase }, { on := 6, ground := Ground.phase }, { on := 7, ground := Ground.phase }, { on := 8, ground := Ground.phase }, { on := 9, ground := Ground.phase }, { on := 10, ground := Ground.phase }, { on := 11, ground := Ground.phase }, { on := 12, ground := Ground.phase }, { on := 13, ground := Ground.phase }, { on := 14, ground := Ground.phase }, { on := 15, ground := Ground.phase }, { on := 16, ground := Ground.phase }, { on := 17, ground := Ground.phase }], guard := none }) rfl (fun K hK => ?_) AllReady.nil
              go_simp
              refine hK _ _ ?_
              clear hK K
              try go_frame
              refine wpAny_done (by kernel_rfl) ?_ _
              go_wp2
              go_roundw
              case rel =>
                refine ⟨k + 1, R6, c6, by omega, by go_num, by go_num, (Hb05.out.alloc _).fr Hm6.out.fr (own_blk_ne Hr5.out Hb05.out (by decide)), (Hb15.out.alloc _).fr Hm6.out.fr (own_blk_ne Hr5.out Hb15.out (by decide)), ?_, (O5.out.skip (Fr.none_alloc _ _)).mv Hm6.out⟩
                have h := Ho6.out
                rw [take_snoc Hv.out]
                unfold ints at h ⊢
                rw [List.map_append]
                exact h
              case measure => simp [intOf]; omega
            exact AllReady.nil
          exact AllReady.nil
        exact AllReady.nil
      refine AllReady.cons (o := { dst := some 32, op := Op.load 22 (Operand.tmp 31), type := 22, pos := "tiers.go:276", after := #[{ on := 9, ground := Ground.data }], guard := none }) rfl (fun K hK => ?_) ?_
      · go_simp
        refine hK _ _ ?_
        clear hK K
        try go_frame
        refine wpAny_take (i := 12) (oi := { dst := some 34, op := Op.indexAddr 22 (Operand.tmp 32) (Operand.tmp 33), type := 0, pos := "tiers.go:276", after := #[{ on := 10, ground := Ground.data }, { on := 11, ground := Ground.data }], guard := none }) (v := ?vq33) rfl (by kernel_rfl) (by kernel_rfl) (by kernel_rfl) (fun _ _ _ h => h) (Or.inl ⟨by rfl, ?hq33⟩) ?rq33
        case hq33 => intro W; go_simp; (try with_reducible rfl)
        try go_frame
        refine wpAny_take (i := 13) (oi := { dst := some 35, op := Op.fieldAddr 69 (Operand.tmp 34) 1, type := 0, pos := "tiers.go:276", after := #[{ on := 12, ground := Ground.data }], guard := none }) (v := ?vq34) rfl (by kernel_rfl) (by kernel_rfl) (by kernel_rfl) (fun _ _ _ h => h) (Or.inl ⟨by rfl, ?hq34⟩) ?rq34
        case hq34 => intro W; go_simp; (try with_reducible rfl)
        try go_frame
        refine wpAny_ready (rs := [1, 3, 14]) (by kernel_rfl) (by simp) ?_
        refine AllReady.cons (o := { dst := some 23, op := Op.load 29 (Operand.tmp 3), type := 29, pos := "tiers.go:276", after := #[], guard := none }) rfl (fun K hK => ?_) ?_
        · go_simp
          refine hK _ _ ?_
          clear hK K
          try go_frame
          refine wpAny_ready (rs := [3, 14]) (by kernel_rfl) (by simp) ?_
          refine AllReady.cons (o := { dst := some 25, op := Op.load 25 (Operand.tmp 24), type := 25, pos := "tiers.go:276", after := #[{ on := 2, ground := Ground.data }], guard := none }) rfl (fun K hK => ?_) ?_
          · go_simp
            refine hK _ _ ?_
            clear hK K
            try go_frame
            refine wpAny_take (i := 5) (oi := { dst := some 27, op := Op.indexAddr 25 (Operand.tmp 25) (Operand.tmp 26), type := 0, pos := "tiers.go:276", after := #[{ on := 3, ground := Ground.data }, { on := 4, ground := Ground.data }], guard := none }) (v := ?vq35) rfl (by kernel_rfl) (by kernel_rfl) (by kernel_rfl) (fun _ _ _ h => h) (Or.inl ⟨by rfl, ?hq35⟩) ?rq35
            case hq35 => intro W; go_simp; (try with_reducible rfl)
            try go_frame
            refine wpAny_ready (rs := [6, 14]) (by kernel_rfl) (by simp) ?_
            refine AllReady.cons (o := { dst := some 28, op := Op.load 3 (Operand.tmp 27), type := 3, pos := "tiers.go:276", after := #[{ on := 5, ground := Ground.data }], guard := none }) rfl (fun K hK => ?_) ?_
            · go_simp
              refine hK _ _ ?_
              clear hK K
              try go_frame
              refine wpAny_ready (rs := [7, 14]) (by kernel_rfl) (by simp) ?_
              refine AllReady.cons (o := { dst := some 29, op := Op.call { callee := Callee.value (Operand.func 27), args := #[Operand.tmp 23, Operand.tmp 28], argTypes := #[29, 3] }, type := 3, pos := "tiers.go:276", after := #[{ on := 1, ground := Ground.data }, { on := 6, ground := Ground.data }], guard := none }) rfl (fun K hK => ?_) ?_
              · go_simp
                go_wp2_with (first | (go_at_call 27; refine (HF1.out _ F2).mono ?_; rintro r w5 ⟨rfl, f5⟩; obtain ⟨p0, p1, p2, q0, q1, q2, q3, te, sc⟩ := HC.out w5 f5))
                try go_frame
                refine wpAny_ready (rs := [14]) (by kernel_rfl) (by simp) ?_
                refine AllReady.cons (o := { dst := some 36, op := Op.load 3 (Operand.tmp 35), type := 3, pos := "tiers.go:276", after := #[{ on := 13, ground := Ground.data }], guard := none }) rfl (fun K hK => ?_) AllReady.nil
                go_simp
                refine hK _ _ ?_
                clear hK K
                try go_frame
                refine wpAny_ready (rs := [15]) (by kernel_rfl) (by simp) ?_
                refine AllReady.cons (o := { dst := some 37, op := Op.call { callee := Callee.value (Operand.func 37), args := #[Operand.tmp 29, Operand.tmp 36], argTypes := #[3, 3] }, type := 3, pos := "tiers.go:276", after := #[{ on := 7, ground := Ground.data }, { on := 14, ground := Ground.data }, { on := 7, ground := Ground.chain }], guard := none }) rfl (fun K hK => ?_) AllReady.nil
                go_simp
                go_wp2_with (first | (go_at_call 37; refine (HCl.out _).mono ?_; rintro r w6 ⟨rfl, rfl⟩))
                refine wpAny_ready (rs := [16]) (by kernel_rfl) (by simp) ?_
                refine AllReady.cons (o := { dst := some 38, op := Op.buildSlice 25 1 #[(0, Operand.tmp 37)], type := 25, pos := "tiers.go:276", after := #[{ on := 15, ground := Ground.data }], guard := none }) rfl (fun K hK => ?_) AllReady.nil
                go_simp
                refine hK _ _ ?_
                clear hK K
                try go_frame
                refine wpAny_ready (rs := [17]) (by kernel_rfl) (by simp) ?_
                refine AllReady.cons (o := { dst := some 39, op := Op.call { callee := Callee.builtin Builtin.append, args := #[Operand.tmp 22, Operand.tmp 38], argTypes := #[25, 25] }, type := 25, pos := "tiers.go:276", after := #[{ on := 0, ground := Ground.data }, { on := 16, ground := Ground.data }, { on := 15, ground := Ground.chain }], guard := none }) rfl (fun K hK => ?_) AllReady.nil
                rw [if_pos (by rfl)]
                have O5 := Lib.hid (Ho.out.skip f5)
                have Hr5 := Lib.hid (own_fr0 Hrow.out f5)
                have Hb05 := Lib.hid (Hb0.out.fr f5 (fun h => h))
                have Hb15 := Lib.hid (Hb1.out.fr f5 (fun h => h))
                refine op_app3 _ _ 25 rfl 3 i0 (.int .i64 0) 1 8 Tryz.underlying25 hi hz0 hz1 hz2 rfl (by decide) (.slice R k cs) k _ rfl 0 (Nat.zero_le _) (own_fr0 Hr5.out (Fr.none_alloc _ _)) (some ⟨w5.heap.size, 0, none⟩) 1 1 [.int .i64 cv] rfl (Rd.new w5 [.int .i64 cv] _ 1 rfl) (by simp [Value.oneCell']) (by unfold maxLen; omega) (by omega) (fun R6 c6 w6 ho6 hm6 _ => ?_)
                have Ho6 := Lib.hid ho6
                have Hm6 := Lib.hid hm6
                clear ho6 hm6
                refine hK _ _ ?_
                clear hK K
                try go_frame
                refine wpAny_ready (rs := [18]) (by kernel_rfl) (by simp) ?_
                refine AllReady.cons (o := { dst := some 5, op := Op.assign (Operand.tmp 39), type := 25, pos := "tiers.go:276", after := #[{ on := 17, ground := Ground.data }, { on := 17, ground := Ground.chain }, { on := 0, ground := Ground.phase }, { on := 1, ground := Ground.phase }, { on := 2, ground := Ground.phase }, { on := 3, ground := Ground.phase }, { on := 4, ground := Ground.phase }, { on := 5, ground := Ground.phase }, { on := 6, ground := Ground.phase }, { on := 7, ground := Ground.phase }, { on := 8, ground := Ground.phase }, { on := 9, ground := Ground.phase }, { on := 10, ground := Ground.phase }, { on := 11, ground := Ground.phase }, { on := 12, ground := Ground.phase }, { on := 13, ground := Ground.phase }, { on := 14, ground := Ground.phase }, { on := 15, ground := Ground.phase }, { on := 16, ground := Ground.phase }, { on := 17, ground := Ground.phase }], guard := none }) rfl (fun K hK => ?_) AllReady.nil
                go_simp
                refine hK _ _ ?_
                clear hK K
                try go_frame
                refine wpAny_done (by kernel_rfl) ?_ _
                go_wp2
                go_roundw
                case rel =>
                  refine ⟨k + 1, R6, c6, by omega, by go_num, by go_num, (Hb05.out.alloc _).fr Hm6.out.fr (own_blk_ne Hr5.out Hb05.out (by decide)), (Hb15.out.alloc _).fr Hm6.out.fr (own_blk_ne Hr5.out Hb15.out (by decide)), ?_, (O5.out.skip (Fr.none_alloc _ _)).mv Hm6.out⟩
                  have h := Ho6.out
                  rw [take_snoc Hv.out]
                  unfold ints at h ⊢
                  rw [List.map_append]
                  exact h
                case measure => simp [intOf]; omega
              refine AllReady.cons (o := { dst := some 36, op := Op.load 3 (Operand.tmp 35), type := 3, pos := "tiers.go:276", after := #[{ on := 13, ground := Ground.data }], guard := none }) rfl (fun K hK => ?_) ?_
              · go_simp
                refine hK _ _ ?_
                clear hK K
                try go_frame
                refine wpAny_ready (rs := [7]) (by kernel_rfl) (by simp) ?_
                refine AllReady.cons (o := { dst := some 29, op := Op.call { callee := Callee.value (Operand.func 27), args := #[Operand.tmp 23, Operand.tmp 28], argTypes := #[29, 3] }, type := 3, pos := "tiers.go:276", after := #[{ on := 1, ground := Ground.data }, { on := 6, ground := Ground.data }], guard := none }) rfl (fun K hK => ?_) AllReady.nil
                go_simp
                go_wp2_with (first | (go_at_call 27; refine (HF1.out _ F2).mono ?_; rintro r w5 ⟨rfl, f5⟩; obtain ⟨p0, p1, p2, q0, q1, q2, q3, te, sc⟩ := HC.out w5 f5))
                refine wpAny_ready (rs := [15]) (by kernel_rfl) (by simp) ?_
                refine AllReady.cons (o := { dst := some 37, op := Op.call { callee := Callee.value (Operand.func 37), args := #[Operand.tmp 29, Operand.tmp 36], argTypes := #[3, 3] }, type := 3, pos := "tiers.go:276", after := #[{ on := 7, ground := Ground.data }, { on := 14, ground := Ground.data }, { on := 7, ground := Ground.chain }], guard := none }) rfl (fun K hK => ?_) AllReady.nil
                go_simp
                go_wp2_with (first | (go_at_call 37; refine (HCl.out _).mono ?_; rintro r w6 ⟨rfl, rfl⟩))
                refine wpAny_ready (rs := [16]) (by kernel_rfl) (by simp) ?_
                refine AllReady.cons (o := { dst := some 38, op := Op.buildSlice 25 1 #[(0, Operand.tmp 37)], type := 25, pos := "tiers.go:276", after := #[{ on := 15, ground := Ground.data }], guard := none }) rfl (fun K hK => ?_) AllReady.nil
                go_simp
                refine hK _ _ ?_
                clear hK K
                try go_frame
                refine wpAny_ready (rs := [17]) (by kernel_rfl) (by simp) ?_
                refine AllReady.cons (o := { dst := some 39, op := Op.call { callee := Callee.builtin Builtin.append, args := #[Operand.tmp 22, Operand.tmp 38], argTypes := #[25, 25] }, type := 25, pos := "tiers.go:276", after := #[{ on := 0, ground := Ground.data }, { on := 16, ground := Ground.data }, { on := 15, ground := Ground.chain }], guard := none }) rfl (fun K hK => ?_) AllReady.nil
                rw [if_pos (by rfl)]
                have O5 := Lib.hid (Ho.out.skip f5)
                have Hr5 := Lib.hid (own_fr0 Hrow.out f5)
                have Hb05 := Lib.hid (Hb0.out.fr f5 (fun h => h))
                have Hb15 := Lib.hid (Hb1.out.fr f5 (fun h => h))
                refine op_app3 _ _ 25 rfl 3 i0 (.int .i64 0) 1 8 Tryz.underlying25 hi hz0 hz1 hz2 rfl (by decide) (.slice R k cs) k _ rfl 0 (Nat.zero_le _) (own_fr0 Hr5.out (Fr.none_alloc _ _)) (some ⟨w5.heap.size, 0, none⟩) 1 1 [.int .i64 cv] rfl (Rd.new w5 [.int .i64 cv] _ 1 rfl) (by simp [Value.oneCell']) (by unfold maxLen; omega) (by omega) (fun R6 c6 w6 ho6 hm6 _ => ?_)
                have Ho6 := Lib.hid ho6
                have Hm6 := Lib.hid hm6
                clear ho6 hm6
                refine hK _ _ ?_
                clear hK K
                try go_frame
                refine wpAny_ready (rs := [18]) (by kernel_rfl) (by simp) ?_
                refine AllReady.cons (o := { dst := some 5, op := Op.assign (Operand.tmp 39), type := 25, pos := "tiers.go:276", after := #[{ on := 17, ground := Ground.data }, { on := 17, ground := Ground.chain }, { on := 0, ground := Ground.phase }, { on := 1, ground := Ground.phase }, { on := 2, ground := Ground.phase }, { on := 3, ground := Ground.phase }, { on := 4, ground := Ground.phase }, { on := 5, ground := Ground.phase }, { on := 6, ground := Ground.phase }, { on := 7, ground := Ground.phase }, { on := 8, ground := Ground.phase }, { on := 9, ground := Ground.phase }, { on := 10, ground := Ground.phase }, { on := 11, ground := Ground.phase }, { on := 12, ground := Ground.phase }, { on := 13, ground := Ground.phase }, { on := 14, ground := Ground.phase }, { on := 15, ground := Ground.phase }, { on := 16, ground := Ground.phase }, { on := 17, ground := Ground.phase }], guard := none }) rfl (fun K hK => ?_) AllReady.nil
                go_simp
                refine hK _ _ ?_
                clear hK K
                try go_frame
                refine wpAny_done (by kernel_rfl) ?_ _
                go_wp2
                go_roundw
                case rel =>
                  refine ⟨k + 1, R6, c6, by omega, by go_num, by go_num, (Hb05.out.alloc _).fr Hm6.out.fr (own_blk_ne Hr5.out Hb05.out (by decide)), (Hb15.out.alloc _).fr Hm6.out.fr (own_blk_ne Hr5.out Hb15.out (by decide)), ?_, (O5.out.skip (Fr.none_alloc _ _)).mv Hm6.out⟩
                  have h := Ho6.out
                  rw [take_snoc Hv.out]
                  unfold ints at h ⊢
                  rw [List.map_append]
                  exact h
                case measure => simp [intOf]; omega
              exact AllReady.nil
            refine AllReady.cons (o := { dst := some 36, op := Op.load 3 (Operand.tmp 35), type := 3, pos := "tiers.go:276", after := #[{ on := 13, ground := Ground.data }], guard := none }) rfl (fun K hK => ?_) ?_
            · go_simp
              refine hK _ _ ?_
              clear hK K
              try go_frame
              refine wpAny_ready (rs := [6]) (by kernel_rfl) (by simp) ?_
              refine AllReady.cons (o := { dst := some 28, op := Op.load 3 (Operand.tmp 27), type := 3, pos := "tiers.go:276", after := #[{ on := 5, ground := Ground.data }], guard := none }) rfl (fun K hK => ?_) AllReady.nil
              go_simp
              refine hK _ _ ?_
              clear hK K
              try go_frame
              refine wpAny_ready (rs := [7]) (by kernel_rfl) (by simp) ?_
              refine AllReady.cons (o := { dst := some 29, op := Op.call { callee := Callee.value (Operand.func 27), args := #[Operand.tmp 23, Operand.tmp 28], argTypes := #[29, 3] }, type := 3, pos := "tiers.go:276", after := #[{ on := 1, ground := Ground.data }, { on := 6, ground := Ground.data }], guard := none }) rfl (fun K hK => ?_) AllReady.nil
              go_simp
              go_wp2_with (first | (go_at_call 27; refine (HF1.out _ F2).mono ?_; rintro r w5 ⟨rfl, f5⟩; obtain ⟨p0, p1, p2, q0, q1, q2, q3, te, sc⟩ := HC.out w5 f5))
              refine wpAny_ready (rs := [15]) (by kernel_rfl) (by simp) ?_
              refine AllReady.cons (o := { dst := some 37, op := Op.call { callee := Callee.value (Operand.func 37), args := #[Operand.tmp 29, Operand.tmp 36], argTypes := #[3, 3] }, type := 3, pos := "tiers.go:276", after := #[{ on := 7, ground := Ground.data }, { on := 14, ground := Ground.data }, { on := 7, ground := Ground.chain }], guard := none }) rfl (fun K hK => ?_) AllReady.nil
              go_simp
              go_wp2_with (first | (go_at_call 37; refine (HCl.out _).mono ?_; rintro r w6 ⟨rfl, rfl⟩))
              refine wpAny_ready (rs := [16]) (by kernel_rfl) (by simp) ?_
              refine AllReady.cons (o := { dst := some 38, op := Op.buildSlice 25 1 #[(0, Operand.tmp 37)], type := 25, pos := "tiers.go:276", after := #[{ on := 15, ground := Ground.data }], guard := none }) rfl (fun K hK => ?_) AllReady.nil
              go_simp
              refine hK _ _ ?_
              clear hK K
              try go_frame
              refine wpAny_ready (rs := [17]) (by kernel_rfl) (by simp) ?_
              refine AllReady.cons (o := { dst := some 39, op := Op.call { callee := Callee.builtin Builtin.append, args := #[Operand.tmp 22, Operand.tmp 38], argTypes := #[25, 25] }, type := 25, pos := "tiers.go:276", after := #[{ on := 0, ground := Ground.data }, { on := 16, ground := Ground.data }, { on := 15, ground := Ground.chain }], guard := none }) rfl (fun K hK => ?_) AllReady.nil
              rw [if_pos (by rfl)]
              have O5 := Lib.hid (Ho.out.skip f5)
              have Hr5 := Lib.hid (own_fr0 Hrow.out f5)
              have Hb05 := Lib.hid (Hb0.out.fr f5 (fun h => h))
              have Hb15 := Lib.hid (Hb1.out.fr f5 (fun h => h))
              refine op_app3 _ _ 25 rfl 3 i0 (.int .i64 0) 1 8 Tryz.underlying25 hi hz0 hz1 hz2 rfl (by decide) (.slice R k cs) k _ rfl 0 (Nat.zero_le _) (own_fr0 Hr5.out (Fr.none_alloc _ _)) (some ⟨w5.heap.size, 0, none⟩) 1 1 [.int .i64 cv] rfl (Rd.new w5 [.int .i64 cv] _ 1 rfl) (by simp [Value.oneCell']) (by unfold maxLen; omega) (by omega) (fun R6 c6 w6 ho6 hm6 _ => ?_)
              have Ho6 := Lib.hid ho6
              have Hm6 := Lib.hid hm6
              clear ho6 hm6
              refine hK _ _ ?_
              clear hK K
              try go_frame
              refine wpAny_ready (rs := [18]) (by kernel_rfl) (by simp) ?_
              refine AllReady.cons (o := { dst := some 5, op := Op.assign (Operand.tmp 39), type := 25, pos := "tiers.go:276", after := #[{ on := 17, ground := Ground.data }, { on := 17, ground := Ground.chain }, { on := 0, ground := Ground.phase }, { on := 1, ground := Ground.phase }, { on := 2, ground := Ground.phase }, { on := 3, ground := Ground.phase }, { on := 4, ground := Ground.phase }, { on := 5, ground := Ground.phase }, { on := 6, ground := Ground.phase }, { on := 7, ground := Ground.phase }, { on := 8, ground := Ground.phase }, { on := 9, ground := Ground.phase }, { on := 10, ground := Ground.phase }, { on := 11, ground := Ground.phase }, { on := 12, ground := Ground.phase }, { on := 13, ground := Ground.phase }, { on := 14, ground := Ground.phase }, { on := 15, ground := Ground.phase }, { on := 16, ground := Ground.phase }, { on := 17, ground := Ground.phase }], guard := none }) rfl (fun K hK => ?_) AllReady.nil
              go_simp
              refine hK _ _ ?_
              clear hK K
              try go_frame
              refine wpAny_done (by kernel_rfl) ?_ _
              go_wp2
              go_roundw
              case rel =>
                refine ⟨k + 1, R6, c6, by omega, by go_num, by go_num, (Hb05.out.alloc _).fr Hm6.out.fr (own_blk_ne Hr5.out Hb05.out (by decide)), (Hb15.out.alloc _).fr Hm6.out.fr (own_blk_ne Hr5.out Hb15.out (by decide)), ?_, (O5.out.skip (Fr.none_alloc _ _)).mv Hm6.out⟩
                have h := Ho6.out
                rw [take_snoc Hv.out]
                unfold ints at h ⊢
                rw [List.map_append]
                exact h
              case measure => simp [intOf]; omega
            exact AllReady.nil
          refine AllReady.cons (o := { dst := some 36, op := Op.load 3 (Operand.tmp 35), type := 3, pos := "tiers.go:276", after := #[{ on := 13, ground := Ground.data }], guard := none }) rfl (fun K hK => ?_) ?_
          · go_simp
            refine hK _ _ ?_
            clear hK K
            try go_frame
            refine wpAny_ready (rs := [3]) (by kernel_rfl) (by simp) ?_
            refine AllReady.cons (o := { dst := some 25, op := Op.load 25 (Operand.tmp 24), type := 25, pos := "tiers.go:276", after := #[{ on := 2, ground := Ground.data }], guard := none }) rfl (fun K hK => ?_) AllReady.nil
            go_simp
            refine hK _ _ ?_
            clear hK K
            try go_frame
            refine wpAny_take (i := 5) (oi := { dst := some 27, op := Op.indexAddr 25 (Operand.tmp 25) (Operand.tmp 26), type := 0, pos := "tiers.go:276", after := #[{ on := 3, ground := Ground.data }, { on := 4, ground := Ground.data }], guard := none }) (v := ?vq36) rfl (by kernel_rfl) (by kernel_rfl) (by kernel_rfl) (fun _ _ _ h => h) (Or.inl ⟨by rfl, ?hq36⟩) ?rq36
            case hq36 => intro W; go_simp; (try with_reducible rfl)
            try go_frame
            refine wpAny_ready (rs := [6]) (by kernel_rfl) (by simp) ?_
            refine AllReady.cons (o := { dst := some 28, op := Op.load 3 (Operand.tmp 27), type := 3, pos := "tiers.go:276", after := #[{ on := 5, ground := Ground.data }], guard := none }) rfl (fun K hK => ?_) AllReady.nil
            go_simp
            refine hK _ _ ?_
            clear hK K
            try go_frame
            refine wpAny_ready (rs := [7]) (by kernel_rfl) (by simp) ?_
            refine AllReady.cons (o := { dst := some 29, op := Op.call { callee := Callee.value (Operand.func 27), args := #[Operand.tmp 23, Operand.tmp 28], argTypes := #[29, 3] }, type := 3, pos := "tiers.go:276", after := #[{ on := 1, ground := Ground.data }, { on := 6, ground := Ground.data }], guard := none }) rfl (fun K hK => ?_) AllReady.nil
            go_simp
            go_wp2_with (first | (go_at_call 27; refine (HF1.out _ F2).mono ?_; rintro r w5 ⟨rfl, f5⟩; obtain ⟨p0, p1, p2, q0, q1, q2, q3, te, sc⟩ := HC.out w5 f5))
            refine wpAny_ready (rs := [15]) (by kernel_rfl) (by simp) ?_
            refine AllReady.cons (o := { dst := some 37, op := Op.call { callee := Callee.value (Operand.func 37), args := #[Operand.tmp 29, Operand.tmp 36], argTypes := #[3, 3] }, type := 3, pos := "tiers.go:276", after := #[{ on := 7, ground := Ground.data }, { on := 14, ground := Ground.data }, { on := 7, ground := Ground.chain }], guard := none }) rfl (fun K hK => ?_) AllReady.nil
            go_simp
            go_wp2_with (first | (go_at_call 37; refine (HCl.out _).mono ?_; rintro r w6 ⟨rfl, rfl⟩))
            refine wpAny_ready (rs := [16]) (by kernel_rfl) (by simp) ?_
            refine AllReady.cons (o := { dst := some 38, op := Op.buildSlice 25 1 #[(0, Operand.tmp 37)], type := 25, pos := "tiers.go:276", after := #[{ on := 15, ground := Ground.data }], guard := none }) rfl (fun K hK => ?_) AllReady.nil
            go_simp
            refine hK _ _ ?_
            clear hK K
            try go_frame
            refine wpAny_ready (rs := [17]) (by kernel_rfl) (by simp) ?_
            refine AllReady.cons (o := { dst := some 39, op := Op.call { callee := Callee.builtin Builtin.append, args := #[Operand.tmp 22, Operand.tmp 38], argTypes := #[25, 25] }, type := 25, pos := "tiers.go:276", after := #[{ on := 0, ground := Ground.data }, { on := 16, ground := Ground.data }, { on := 15, ground := Ground.chain }], guard := none }) rfl (fun K hK => ?_) AllReady.nil
            rw [if_pos (by rfl)]
            have O5 := Lib.hid (Ho.out.skip f5)
            have Hr5 := Lib.hid (own_fr0 Hrow.out f5)
            have Hb05 := Lib.hid (Hb0.out.fr f5 (fun h => h))
            have Hb15 := Lib.hid (Hb1.out.fr f5 (fun h => h))
            refine op_app3 _ _ 25 rfl 3 i0 (.int .i64 0) 1 8 Tryz.underlying25 hi hz0 hz1 hz2 rfl (by decide) (.slice R k cs) k _ rfl 0 (Nat.zero_le _) (own_fr0 Hr5.out (Fr.none_alloc _ _)) (some ⟨w5.heap.size, 0, none⟩) 1 1 [.int .i64 cv] rfl (Rd.new w5 [.int .i64 cv] _ 1 rfl) (by simp [Value.oneCell']) (by unfold maxLen; omega) (by omega) (fun R6 c6 w6 ho6 hm6 _ => ?_)
            have Ho6 := Lib.hid ho6
            have Hm6 := Lib.hid hm6
            clear ho6 hm6
            refine hK _ _ ?_
            clear hK K
            try go_frame
            refine wpAny_ready (rs := [18]) (by kernel_rfl) (by simp) ?_
            refine AllReady.cons (o := { dst := some 5, op := Op.assign (Operand.tmp 39), type := 25, pos := "tiers.go:276", after := #[{ on := 17, ground := Ground.data }, { on := 17, ground := Ground.chain }, { on := 0, ground := Ground.phase }, { on := 1, ground := Ground.phase }, { on := 2, ground := Ground.phase }, { on := 3, ground := Ground.phase }, { on := 4, ground := Ground.phase }, { on := 5, ground := Ground.phase }, { on := 6, ground := Ground.phase }, { on := 7, ground := Ground.phase }, { on := 8, ground := Ground.phase }, { on := 9, ground := Ground.phase }, { on := 10, ground := Ground.phase }, { on := 11, ground := Ground.phase }, { on := 12, ground := Ground.phase }, { on := 13, ground := Ground.phase }, { on := 14, ground := Ground.phase }, { on := 15, ground := Ground.phase }, { on := 16, ground := Ground.phase }, { on := 17, ground := Ground.phase }], guard := none }) rfl (fun K hK => ?_) AllReady.nil
            go_simp
            refine hK _ _ ?_
            clear hK K
            try go_frame
            refine wpAny_done (by kernel_rfl) ?_ _
            go_wp2
            go_roundw
            case rel =>
              refine ⟨k + 1, R6, c6, by omega, by go_num, by go_num, (Hb05.out.alloc _).fr Hm6.out.fr (own_blk_ne Hr5.out Hb05.out (by decide)), (Hb15.out.alloc _).fr Hm6.out.fr (own_blk_ne Hr5.out Hb15.out (by decide)), ?_, (O5.out.skip (Fr.none_alloc _ _)).mv Hm6.out⟩
              have h := Ho6.out
              rw [take_snoc Hv.out]
              unfold ints at h ⊢
              rw [List.map_append]
              exact h
            case measure => simp [intOf]; omega
          exact AllReady.nil
        refine AllReady.cons (o := { dst := some 25, op := Op.load 25 (Operand.tmp 24), type := 25, pos := "tiers.go:276", after := #[{ on := 2, ground := Ground.data }], guard := none }) rfl (fun K hK => ?_) ?_
        · go_simp
          refine hK _ _ ?_
          clear hK K
          try go_frame
          refine wpAny_take (i := 5) (oi := { dst := some 27, op := Op.indexAddr 25 (Operand.tmp 25) (Operand.tmp 26), type := 0, pos := "tiers.go:276", after := #[{ on := 3, ground := Ground.data }, { on := 4, ground := Ground.data }], guard := none }) (v := ?vq37) rfl (by kernel_rfl) (by kernel_rfl) (by kernel_rfl) (fun _ _ _ h => h) (Or.inl ⟨by rfl, ?hq37⟩) ?rq37
          case hq37 => intro W; go_simp; (try with_reducible rfl)
          try go_frame
          refine wpAny_ready (rs := [1, 6, 14]) (by kernel_rfl) (by simp) ?_
          refine AllReady.cons (o := { dst := some 23, op := Op.load 29 (Operand.tmp 3), type := 29, pos := "tiers.go:276", after := #[], guard := none }) rfl (fun K hK => ?_) ?_
          · go_simp
            refine hK _ _ ?_
            clear hK K
            try go_frame
            refine wpAny_ready (rs := [6, 14]) (by kernel_rfl) (by simp) ?_
            refine AllReady.cons (o := { dst := some 28, op := Op.load 3 (Operand.tmp 27), type := 3, pos := "tiers.go:276", after := #[{ on := 5, ground := Ground.data }], guard := none }) rfl (fun K hK => ?_) ?_
            · go_simp
              refine hK _ _ ?_
              clear hK K
              try go_frame
              refine wpAny_ready (rs := [7, 14]) (by kernel_rfl) (by simp) ?_
              refine AllReady.cons (o := { dst := some 29, op := Op.call { callee := Callee.value (Operand.func 27), args := #[Operand.tmp 23, Operand.tmp 28], argTypes := #[29, 3] }, type := 3, pos := "tiers.go:276", after := #[{ on := 1, ground := Ground.data }, { on := 6, ground := Ground.data }], guard := none }) rfl (fun K hK => ?_) ?_
              · go_simp
                go_wp2_with (first | (go_at_call 27; refine (HF1.out _ F2).mono ?_; rintro r w5 ⟨rfl, f5⟩; obtain ⟨p0, p1, p2, q0, q1, q2, q3, te, sc⟩ := HC.out w5 f5))
                try go_frame
                refine wpAny_ready (rs := [14]) (by kernel_rfl) (by simp) ?_
                refine AllReady.cons (o := { dst := some 36, op := Op.load 3 (Operand.tmp 35), type := 3, pos := "tiers.go:276", after := #[{ on := 13, ground := Ground.data }], guard := none }) rfl (fun K hK => ?_) AllReady.nil
                go_simp
                refine hK _ _ ?_
                clear hK K
                try go_frame
                refine wpAny_ready (rs := [15]) (by kernel_rfl) (by simp) ?_
                refine AllReady.cons (o := { dst := some 37, op := Op.call { callee := Callee.value (Operand.func 37), args := #[Operand.tmp 29, Operand.tmp 36], argTypes := #[3, 3] }, type := 3, pos := "tiers.go:276", after := #[{ on := 7, ground := Ground.data }, { on := 14, ground := Ground.data }, { on := 7, ground := Ground.chain }], guard := none }) rfl (fun K hK => ?_) AllReady.nil
                go_simp
                go_wp2_with (first | (go_at_call 37; refine (HCl.out _).mono ?_; rintro r w6 ⟨rfl, rfl⟩))
                refine wpAny_ready (rs := [16]) (by kernel_rfl) (by simp) ?_
                refine AllReady.cons (o := { dst := some 38, op := Op.buildSlice 25 1 #[(0, Operand.tmp 37)], type := 25, pos := "tiers.go:276", after := #[{ on := 15, ground := Ground.data }], guard := none }) rfl (fun K hK => ?_) AllReady.nil
                go_simp
                refine hK _ _ ?_
                clear hK K
                try go_frame
                refine wpAny_ready (rs := [17]) (by kernel_rfl) (by simp) ?_
                refine AllReady.cons (o := { dst := some 39, op := Op.call { callee := Callee.builtin Builtin.append, args := #[Operand.tmp 22, Operand.tmp 38], argTypes := #[25, 25] }, type := 25, pos := "tiers.go:276", after := #[{ on := 0, ground := Ground.data }, { on := 16, ground := Ground.data }, { on := 15, ground := Ground.chain }], guard := none }) rfl (fun K hK => ?_) AllReady.nil
                rw [if_pos (by rfl)]
                have O5 := Lib.hid (Ho.out.skip f5)
                have Hr5 := Lib.hid (own_fr0 Hrow.out f5)
                have Hb05 := Lib.hid (Hb0.out.fr f5 (fun h => h))
                have Hb15 := Lib.hid (Hb1.out.fr f5 (fun h => h))
                refine op_app3 _ _ 25 rfl 3 i0 (.int .i64 0) 1 8 Tryz.underlying25 hi hz0 hz1 hz2 rfl (by decide) (.slice R k cs) k _ rfl 0 (Nat.zero_le _) (own_fr0 Hr5.out (Fr.none_alloc _ _)) (some ⟨w5.heap.size, 0, none⟩) 1 1 [.int .i64 cv] rfl (Rd.new w5 [.int .i64 cv] _ 1 rfl) (by simp [Value.oneCell']) (by unfold maxLen; omega) (by omega) (fun R6 c6 w6 ho6 hm6 _ => ?_)
                have Ho6 := Lib.hid ho6
                have Hm6 := Lib.hid hm6
                clear ho6 hm6
                refine hK _ _ ?_
                clear hK K
                try go_frame
                refine wpAny_ready (rs := [18]) (by kernel_rfl) (by simp) ?_
                refine AllReady.cons (o := { dst := some 5, op := Op.assign (Operand.tmp 39), type := 25, pos := "tiers.go:276", after := #[{ on := 17, ground := Ground.data }, { on := 17, ground := Ground.chain }, { on := 0, ground := Ground.phase }, { on := 1, ground := Ground.phase }, { on := 2, ground := Ground.phase }, { on := 3, ground := Ground.phase }, { on := 4, ground := Ground.phase }, { on := 5, ground := Ground.phase }, { on := 6, ground := Ground.phase }, { on := 7, ground := Ground.phase }, { on := 8, ground := Ground.phase }, { on := 9, ground := Ground.phase }, { on := 10, ground := Ground.phase }, { on := 11, ground := Ground.phase }, { on := 12, ground := Ground.phase }, { on := 13, ground := Ground.phase }, { on := 14, ground := Ground.phase }, { on := 15, ground := Ground.phase }, { on := 16, ground := Ground.phase }, { on := 17, ground := Ground.phase }], guard := none }) rfl (fun K hK => ?_) AllReady.nil
                go_simp
                refine hK _ _ ?_
                clear hK K
                try go_frame
                refine wpAny_done (by kernel_rfl) ?_ _
                go_wp2
                go_roundw
                case rel =>
                  refine ⟨k + 1, R6, c6, by omega, by go_num, by go_num, (Hb05.out.alloc _).fr Hm6.out.fr (own_blk_ne Hr5.out Hb05.out (by decide)), (Hb15.out.alloc _).fr Hm6.out.fr (own_blk_ne Hr5.out Hb15.out (by decide)), ?_, (O5.out.skip (Fr.none_alloc _ _)).mv Hm6.out⟩
                  have h := Ho6.out
                  rw [take_snoc Hv.out]
                  unfold ints at h ⊢
                  rw [List.map_append]
                  exact h
                case measure => simp [intOf]; omega
              refine AllReady.cons (o := { dst := some 36, op := Op.load 3 (Operand.tmp 35), type := 3, pos := "tiers.go:276", after := #[{ on := 13, ground := Ground.data }], guard := none }) rfl (fun K hK => ?_) ?_
              · go_simp
                refine hK _ _ ?_
                clear hK K
                try go_frame
                refine wpAny_ready (rs := [7]) (by kernel_rfl) (by simp) ?_
                refine AllReady.cons (o := { dst := some 29, op := Op.call { callee := Callee.value (Operand.func 27), args := #[Operand.tmp 23, Operand.tmp 28], argTypes := #[29, 3] }, type := 3, pos := "tiers.go:276", after := #[{ on := 1, ground := Ground.data }, { on := 6, ground := Ground.data }], guard := none }) rfl (fun K hK => ?_) AllReady.nil
                go_simp
                go_wp2_with (first | (go_at_call 27; refine (HF1.out _ F2).mono ?_; rintro r w5 ⟨rfl, f5⟩; obtain ⟨p0, p1, p2, q0, q1, q2, q3, te, sc⟩ := HC.out w5 f5))
                refine wpAny_ready (rs := [15]) (by kernel_rfl) (by simp) ?_
                refine AllReady.cons (o := { dst := some 37, op := Op.call { callee := Callee.value (Operand.func 37), args := #[Operand.tmp 29, Operand.tmp 36], argTypes := #[3, 3] }, type := 3, pos := "tiers.go:276", after := #[{ on := 7, ground := Ground.data }, { on := 14, ground := Ground.data }, { on := 7, ground := Ground.chain }], guard := none }) rfl (fun K hK => ?_) AllReady.nil
                go_simp
                go_wp2_with (first | (go_at_call 37; refine (HCl.out _).mono ?_; rintro r w6 ⟨rfl, rfl⟩))
                refine wpAny_ready (rs := [16]) (by kernel_rfl) (by simp) ?_
                refine AllReady.cons (o := { dst := some 38, op := Op.buildSlice 25 1 #[(0, Operand.tmp 37)], type := 25, pos := "tiers.go:276", after := #[{ on := 15, ground := Ground.data }], guard := none }) rfl (fun K hK => ?_) AllReady.nil
                go_simp
                refine hK _ _ ?_
                clear hK K
                try go_frame
                refine wpAny_ready (rs := [17]) (by kernel_rfl) (by simp) ?_
                refine AllReady.cons (o := { dst := some 39, op := Op.call { callee := Callee.builtin Builtin.append, args := #[Operand.tmp 22, Operand.tmp 38], argTypes := #[25, 25] }, type := 25, pos := "tiers.go:276", after := #[{ on := 0, ground := Ground.data }, { on := 16, ground := Ground.data }, { on := 15, ground := Ground.chain }], guard := none }) rfl (fun K hK => ?_) AllReady.nil
                rw [if_pos (by rfl)]
                have O5 := Lib.hid (Ho.out.skip f5)
                have Hr5 := Lib.hid (own_fr0 Hrow.out f5)
                have Hb05 := Lib.hid (Hb0.out.fr f5 (fun h => h))
                have Hb15 := Lib.hid (Hb1.out.fr f5 (fun h => h))
                refine op_app3 _ _ 25 rfl 3 i0 (.int .i64 0) 1 8 Tryz.underlying25 hi hz0 hz1 hz2 rfl (by decide) (.slice R k cs) k _ rfl 0 (Nat.zero_le _) (own_fr0 Hr5.out (Fr.none_alloc _ _)) (some ⟨w5.heap.size, 0, none⟩) 1 1 [.int .i64 cv] rfl (Rd.new w5 [.int .i64 cv] _ 1 rfl) (by simp [Value.oneCell']) (by unfold maxLen; omega) (by omega) (fun R6 c6 w6 ho6 hm6 _ => ?_)
                have Ho6 := Lib.hid ho6
                have Hm6 := Lib.hid hm6
                clear ho6 hm6
                refine hK _ _ ?_
                clear hK K
                try go_frame
                refine wpAny_ready (rs := [18]) (by kernel_rfl) (by simp) ?_
                refine AllReady.cons (o := { dst := some 5, op := Op.assign (Operand.tmp 39), type := 25, pos := "tiers.go:276", after := #[{ on := 17, ground := Ground.data }, { on := 17, ground := Ground.chain }, { on := 0, ground := Ground.phase }, { on := 1, ground := Ground.phase }, { on := 2, ground := Ground.phase }, { on := 3, ground := Ground.phase }, { on := 4, ground := Ground.phase }, { on := 5, ground := Ground.phase }, { on := 6, ground := Ground.phase }, { on := 7, ground := Ground.phase }, { on := 8, ground := Ground.phase }, { on := 9, ground := Ground.phase }, { on := 10, ground := Ground.phase }, { on := 11, ground := Ground.phase }, { on := 12, ground := Ground.phase }, { on := 13, ground := Ground.phase }, { on := 14, ground := Ground.phase }, { on := 15, ground := Ground.phase }, { on := 16, ground := Ground.phase }, { on := 17, ground := Ground.phase }], guard := none }) rfl (fun K hK => ?_) AllReady.nil
                go_simp
                refine hK _ _ ?_
                clear hK K
                try go_frame
                refine wpAny_done (by kernel_rfl) ?_ _
                go_wp2
                go_roundw
                case rel =>
                  refine ⟨k + 1, R6, c6, by omega, by go_num, by go_num, (Hb05.out.alloc _).fr Hm6.out.fr (own_blk_ne Hr5.out Hb05.out (by decide)), (Hb15.out.alloc _).fr Hm6.out.fr (own_blk_ne Hr5.out Hb15.out (by decide)), ?_, (O5.out.skip (Fr.none_alloc _ _)).mv Hm6.out⟩
                  have h := Ho6.out
                  rw [take_snoc Hv.out]
                  unfold ints at h ⊢
                  rw [List.map_append]
                  exact h
                case measure => simp [intOf]; omega
              exact AllReady.nil
            refine AllReady.cons (o := { dst := some 36, op := Op.load 3 (Operand.tmp 35), type := 3, pos := "tiers.go:276", after := #[{ on := 13, ground := Ground.data }], guard := none }) rfl (fun K hK => ?_) ?_
            · go_simp
              refine hK _ _ ?_
              clear hK K
              try go_frame
              refine wpAny_ready (rs := [6]) (by kernel_rfl) (by simp) ?_
              refine AllReady.cons (o := { dst := some 28, op := Op.load 3 (Operand.tmp 27), type := 3, pos := "tiers.go:276", after := #[{ on := 5, ground := Ground.data }], guard := none }) rfl (fun K hK => ?_) AllReady.nil
              go_simp
              refine hK _ _ ?_
              clear hK K
              try go_frame
              refine wpAny_ready (rs := [7]) (by kernel_rfl) (by simp) ?_
              refine AllReady.cons (o := { dst := some 29, op := Op.call { callee := Callee.value (Operand.func 27), args := #[Operand.tmp 23, Operand.tmp 28], argTypes := #[29, 3] }, type := 3, pos := "tiers.go:276", after := #[{ on := 1, ground := Ground.data }, { on := 6, ground := Ground.data }], guard := none }) rfl (fun K hK => ?_) AllReady.nil
              go_simp
              go_wp2_with (first | (go_at_call 27; refine (HF1.out _ F2).mono ?_; rintro r w5 ⟨rfl, f5⟩; obtain ⟨p0, p1, p2, q0, q1, q2, q3, te, sc⟩ := HC.out w5 f5))
              refine wpAny_ready (rs := [15]) (by kernel_rfl) (by simp) ?_
              refine AllReady.cons (o := { dst := some 37, op := Op.call { callee := Callee.value (Operand.func 37), args := #[Operand.tmp 29, Operand.tmp 36], argTypes := #[3, 3] }, type := 3, pos := "tiers.go:276", after := #[{ on := 7, ground := Ground.data }, { on := 14, ground := Ground.data }, { on := 7, ground := Ground.chain }], guard := none }) rfl (fun K hK => ?_) AllReady.nil
              go_simp
              go_wp2_with (first | (go_at_call 37; refine (HCl.out _).mono ?_; rintro r w6 ⟨rfl, rfl⟩))
              refine wpAny_ready (rs := [16]) (by kernel_rfl) (by simp) ?_
              refine AllReady.cons (o := { dst := some 38, op := Op.buildSlice 25 1 #[(0, Operand.tmp 37)], type := 25, pos := "tiers.go:276", after := #[{ on := 15, ground := Ground.data }], guard := none }) rfl (fun K hK => ?_) AllReady.nil
              go_simp
              refine hK _ _ ?_
              clear hK K
              try go_frame
              refine wpAny_ready (rs := [17]) (by kernel_rfl) (by simp) ?_
              refine AllReady.cons (o := { dst := some 39, op := Op.call { callee := Callee.builtin Builtin.append, args := #[Operand.tmp 22, Operand.tmp 38], argTypes := #[25, 25] }, type := 25, pos := "tiers.go:276", after := #[{ on := 0, ground := Ground.data }, { on := 16, ground := Ground.data }, { on := 15, ground := Ground.chain }], guard := none }) rfl (fun K hK => ?_) AllReady.nil
              rw [if_pos (by rfl)]
              have O5 := Lib.hid (Ho.out.skip f5)
              have Hr5 := Lib.hid (own_fr0 Hrow.out f5)
              have Hb05 := Lib.hid (Hb0.out.fr f5 (fun h => h))
              have Hb15 := Lib.hid (Hb1.out.fr f5 (fun h => h))
              refine op_app3 _ _ 25 rfl 3 i0 (.int .i64 0) 1 8 Tryz.underlying25 hi hz0 hz1 hz2 rfl (by decide) (.slice R k cs) k _ rfl 0 (Nat.zero_le _) (own_fr0 Hr5.out (Fr.none_alloc _ _)) (some ⟨w5.heap.size, 0, none⟩) 1 1 [.int .i64 cv] rfl (Rd.new w5 [.int .i64 cv] _ 1 rfl) (by simp [Value.oneCell']) (by unfold maxLen; omega) (by omega) (fun R6 c6 w6 ho6 hm6 _ => ?_)
              have Ho6 := Lib.hid ho6
              have Hm6 := Lib.hid hm6
              clear ho6 hm6
              refine hK _ _ ?_
              clear hK K
              try go_frame
              refine wpAny_ready (rs := [18]) (by kernel_rfl) (by simp) ?_
              refine AllReady.cons (o := { dst := some 5, op := Op.assign (Operand.tmp 39), type := 25, pos := "tiers.go:276", after := #[{ on := 17, ground := Ground.data }, { on := 17, ground := Ground.chain }, { on := 0, ground := Ground.phase }, { on := 1, ground := Ground.phase }, { on := 2, ground := Ground.phase }, { on := 3, ground := Ground.phase }, { on := 4, ground := Ground.phase }, { on := 5, ground := Ground.phase }, { on := 6, ground := Ground.phase }, { on := 7, ground := Ground.phase }, { on := 8, ground := Ground.phase }, { on := 9, ground := Ground.phase }, { on := 10, ground := Ground.phase }, { on := 11, ground := Ground.phase }, { on := 12, ground := Ground.phase }, { on := 13, ground := Ground.phase }, { on := 14, ground := Ground.phase }, { on := 15, ground := Ground.phase }, { on := 16, ground := Ground.phase }, { on := 17, ground := Ground.phase }], guard := none }) rfl (fun K hK => ?_) AllReady.nil
              go_simp
              refine hK _ _ ?_
              clear hK K
              try go_frame
              refine wpAny_done (by kernel_rfl) ?_ _
              go_wp2
              go_roundw
              case rel =>
                refine ⟨k + 1, R6, c6, by omega, by go_num, by go_num, (Hb05.out.alloc _).fr Hm6.out.fr (own_blk_ne Hr5.out Hb05.out (by decide)), (Hb15.out.alloc _).fr Hm6.out.fr (own_blk_ne Hr5.out Hb15.out (by decide)), ?_, (O5.out.skip (Fr.none_alloc _ _)).mv Hm6.out⟩
                have h := Ho6.out
                rw [take_snoc Hv.out]
                unfold ints at h ⊢
                rw [List.map_append]
                exact h
              case measure => simp [intOf]; omega
            exact AllReady.nil
          refine AllReady.cons (o := { dst := some 28, op := Op.load 3 (Operand.tmp 27), type := 3, pos := "tiers.go:276", after := #[{ on := 5, ground := Ground.data }], guard := none }) rfl (fun K hK => ?_) ?_
          · go_simp
            refine hK _ _ ?_
            clear hK K
            try go_frame
            refine wpAny_ready (rs := [1, 14]) (by kernel_rfl) (by simp) ?_
            refine AllReady.cons (o := { dst := some 23, op := Op.load 29 (Operand.tmp 3), type := 29, pos := "tiers.go:276", after := #[], guard := none }) rfl (fun K hK => ?_) ?_
            · go_simp
              refine hK _ _ ?_
              clear hK K
              try go_frame
              refine wpAny_ready (rs := [7, 14]) (by kernel_rfl) (by simp) ?_
              refine AllReady.cons (o := { dst := some 29, op := Op.call { callee := Callee.value (Operand.func 27), args := #[Operand.tmp 23, Operand.tmp 28], argTypes := #[29, 3] }, type := 3, pos := "tiers.go:276", after := #[{ on := 1, ground := Ground.data }, { on := 6, ground := Ground.data }], guard := none }) rfl (fun K hK => ?_) ?_
              · go_simp
                go_wp2_with (first | (go_at_call 27; refine (HF1.out _ F2).mono ?_; rintro r w5 ⟨rfl, f5⟩; obtain ⟨p0, p1, p2, q0, q1, q2, q3, te, sc⟩ := HC.out w5 f5))
                try go_frame
                refine wpAny_ready (rs := [14]) (by kernel_rfl) (by simp) ?_
                refine AllReady.cons (o := { dst := some 36, op := Op.load 3 (Operand.tmp 35), type := 3, pos := "tiers.go:276", after := #[{ on := 13, ground := Ground.data }], guard := none }) rfl (fun K hK => ?_) AllReady.nil
                go_simp
                refine hK _ _ ?_
                clear hK K
                try go_frame
                refine wpAny_ready (rs := [15]) (by kernel_rfl) (by simp) ?_
                refine AllReady.cons (o := { dst := some 37, op := Op.call { callee := Callee.value (Operand.func 37), args := #[Operand.tmp 29, Operand.tmp 36], argTypes := #[3, 3] }, type := 3, pos := "tiers.go:276", after := #[{ on := 7, ground := Ground.data }, { on := 14, ground := Ground.data }, { on := 7, ground := Ground.chain }], guard := none }) rfl (fun K hK => ?_) AllReady.nil
                go_simp
                go_wp2_with (first | (go_at_call 37; refine (HCl.out _).mono ?_; rintro r w6 ⟨rfl, rfl⟩))
                refine wpAny_ready (rs := [16]) (by kernel_rfl) (by simp) ?_
                refine AllReady.cons (o := { dst := some 38, op := Op.buildSlice 25 1 #[(0, Operand.tmp 37)], type := 25, pos := "tiers.go:276", after := #[{ on := 15, ground := Ground.data }], guard := none }) rfl (fun K hK => ?_) AllReady.nil
                go_simp
                refine hK _ _ ?_
                clear hK K
                try go_frame
                refine wpAny_ready (rs := [17]) (by kernel_rfl) (by simp) ?_
                refine AllReady.cons (o := { dst := some 39, op := Op.call { callee := Callee.builtin Builtin.append, args := #[Operand.tmp 22, Operand.tmp 38], argTypes := #[25, 25] }, type := 25, pos := "tiers.go:276", after := #[{ on := 0, ground := Ground.data }, { on := 16, ground := Ground.data }, { on := 15, ground := Ground.chain }], guard := none }) rfl (fun K hK => ?_) AllReady.nil
                rw [if_pos (by rfl)]
                have O5 := Lib.hid (Ho.out.skip f5)
                have Hr5 := Lib.hid (own_fr0 Hrow.out f5)
                have Hb05 := Lib.hid (Hb0.out.fr f5 (fun h => h))
                have Hb15 := Lib.hid (Hb1.out.fr f5 (fun h => h))
                refine op_app3 _ _ 25 rfl 3 i0 (.int .i64 0) 1 8 Tryz.underlying25 hi hz0 hz1 hz2 rfl (by decide) (.slice R k cs) k _ rfl 0 (Nat.zero_le _) (own_fr0 Hr5.out (Fr.none_alloc _ _)) (some ⟨w5.heap.size, 0, none⟩) 1 1 [.int .i64 cv] rfl (Rd.new w5 [.int .i64 cv] _ 1 rfl) (by simp [Value.oneCell']) (by unfold maxLen; omega) (by omega) (fun R6 c6 w6 ho6 hm6 _ => ?_)
                have Ho6 := Lib.hid ho6
                have Hm6 := Lib.hid hm6
                clear ho6 hm6
                refine hK _ _ ?_
                clear hK K
                try go_frame
                refine wpAny_ready (rs := [18]) (by kernel_rfl) (by simp) ?_
                refine AllReady.cons (o := { dst := some 5, op := Op.assign (Operand.tmp 39), type := 25, pos := "tiers.go:276", after := #[{ on := 17, ground := Ground.data }, { on := 17, ground := Ground.chain }, { on := 0, ground := Ground.phase }, { on := 1, ground := Ground.phase }, { on := 2, ground := Ground.phase }, { on := 3, ground := Ground.phase }, { on := 4, ground := Ground.phase }, { on := 5, ground := Ground.phase }, { on := 6, ground := Ground.phase }, { on := 7, ground := Ground.phase }, { on := 8, ground := Ground.phase }, { on := 9, ground := Ground.phase }, { on := 10, ground := Ground.phase }, { on := 11, ground := Ground.phase }, { on := 12, ground := Ground.phase }, { on := 13, ground := Ground.phase }, { on := 14, ground := Ground.phase }, { on := 15, ground := Ground.phase }, { on := 16, ground := Ground.phase }, { on := 17, ground := Ground.phase }], guard := none }) rfl (fun K hK => ?_) AllReady.nil
                go_simp
                refine hK _ _ ?_
                clear hK K
                try go_frame
                refine wpAny_done (by kernel_rfl) ?_ _
                go_wp2
                go_roundw
                case rel =>
                  refine ⟨k + 1, R6, c6, by omega, by go_num, by go_num, (Hb05.out.alloc _).fr Hm6.out.fr (own_blk_ne Hr5.out Hb05.out (by decide)), (Hb15.out.alloc _).fr Hm6.out.fr (own_blk_ne Hr5.out Hb15.out (by decide)), ?_, (O5.out.skip (Fr.none_alloc _ _)).mv Hm6.out⟩
                  have h := Ho6.out
                  rw [take_snoc Hv.out]
                  unfold ints at h ⊢
                  rw [List.map_append]
                  exact h
                case measure => simp [intOf]; omega
              refine AllReady.cons (o := { dst := some 36, op := Op.load 3 (Operand.tmp 35), type := 3, pos := "tiers.go:276", after := #[{ on := 13, ground := Ground.data }], guard := none }) rfl (fun K hK => ?_) ?_
              · go_simp
                refine hK _ _ ?_
                clear hK K
                try go_frame
                refine wpAny_ready (rs := [7]) (by kernel_rfl) (by simp) ?_
                refine AllReady.cons (o := { dst := some 29, op := Op.call { callee := Callee.value (Operand.func 27), args := #[Operand.tmp 23, Operand.tmp 28], argTypes := #[29, 3] }, type := 3, pos := "tiers.go:276", after := #[{ on := 1, ground := Ground.data }, { on := 6, ground := Ground.data }], guard := none }) rfl (fun K hK => ?_) AllReady.nil
                go_simp
                go_wp2_with (first | (go_at_call 27; refine (HF1.out _ F2).mono ?_; rintro r w5 ⟨rfl, f5⟩; obtain ⟨p0, p1, p2, q0, q1, q2, q3, te, sc⟩ := HC.out w5 f5))
                refine wpAny_ready (rs := [15]) (by kernel_rfl) (by simp) ?_
                refine AllReady.cons (o := { dst := some 37, op := Op.call { callee := Callee.value (Operand.func 37), args := #[Operand.tmp 29, Operand.tmp 36], argTypes := #[3, 3] }, type := 3, pos := "tiers.go:276", after := #[{ on := 7, ground := Ground.data }, { on := 14, ground := Ground.data }, { on := 7, ground := Ground.chain }], guard := none }) rfl (fun K hK => ?_) AllReady.nil
                go_simp
                go_wp2_with (first | (go_at_call 37; refine (HCl.out _).mono ?_; rintro r w6 ⟨rfl, rfl⟩))
                refine wpAny_ready (rs := [16]) (by kernel_rfl) (by simp) ?_
                refine AllReady.cons (o := { dst := some 38, op := Op.buildSlice 25 1 #[(0, Operand.tmp 37)], type := 25, pos := "tiers.go:276", after := #[{ on := 15, ground := Ground.data }], guard := none }) rfl (fun K hK => ?_) AllReady.nil
                go_simp
                refine hK _ _ ?_
                clear hK K
                try go_frame
                refine wpAny_ready (rs := [17]) (by kernel_rfl) (by simp) ?_
                refine AllReady.cons (o := { dst := some 39, op := Op.call { callee := Callee.builtin Builtin.append, args := #[Operand.tmp 22, Operand.tmp 38], argTypes := #[25, 25] }, type := 25, pos := "tiers.go:276", after := #[{ on := 0, ground := Ground.data }, { on := 16, ground := Ground.data }, { on := 15, ground := Ground.chain }], guard := none }) rfl (fun K hK => ?_) AllReady.nil
                rw [if_pos (by rfl)]
                have O5 := Lib.hid (Ho.out.skip f5)
                have Hr5 := Lib.hid (own_fr0 Hrow.out f5)
                have Hb05 := Lib.hid (Hb0.out.fr f5 (fun h => h))
                have Hb15 := Lib.hid (Hb1.out.fr f5 (fun h => h))
                refine op_app3 _ _ 25 rfl 3 i0 (.int .i64 0) 1 8 Tryz.underlying25 hi hz0 hz1 hz2 rfl (by decide) (.slice R k cs) k _ rfl 0 (Nat.zero_le _) (own_fr0 Hr5.out (Fr.none_alloc _ _)) (some ⟨w5.heap.size, 0, none⟩) 1 1 [.int .i64 cv] rfl (Rd.new w5 [.int .i64 cv] _ 1 rfl) (by simp [Value.oneCell']) (by unfold maxLen; omega) (by omega) (fun R6 c6 w6 ho6 hm6 _ => ?_)
                have Ho6 := Lib.hid ho6
                have Hm6 := Lib.hid hm6
                clear ho6 hm6
                refine hK _ _ ?_
                clear hK K
                try go_frame
                refine wpAny_ready (rs := [18]) (by kernel_rfl) (by simp) ?_
                refine AllReady.cons (o := { dst := some 5, op := Op.assign (Operand.tmp 39), type := 25, pos := "tiers.go:276", after := #[{ on := 17, ground := Ground.data }, { on := 17, ground := Ground.chain }, { on := 0, ground := Ground.phase }, { on := 1, ground := Ground.phase }, { on := 2, ground := Ground.phase }, { on := 3, ground := Ground.phase }, { on := 4, ground := Ground.phase }, { on := 5, ground := Ground.phase }, { on := 6, ground := Ground.phase }, { on := 7, ground := Ground.phase }, { on := 8, ground := Ground.phase }, { on := 9, ground := Ground.phase }, { on := 10, ground := Ground.phase }, { on := 11, ground := Ground.phase }, { on := 12, ground := Ground.phase }, { on := 13, ground := Ground.phase }, { on := 14, ground := Ground.phase }, { on := 15, ground := Ground.phase }, { on := 16, ground := Ground.phase }, { on := 17, ground := Ground.phase }], guard := none }) rfl (fun K hK => ?_) AllReady.nil
                go_simp
                refine hK _ _ ?_
                clear hK K
                try go_frame
                refine wpAny_done (by kernel_rfl) ?_ _
                go_wp2
                go_roundw
                case rel =>
                  refine ⟨k + 1, R6, c6, by omega, by go_num, by go_num, (Hb05.out.alloc _).fr Hm6.out.fr (own_blk_ne Hr5.out Hb05.out (by decide)), (Hb15.out.alloc _).fr Hm6.out.fr (own_blk_ne Hr5.out Hb15.out (by decide)), ?_, (O5.out.skip (Fr.none_alloc _ _)).mv Hm6.out⟩
                  have h := Ho6.out
                  rw [take_snoc Hv.out]
                  unfold ints at h ⊢
                  rw [List.map_append]
                  exact h
                case measure => simp [intOf]; omega
              exact AllReady.nil
            refine AllReady.cons (o := { dst := some 36, op := Op.load 3 (Operand.tmp 35), type := 3, pos := "tiers.go:276", after := #[{ on := 13, ground := Ground.data }], guard := none }) rfl (fun K hK => ?_) ?_
            · go_simp
              refine hK _ _ ?_
              clear hK K
              try go_frame
              refine wpAny_ready (rs := [1]) (by kernel_rfl) (by simp) ?_
              refine AllReady.cons (o := { dst := some 23, op := Op.load 29 (Operand.tmp 3), type := 29, pos := "tiers.go:276", after := #[], guard := none }) rfl (fun K hK => ?_) AllReady.nil
              go_simp
              refine hK _ _ ?_
              clear hK K
              try go_frame
              refine wpAny_ready (rs := [7]) (by kernel_rfl) (by simp) ?_
              refine AllReady.cons (o := { dst := some 29, op := Op.call { callee := Callee.value (Operand.func 27), args := #[Operand.tmp 23, Operand.tmp 28], argTypes := #[29, 3] }, type := 3, pos := "tiers.go:276", after := #[{ on := 1, ground := Ground.data }, { on := 6, ground := Ground.data }], guard := none }) rfl (fun K hK => ?_) AllReady.nil
              go_simp
              go_wp2_with (first | (go_at_call 27; refine (HF1.out _ F2).mono ?_; rintro r w5 ⟨rfl, f5⟩; obtain ⟨p0, p1, p2, q0, q1, q2, q3, te, sc⟩ := HC.out w5 f5))
              refine wpAny_ready (rs := [15]) (by kernel_rfl) (by simp) ?_
              refine AllReady.cons (o := { dst := some 37, op := Op.call { callee := Callee.value (Operand.func 37), args := #[Operand.tmp 29, Operand.tmp 36], argTypes := #[3, 3] }, type := 3, pos := "tiers.go:276", after := #[{ on := 7, ground := Ground.data }, { on := 14, ground := Ground.data }, { on := 7, ground := Ground.chain }], guard := none }) rfl (fun K hK => ?_) AllReady.nil
              go_simp
              go_wp2_with (first | (go_at_call 37; refine (HCl.out _).mono ?_; rintro r w6 ⟨rfl, rfl⟩))
              refine wpAny_ready (rs := [16]) (by kernel_rfl) (by simp) ?_
              refine AllReady.cons (o := { dst := some 38, op := Op.buildSlice 25 1 #[(0, Operand.tmp 37)], type := 25, pos := "tiers.go:276", after := #[{ on := 15, ground := Ground.data }], guard := none }) rfl (fun K hK => ?_) AllReady.nil
              go_simp
              refine hK _ _ ?_
              clear hK K
              try go_frame
              refine wpAny_ready (rs := [17]) (by kernel_rfl) (by simp) ?_
              refine AllReady.cons (o := { dst := some 39, op := Op.call { callee := Callee.builtin Builtin.append, args := #[Operand.tmp 22, Operand.tmp 38], argTypes := #[25, 25] }, type := 25, pos := "tiers.go:276", after := #[{ on := 0, ground := Ground.data }, { on := 16, ground := Ground.data }, { on := 15, ground := Ground.chain }], guard := none }) rfl (fun K hK => ?_) AllReady.nil
              rw [if_pos (by rfl)]
              have O5 := Lib.hid (Ho.out.skip f5)
              have Hr5 := Lib.hid (own_fr0 Hrow.out f5)
              have Hb05 := Lib.hid (Hb0.out.fr f5 (fun h => h))
              have Hb15 := Lib.hid (Hb1.out.fr f5 (fun h => h))
              refine op_app3 _ _ 25 rfl 3 i0 (.int .i64 0) 1 8 Tryz.underlying25 hi hz0 hz1 hz2 rfl (by decide) (.slice R k cs) k _ rfl 0 (Nat.zero_le _) (own_fr0 Hr5.out (Fr.none_alloc _ _)) (some ⟨w5.heap.size, 0, none⟩) 1 1 [.int .i64 cv] rfl (Rd.new w5 [.int .i64 cv] _ 1 rfl) (by simp [Value.oneCell']) (by unfold maxLen; omega) (by omega) (fun R6 c6 w6 ho6 hm6 _ => ?_)
              have Ho6 := Lib.hid ho6
              have Hm6 := Lib.hid hm6
              clear ho6 hm6
              refine hK _ _ ?_
              clear hK K
              try go_frame
              refine wpAny_ready (rs := [18]) (by kernel_rfl) (by simp) ?_
              refine AllReady.cons (o := { dst := some 5, op := Op.assign (Operand.tmp 39), type := 25, pos := "tiers.go:276", after := #[{ on := 17, ground := Ground.data }, { on := 17, ground := Ground.chain }, { on := 0, ground := Ground.phase }, { on := 1, ground := Ground.phase }, { on := 2, ground := Ground.phase }, { on := 3, ground := Ground.phase }, { on := 4, ground := Ground.phase }, { on := 5, ground := Ground.phase }, { on := 6, ground := Ground.phase }, { on := 7, ground := Ground.phase }, { on := 8, ground := Ground.phase }, { on := 9, ground := Ground.phase }, { on := 10, ground := Ground.phase }, { on := 11, ground := Ground.phase }, { on := 12, ground := Ground.phase }, { on := 13, ground := Ground.phase }, { on := 14, ground := Ground.phase }, { on := 15, ground := Ground.phase }, { on := 16, ground := Ground.phase }, { on := 17, ground := Ground.phase }], guard := none }) rfl (fun K hK => ?_) AllReady.nil
              go_simp
              refine hK _ _ ?_
              clear hK K
              try go_frame
              refine wpAny_done (by kernel_rfl) ?_ _
              go_wp2
              go_roundw
              case rel =>
                refine ⟨k + 1, R6, c6, by omega, by go_num, by go_num, (Hb05.out.alloc _).fr Hm6.out.fr (own_blk_ne Hr5.out Hb05.out (by decide)), (Hb15.out.alloc _).fr Hm6.out.fr (own_blk_ne Hr5.out Hb15.out (by decide)), ?_, (O5.out.skip (Fr.none_alloc _ _)).mv Hm6.out⟩
                have h := Ho6.out
                rw [take_snoc Hv.out]
                unfold ints at h ⊢
                rw [List.map_append]
                exact h
              case measure => simp [intOf]; omega
            exact AllReady.nil
          refine AllReady.cons (o := { dst := some 36, op := Op.load 3 (Operand.tmp 35), type := 3, pos := "tiers.go:276", after := #[{ on := 13, ground := Ground.data }], guard := none }) rfl (fun K hK => ?_) ?_
          · go_simp
            refine hK _ _ ?_
            clear hK K
            try go_frame
            refine wpAny_ready (rs := [1, 6]) (by kernel_rfl) (by simp) ?_
            refine AllReady.cons (o := { dst := some 23, op := Op.load 29 (Operand.tmp 3), type := 29, pos := "tiers.go:276", after := #[], guard := none }) rfl (fun K hK => ?_) ?_
            · go_simp
              refine hK _ _ ?_
              clear hK K
              try go_frame
              refine wpAny_ready (rs := [6]) (by kernel_rfl) (by simp) ?_
              refine AllReady.cons (o := { dst := some 28, op := Op.load 3 (Operand.tmp 27), type := 3, pos := "tiers.go:276", after := #[{ on := 5, ground := Ground.data }], guard := none }) rfl (fun K hK => ?_) AllReady.nil
              go_simp
              refine hK _ _ ?_
              clear hK K
              try go_frame
              refine wpAny_ready (rs := [7]) (by kernel_rfl) (by simp) ?_
              refine AllReady.cons (o := { dst := some 29, op := Op.call { callee := Callee.value (Operand.func 27), args := #[Operand.tmp 23, Operand.tmp 28], argTypes := #[29, 3] }, type := 3, pos := "tiers.go:276", after := #[{ on := 1, ground := Ground.data }, { on := 6, ground := Ground.data }], guard := none }) rfl (fun K hK => ?_) AllReady.nil
              go_simp
              go_wp2_with (first | (go_at_call 27; refine (HF1.out _ F2).mono ?_; rintro r w5 ⟨rfl, f5⟩; obtain ⟨p0, p1, p2, q0, q1, q2, q3, te, sc⟩ := HC.out w5 f5))
              refine wpAny_ready (rs := [15]) (by kernel_rfl) (by simp) ?_
              refine AllReady.cons (o := { dst := some 37, op := Op.call { callee := Callee.value (Operand.func 37), args := #[Operand.tmp 29, Operand.tmp 36], argTypes := #[3, 3] }, type := 3, pos := "tiers.go:276", after := #[{ on := 7, ground := Ground.data }, { on := 14, ground := Ground.data }, { on := 7, ground := Ground.chain }], guard := none }) rfl (fun K hK => ?_) AllReady.nil
              go_simp
              go_wp2_with (first | (go_at_call 37; refine (HCl.out _).mono ?_; rintro r w6 ⟨rfl, rfl⟩))
              refine wpAny_ready (rs := [16]) (by kernel_rfl) (by simp) ?_
              refine AllReady.cons (o := { dst := some 38, op := Op.buildSlice 25 1 #[(0, Operand.tmp 37)], type := 25, pos := "tiers.go:276", after := #[{ on := 15, ground := Ground.data }], guard := none }) rfl (fun K hK => ?_) AllReady.nil
              go_simp
              refine hK _ _ ?_
              clear hK K
              try go_frame
              refine wpAny_ready (rs := [17]) (by kernel_rfl) (by simp) ?_
              refine AllReady.cons (o := { dst := some 39, op := Op.call { callee := Callee.builtin Builtin.append, args := #[Operand.tmp 22, Operand.tmp 38], argTypes := #[25, 25] }, type := 25, pos := "tiers.go:276", after := #[{ on := 0, ground := Ground.data }, { on := 16, ground := Ground.data }, { on := 15, ground := Ground.chain }], guard := none }) rfl (fun K hK => ?_) AllReady.nil
              rw [if_pos (by rfl)]
              have O5 := Lib.hid (Ho.out.skip f5)
              have Hr5 := Lib.hid (own_fr0 Hrow.out f5)
              have Hb05 := Lib.hid (Hb0.out.fr f5 (fun h => h))
              have Hb15 := Lib.hid (Hb1.out.fr f5 (fun h => h))
              refine op_app3 _ _ 25 rfl 3 i0 (.int .i64 0) 1 8 Tryz.underlying25 hi hz0 hz1 hz2 rfl (by decide) (.slice R k cs) k _ rfl 0 (Nat.zero_le _) (own_fr0 Hr5.out (Fr.none_alloc _ _)) (some ⟨w5.heap.size, 0, none⟩) 1 1 [.int .i64 cv] rfl (Rd.new w5 [.int .i64 cv] _ 1 rfl) (by simp [Value.oneCell']) (by unfold maxLen; omega) (by omega) (fun R6 c6 w6 ho6 hm6 _ => ?_)
              have Ho6 := Lib.hid ho6
              have Hm6 := Lib.hid hm6
              clear ho6 hm6
              refine hK _ _ ?_
              clear hK K
              try go_frame
              refine wpAny_ready (rs := [18]) (by kernel_rfl) (by simp) ?_
              refine AllReady.cons (o := { dst := some 5, op := Op.assign (Operand.tmp 39), type := 25, pos := "tiers.go:276", after := #[{ on := 17, ground := Ground.data }, { on := 17, ground := Ground.chain }, { on := 0, ground := Ground.phase }, { on := 1, ground := Ground.phase }, { on := 2, ground := Ground.phase }, { on := 3, ground := Ground.phase }, { on := 4, ground := Ground.phase }, { on := 5, ground := Ground.phase }, { on := 6, ground := Ground.phase }, { on := 7, ground := Ground.phase }, { on := 8, ground := Ground.phase }, { on := 9, ground := Ground.phase }, { on := 10, ground := Ground.phase }, { on := 11, ground := Ground.phase }, { on := 12, ground := Ground.phase }, { on := 13, ground := Ground.phase }, { on := 14, ground := Ground.phase }, { on := 15, ground := Ground.phase }, { on := 16, ground := Ground.phase }, { on := 17, ground := Ground.phase }], guard := none }) rfl (fun K hK => ?_) AllReady.nil
              go_simp
              refine hK _ _ ?_
              clear hK K
              try go_frame
              refine wpAny_done (by kernel_rfl) ?_ _
              go_wp2
              go_roundw
              case rel =>
                refine ⟨k + 1, R6, c6, by omega, by go_num, by go_num, (Hb05.out.alloc _).fr Hm6.out.fr (own_blk_ne Hr5.out Hb05.out (by decide)), (Hb15.out.alloc _).fr Hm6.out.fr (own_blk_ne Hr5.out Hb15.out (by decide)), ?_, (O5.out.skip (Fr.none_alloc _ _)).mv Hm6.out⟩
                have h := Ho6.out
                rw [take_snoc Hv.out]
                unfold ints at h ⊢
                rw [List.map_append]
                exact h
              case measure => simp [intOf]; omega
            refine AllReady.cons (o := { dst := some 28, op := Op.load 3 (Operand.tmp 27), type := 3, pos := "tiers.go:276", after := #[{ on := 5, ground := Ground.data }], guard := none }) rfl (fun K hK => ?_) ?_
            · go_simp
              refine hK _ _ ?_
              clear hK K
              try go_frame
              refine wpAny_ready (rs := [1]) (by kernel_rfl) (by simp) ?_
              refine AllReady.cons (o := { dst := some 23, op := Op.load 29 (Operand.tmp 3), type := 29, pos := "tiers.go:276", after := #[], guard := none }) rfl (fun K hK => ?_) AllReady.nil
              go_simp
              refine hK _ _ ?_
              clear hK K
              try go_frame
              refine wpAny_ready (rs := [7]) (by kernel_rfl) (by simp) ?_
              refine AllReady.cons (o := { dst := some 29, op := Op.call { callee := Callee.value (Operand.func 27), args := #[Operand.tmp 23, Operand.tmp 28], argTypes := #[29, 3] }, type := 3, pos := "tiers.go:276", after := #[{ on := 1, ground := Ground.data }, { on := 6, ground := Ground.data }], guard := none }) rfl (fun K hK => ?_) AllReady.nil
              go_simp
              go_wp2_with (first | (go_at_call 27; refine (HF1.out _ F2).mono ?_; rintro r w5 ⟨rfl, f5⟩; obtain ⟨p0, p1, p2, q0, q1, q2, q3, te, sc⟩ := HC.out w5 f5))
              refine wpAny_ready (rs := [15]) (by kernel_rfl) (by simp) ?_
              refine AllReady.cons (o := { dst := some 37, op := Op.call { callee := Callee.value (Operand.func 37), args := #[Operand.tmp 29, Operand.tmp 36], argTypes := #[3, 3] }, type := 3, pos := "tiers.go:276", after := #[{ on := 7, ground := Ground.data }, { on := 14, ground := Ground.data }, { on := 7, ground := Ground.chain }], guard := none }) rfl (fun K hK => ?_) AllReady.nil
              go_simp
              go_wp2_with (first | (go_at_call 37; refine (HCl.out _).mono ?_; rintro r w6 ⟨rfl, rfl⟩))
              refine wpAny_ready (rs := [16]) (by kernel_rfl) (by simp) ?_
              refine AllReady.cons (o := { dst := some 38, op := Op.buildSlice 25 1 #[(0, Operand.tmp 37)], type := 25, pos := "tiers.go:276", after := #[{ on := 15, ground := Ground.data }], guard := none }) rfl (fun K hK => ?_) AllReady.nil
              go_simp
              refine hK _ _ ?_
              clear hK K
              try go_frame
              refine wpAny_ready (rs := [17]) (by kernel_rfl) (by simp) ?_
              refine AllReady.cons (o := { dst := some 39, op := Op.call { callee := Callee.builtin Builtin.append, args := #[Operand.tmp 22, Operand.tmp 38], argTypes := #[25, 25] }, type := 25, pos := "tiers.go:276", after := #[{ on := 0, ground := Ground.data }, { on := 16, ground := Ground.data }, { on := 15, ground := Ground.chain }], guard := none }) rfl (fun K hK => ?_) AllReady.nil
              rw [if_pos (by rfl)]
              have O5 := Lib.hid (Ho.out.skip f5)
              have Hr5 := Lib.hid (own_fr0 Hrow.out f5)
              have Hb05 := Lib.hid (Hb0.out.fr f5 (fun h => h))
              have Hb15 := Lib.hid (Hb1.out.fr f5 (fun h => h))
              refine op_app3 _ _ 25 rfl 3 i0 (.int .i64 0) 1 8 Tryz.underlying25 hi hz0 hz1 hz2 rfl (by decide) (.slice R k cs) k _ rfl 0 (Nat.zero_le _) (own_fr0 Hr5.out (Fr.none_alloc _ _)) (some ⟨w5.heap.size, 0, none⟩) 1 1 [.int .i64 cv] rfl (Rd.new w5 [.int .i64 cv] _ 1 rfl) (by simp [Value.oneCell']) (by unfold maxLen; omega) (by omega) (fun R6 c6 w6 ho6 hm6 _ => ?_)
              have Ho6 := Lib.hid ho6
              have Hm6 := Lib.hid hm6
              clear ho6 hm6
              refine hK _ _ ?_
              clear hK K
              try go_frame
              refine wpAny_ready (rs := [18]) (by kernel_rfl) (by simp) ?_
              refine AllReady.cons (o := { dst := some 5, op := Op.assign (Operand.tmp 39), type := 25, pos := "tiers.go:276", after := #[{ on := 17, ground := Ground.data }, { on := 17, ground := Ground.chain }, { on := 0, ground := Ground.phase }, { on := 1, ground := Ground.phase }, { on := 2, ground := Ground.phase }, { on := 3, ground := Ground.phase }, { on := 4, ground := Ground.phase }, { on := 5, ground := Ground.phase }, { on := 6, ground := Ground.phase }, { on := 7, ground := Ground.phase }, { on := 8, ground := Ground.phase }, { on := 9, ground := Ground.phase }, { on := 10, ground := Ground.phase }, { on := 11, ground := Ground.phase }, { on := 12, ground := Ground.phase }, { on := 13, ground := Ground.phase }, { on := 14, ground := Ground.phase }, { on := 15, ground := Ground.phase }, { on := 16, ground := Ground.phase }, { on := 17, ground := Ground.phase }], guard := none }) rfl (fun K hK => ?_) AllReady.nil
              go_simp
              refine hK _ _ ?_
              clear hK K
              try go_frame
              refine wpAny_done (by kernel_rfl) ?_ _
              go_wp2
              go_roundw
              case rel =>
                refine ⟨k + 1, R6, c6, by omega, by go_num, by go_num, (Hb05.out.alloc _).fr Hm6.out.fr (own_blk_ne Hr5.out Hb05.out (by decide)), (Hb15.out.alloc _).fr Hm6.out.fr (own_blk_ne Hr5.out Hb15.out (by decide)), ?_, (O5.out.skip (Fr.none_alloc _ _)).mv Hm6.out⟩
                have h := Ho6.out
                rw [take_snoc Hv.out]
                unfold ints at h ⊢
                rw [List.map_append]
                exact h
              case measure => simp [intOf]; omega
            exact AllReady.nil
          exact AllReady.nil
        refine AllReady.cons (o := { dst := some 36, op := Op.load 3 (Operand.tmp 35), type := 3, pos := "tiers.go:276", after := #[{ on := 13, ground := Ground.data }], guard := none }) rfl (fun K hK => ?_) ?_
        · go_simp
          refine hK _ _ ?_
          clear hK K
          try go_frame
          refine wpAny_ready (rs := [1, 3]) (by kernel_rfl) (by simp) ?_
          refine AllReady.cons (o := { dst := some 23, op := Op.load 29 (Operand.tmp 3), type := 29, pos := "tiers.go:276", after := #[], guard := none }) rfl (fun K hK => ?_) ?_
          · go_simp
            refine hK _ _ ?_
            clear hK K
            try go_frame
            refine wpAny_ready (rs := [3]) (by kernel_rfl) (by simp) ?_
            refine AllReady.cons (o := { dst := some 25, op := Op.load 25 (Operand.tmp 24), type := 25, pos := "tiers.go:276", after := #[{ on := 2, ground := Ground.data }], guard := none }) rfl (fun K hK => ?_) AllReady.nil
            go_simp
            refine hK _ _ ?_
            clear hK K
            try go_frame
            refine wpAny_take (i := 5) (oi := { dst := some 27, op := Op.indexAddr 25 (Operand.tmp 25) (Operand.tmp 26), type := 0, pos := "tiers.go:276", after := #[{ on := 3, ground := Ground.data }, { on := 4, ground := Ground.data }], guard := none }) (v := ?vq38) rfl (by kernel_rfl) (by kernel_rfl) (by kernel_rfl) (fun _ _ _ h => h) (Or.inl ⟨by rfl, ?hq38⟩) ?rq38
            case hq38 => intro W; go_simp; (try with_reducible rfl)
            try go_frame
            refine wpAny_ready (rs := [6]) (by kernel_rfl) (by simp) ?_
            refine AllReady.cons (o := { dst := some 28, op := Op.load 3 (Operand.tmp 27), type := 3, pos := "tiers.go:276", after := #[{ on := 5, ground := Ground.data }], guard := none }) rfl (fun K hK => ?_) AllReady.nil
            go_simp
            refine hK _ _ ?_
            clear hK K
            try go_frame
            refine wpAny_ready (rs := [7]) (by kernel_rfl) (by simp) ?_
            refine AllReady.cons (o := { dst := some 29, op := Op.call { callee := Callee.value (Operand.func 27), args := #[Operand.tmp 23, Operand.tmp 28], argTypes := #[29, 3] }, type := 3, pos := "tiers.go:276", after := #[{ on := 1, ground := Ground.data }, { on := 6, ground := Ground.data }], guard := none }) rfl (fun K hK => ?_) AllReady.nil
            go_simp
            go_wp2_with (first | (go_at_call 27; refine (HF1.out _ F2).mono ?_; rintro r w5 ⟨rfl, f5⟩; obtain ⟨p0, p1, p2, q0, q1, q2, q3, te, sc⟩ := HC.out w5 f5))
            refine wpAny_ready (rs := [15]) (by kernel_rfl) (by simp) ?_
            refine AllReady.cons (o := { dst := some 37, op := Op.call { callee := Callee.value (Operand.func 37), args := #[Operand.tmp 29, Operand.tmp 36], argTypes := #[3, 3] }, type := 3, pos := "tiers.go:276", after := #[{ on := 7, ground := Ground.data }, { on := 14, ground := Ground.data }, { on := 7, ground := Ground.chain }], guard := none }) rfl (fun K hK => ?_) AllReady.nil
            go_simp
            go_wp2_with (first | (go_at_call 37; refine (HCl.out _).mono ?_; rintro r w6 ⟨rfl, rfl⟩))
            refine wpAny_ready (rs := [16]) (by kernel_rfl) (by simp) ?_
            refine AllReady.cons (o := { dst := some 38, op := Op.buildSlice 25 1 #[(0, Operand.tmp 37)], type := 25, pos := "tiers.go:276", after := #[{ on := 15, ground := Ground.data }], guard := none }) rfl (fun K hK => ?_) AllReady.nil
            go_simp
            refine hK _ _ ?_
            clear hK K
            try go_frame
            refine wpAny_ready (rs := [17]) (by kernel_rfl) (by simp) ?_
            refine AllReady.cons (o := { dst := some 39, op := Op.call { callee := Callee.builtin Builtin.append, args := #[Operand.tmp 22, Operand.tmp 38], argTypes := #[25, 25] }, type := 25, pos := "tiers.go:276", after := #[{ on := 0, ground := Ground.data }, { on := 16, ground := Ground.data }, { on := 15, ground := Ground.chain }], guard := none }) rfl (fun K hK => ?_) AllReady.nil
            rw [if_pos (by rfl)]
            have O5 := Lib.hid (Ho.out.skip f5)
            have Hr5 := Lib.hid (own_fr0 Hrow.out f5)
            have Hb05 := Lib.hid (Hb0.out.fr f5 (fun h => h))
            have Hb15 := Lib.hid (Hb1.out.fr f5 (fun h => h))
            refine op_app3 _ _ 25 rfl 3 i0 (.int .i64 0) 1 8 Tryz.underlying25 hi hz0 hz1 hz2 rfl (by decide) (.slice R k cs) k _ rfl 0 (Nat.zero_le _) (own_fr0 Hr5.out (Fr.none_alloc _ _)) (some ⟨w5.heap.size, 0, none⟩) 1 1 [.int .i64 cv] rfl (Rd.new w5 [.int .i64 cv] _ 1 rfl) (by simp [Value.oneCell']) (by unfold maxLen; omega) (by omega) (fun R6 c6 w6 ho6 hm6 _ => ?_)
            have Ho6 := Lib.hid ho6
            have Hm6 := Lib.hid hm6
            clear ho6 hm6
            refine hK _ _ ?_
            clear hK K
            try go_frame
            refine wpAny_ready (rs := [18]) (by kernel_rfl) (by simp) ?_
            refine AllReady.cons (o := { dst := some 5, op := Op.assign (Operand.tmp 39), type := 25, pos := "tiers.go:276", after := #[{ on := 17, ground := Ground.data }, { on := 17, ground := Ground.chain }, { on := 0, ground := Ground.phase }, { on := 1, ground := Ground.phase }, { on := 2, ground := Ground.phase }, { on := 3, ground := Ground.phase }, { on := 4, ground := Ground.phase }, { on := 5, ground := Ground.phase }, { on := 6, ground := Ground.phase }, { on := 7, ground := Ground.phase }, { on := 8, ground := Ground.phase }, { on := 9, ground := Ground.phase }, { on := 10, ground := Ground.phase }, { on := 11, ground := Ground.phase }, { on := 12, ground := Ground.phase }, { on := 13, ground := Ground.phase }, { on := 14, ground := Ground.phase }, { on := 15, ground := Ground.phase }, { on := 16, ground := Ground.phase }, { on := 17, ground := Ground.phase }], guard := none }) rfl (fun K hK => ?_) AllReady.nil
            go_simp
            refine hK _ _ ?_
            clear hK K
            try go_frame
            refine wpAny_done (by kernel_rfl) ?_ _
            go_wp2
            go_roundw
            case rel =>
              refine ⟨k + 1, R6, c6, by omega, by go_num, by go_num, (Hb05.out.alloc _).fr Hm6.out.fr (own_blk_ne Hr5.out Hb05.out (by decide)), (Hb15.out.alloc _).fr Hm6.out.fr (own_blk_ne Hr5.out Hb15.out (by decide)), ?_, (O5.out.skip (Fr.none_alloc _ _)).mv Hm6.out⟩
              have h := Ho6.out
              rw [take_snoc Hv.out]
              unfold ints at h ⊢
              rw [List.map_append]
              exact h
            case measure => simp [intOf]; omega
          refine AllReady.cons (o := { dst := some 25, op := Op.load 25 (Operand.tmp 24), type := 25, pos := "tiers.go:276", after := #[{ on := 2, ground := Ground.data }], guard := none }) rfl (fun K hK => ?_) ?_
          · go_simp
            refine hK _ _ ?_
            clear hK K
            try go_frame
            refine wpAny_take (i := 5) (oi := { dst := some 27, op := Op.indexAddr 25 (Operand.tmp 25) (Operand.tmp 26), type := 0, pos := "tiers.go:276", after := #[{ on := 3, ground := Ground.data }, { on := 4, ground := Ground.data }], guard := none }) (v := ?vq39) rfl (by kernel_rfl) (by kernel_rfl) (by kernel_rfl) (fun _ _ _ h => h) (Or.inl ⟨by rfl, ?hq39⟩) ?rq39
            case hq39 => intro W; go_simp; (try with_reducible rfl)
            try go_frame
            refine wpAny_ready (rs := [1, 6]) (by kernel_rfl) (by simp) ?_
            refine AllReady.cons (o := { dst := some 23, op := Op.load 29 (Operand.tmp 3), type := 29, pos := "tiers.go:276", after := #[], guard := none }) rfl (fun K hK => ?_) ?_
            · go_simp
              refine hK _ _ ?_
              clear hK K
              try go_frame
              refine wpAny_ready (rs := [6]) (by kernel_rfl) (by simp) ?_
              refine AllReady.cons (o := { dst := some 28, op := Op.load 3 (Operand.tmp 27), type := 3, pos := "tiers.go:276", after := #[{ on := 5, ground := Ground.data }], guard := none }) rfl (fun K hK => ?_) AllReady.nil
              go_simp
              refine hK _ _ ?_
              clear hK K
              try go_frame
              refine wpAny_ready (rs := [7]) (by kernel_rfl) (by simp) ?_
              refine AllReady.cons (o := { dst := some 29, op := Op.call { callee := Callee.value (Operand.func 27), args := #[Operand.tmp 23, Operand.tmp 28], argTypes := #[29, 3] }, type := 3, pos := "tiers.go:276", after := #[{ on := 1, ground := Ground.data }, { on := 6, ground := Ground.data }], guard := none }) rfl (fun K hK => ?_) AllReady.nil
              go_simp
              go_wp2_with (first | (go_at_call 27; refine (HF1.out _ F2).mono ?_; rintro r w5 ⟨rfl, f5⟩; obtain ⟨p0, p1, p2, q0, q1, q2, q3, te, sc⟩ := HC.out w5 f5))
              refine wpAny_ready (rs := [15]) (by kernel_rfl) (by simp) ?_
              refine AllReady.cons (o := { dst := some 37, op := Op.call { callee := Callee.value (Operand.func 37), args := #[Operand.tmp 29, Operand.tmp 36], argTypes := #[3, 3] }, type := 3, pos := "tiers.go:276", after := #[{ on := 7, ground := Ground.data }, { on := 14, ground := Ground.data }, { on := 7, ground := Ground.chain }], guard := none }) rfl (fun K hK => ?_) AllReady.nil
              go_simp
              go_wp2_with (first | (go_at_call 37; refine (HCl.out _).mono ?_; rintro r w6 ⟨rfl, rfl⟩))
              refine wpAny_ready (rs := [16]) (by kernel_rfl) (by simp) ?_
              refine AllReady.cons (o := { dst := some 38, op := Op.buildSlice 25 1 #[(0, Operand.tmp 37)], type := 25, pos := "tiers.go:276", after := #[{ on := 15, ground := Ground.data }], guard := none }) rfl (fun K hK => ?_) AllReady.nil
              go_simp
              refine hK _ _ ?_
              clear hK K
              try go_frame
              refine wpAny_ready (rs := [17]) (by kernel_rfl) (by simp) ?_
              refine AllReady.cons (o := { dst := some 39, op := Op.call { callee := Callee.builtin Builtin.append, args := #[Operand.tmp 22, Operand.tmp 38], argTypes := #[25, 25] }, type := 25, pos := "tiers.go:276", after := #[{ on := 0, ground := Ground.data }, { on := 16, ground := Ground.data }, { on := 15, ground := Ground.chain }], guard := none }) rfl (fun K hK => ?_) AllReady.nil
              rw [if_pos (by rfl)]
              have O5 := Lib.hid (Ho.out.skip f5)
              have Hr5 := Lib.hid (own_fr0 Hrow.out f5)
              have Hb05 := Lib.hid (Hb0.out.fr f5 (fun h => h))
              have Hb15 := Lib.hid (Hb1.out.fr f5 (fun h => h))
              refine op_app3 _ _ 25 rfl 3 i0 (.int .i64 0) 1 8 Tryz.underlying25 hi hz0 hz1 hz2 rfl (by decide) (.slice R k cs) k _ rfl 0 (Nat.zero_le _) (own_fr0 Hr5.out (Fr.none_alloc _ _)) (some ⟨w5.heap.size, 0, none⟩) 1 1 [.int .i64 cv] rfl (Rd.new w5 [.int .i64 cv] _ 1 rfl) (by simp [Value.oneCell']) (by unfold maxLen; omega) (by omega) (fun R6 c6 w6 ho6 hm6 _ => ?_)
              have Ho6 := Lib.hid ho6
              have Hm6 := Lib.hid hm6
              clear ho6 hm6
              refine hK _ _ ?_
              clear hK K
              try go_frame
              refine wpAny_ready (rs := [18]) (by kernel_rfl) (by simp) ?_
              refine AllReady.cons (o := { dst := some 5, op := Op.assign (Operand.tmp 39), type := 25, pos := "tiers.go:276", after := #[{ on := 17, ground := Ground.data }, { on := 17, ground := Ground.chain }, { on := 0, ground := Ground.phase }, { on := 1, ground := Ground.phase }, { on := 2, ground := Ground.phase }, { on := 3, ground := Ground.phase }, { on := 4, ground := Ground.phase }, { on := 5, ground := Ground.phase }, { on := 6, ground := Ground.phase }, { on := 7, ground := Ground.phase }, { on := 8, ground := Ground.phase }, { on := 9, ground := Ground.phase }, { on := 10, ground := Ground.phase }, { on := 11, ground := Ground.phase }, { on := 12, ground := Ground.phase }, { on := 13, ground := Ground.phase }, { on := 14, ground := Ground.phase }, { on := 15, ground := Ground.phase }, { on := 16, ground := Ground.phase }, { on := 17, ground := Ground.phase }], guard := none }) rfl (fun K hK => ?_) AllReady.nil
              go_simp
              refine hK _ _ ?_
              clear hK K
              try go_frame
              refine wpAny_done (by kernel_rfl) ?_ _
              go_wp2
              go_roundw
              case rel =>
                refine ⟨k + 1, R6, c6, by omega, by go_num, by go_num, (Hb05.out.alloc _).fr Hm6.out.fr (own_blk_ne Hr5.out Hb05.out (by decide)), (Hb15.out.alloc _).fr Hm6.out.fr (own_blk_ne Hr5.out Hb15.out (by decide)), ?_, (O5.out.skip (Fr.none_alloc _ _)).mv Hm6.out⟩
                have h := Ho6.out
                rw [take_snoc Hv.out]
                unfold ints at h ⊢
                rw [List.map_append]
                exact h
              case measure => simp [intOf]; omega
            refine AllReady.cons (o := { dst := some 28, op := Op.load 3 (Operand.tmp 27), type := 3, pos := "tiers.go:276", after := #[{ on := 5, ground := Ground.data }], guard := none }) rfl (fun K hK => ?_) ?_
            · go_simp
              refine hK _ _ ?_
              clear hK K
              try go_frame
              refine wpAny_ready (rs := [1]) (by kernel_rfl) (by simp) ?_
              refine AllReady.cons (o := { dst := some 23, op := Op.load 29 (Operand.tmp 3), type := 29, pos := "tiers.go:276", after := #[], guard := none }) rfl (fun K hK => ?_) AllReady.nil
              go_simp
              refine hK _ _ ?_
              clear hK K
              try go_frame
              refine wpAny_ready (rs := [7]) (by kernel_rfl) (by simp) ?_
              refine AllReady.cons (o := { dst := some 29, op := Op.call { callee := Callee.value (Operand.func 27), args := #[Operand.tmp 23, Operand.tmp 28], argTypes := #[29, 3] }, type := 3, pos := "tiers.go:276", after := #[{ on := 1, ground := Ground.data }, { on := 6, ground := Ground.data }], guard := none }) rfl (fun K hK => ?_) AllReady.nil
              go_simp
              go_wp2_with (first | (go_at_call 27; refine (HF1.out _ F2).mono ?_; rintro r w5 ⟨rfl, f5⟩; obtain ⟨p0, p1, p2, q0, q1, q2, q3, te, sc⟩ := HC.out w5 f5))
              refine wpAny_ready (rs := [15]) (by kernel_rfl) (by simp) ?_
              refine AllReady.cons (o := { dst := some 37, op := Op.call { callee := Callee.value (Operand.func 37), args := #[Operand.tmp 29, Operand.tmp 36], argTypes := #[3, 3] }, type := 3, pos := "tiers.go:276", after := #[{ on := 7, ground := Ground.data }, { on := 14, ground := Ground.data }, { on := 7, ground := Ground.chain }], guard := none }) rfl (fun K hK => ?_) AllReady.nil
              go_simp
              go_wp2_with (first | (go_at_call 37; refine (HCl.out _).mono ?_; rintro r w6 ⟨rfl, rfl⟩))
              refine wpAny_ready (rs := [16]) (by kernel_rfl) (by simp) ?_
              refine AllReady.cons (o := { dst := some 38, op := Op.buildSlice 25 1 #[(0, Operand.tmp 37)], type := 25, pos := "tiers.go:276", after := #[{ on := 15, ground := Ground.data }], guard := none }) rfl (fun K hK => ?_) AllReady.nil
              go_simp
              refine hK _ _ ?_
              clear hK K
              try go_frame
              refine wpAny_ready (rs := [17]) (by kernel_rfl) (by simp) ?_
              refine AllReady.cons (o := { dst := some 39, op := Op.call { callee := Callee.builtin Builtin.append, args := #[Operand.tmp 22, Operand.tmp 38], argTypes := #[25, 25] }, type := 25, pos := "tiers.go:276", after := #[{ on := 0, ground := Ground.data }, { on := 16, ground := Ground.data }, { on := 15, ground := Ground.chain }], guard := none }) rfl (fun K hK => ?_) AllReady.nil
              rw [if_pos (by rfl)]
              have O5 := Lib.hid (Ho.out.skip f5)
              have Hr5 := Lib.hid (own_fr0 Hrow.out f5)
              have Hb05 := Lib.hid (Hb0.out.fr f5 (fun h => h))
              have Hb15 := Lib.hid (Hb1.out.fr f5 (fun h => h))
              refine op_app3 _ _ 25 rfl 3 i0 (.int .i64 0) 1 8 Tryz.underlying25 hi hz0 hz1 hz2 rfl (by decide) (.slice R k cs) k _ rfl 0 (Nat.zero_le _) (own_fr0 Hr5.out (Fr.none_alloc _ _)) (some ⟨w5.heap.size, 0, none⟩) 1 1 [.int .i64 cv] rfl (Rd.new w5 [.int .i64 cv] _ 1 rfl) (by simp [Value.oneCell']) (by unfold maxLen; omega) (by omega) (fun R6 c6 w6 ho6 hm6 _ => ?_)
              have Ho6 := Lib.hid ho6
              have Hm6 := Lib.hid hm6
              clear ho6 hm6
              refine hK _ _ ?_
              clear hK K
              try go_frame
              refine wpAny_ready (rs := [18]) (by kernel_rfl) (by simp) ?_
              refine AllReady.cons (o := { dst := some 5, op := Op.assign (Operand.tmp 39), type := 25, pos := "tiers.go:276", after := #[{ on := 17, ground := Ground.data }, { on := 17, ground := Ground.chain }, { on := 0, ground := Ground.phase }, { on := 1, ground := Ground.phase }, { on := 2, ground := Ground.phase }, { on := 3, ground := Ground.phase }, { on := 4, ground := Ground.phase }, { on := 5, ground := Ground.phase }, { on := 6, ground := Ground.phase }, { on := 7, ground := Ground.phase }, { on := 8, ground := Ground.phase }, { on := 9, ground := Ground.phase }, { on := 10, ground := Ground.phase }, { on := 11, ground := Ground.phase }, { on := 12, ground := Ground.phase }, { on := 13, ground := Ground.phase }, { on := 14, ground := Ground.phase }, { on := 15, ground := Ground.phase }, { on := 16, ground := Ground.phase }, { on := 17, ground := Ground.phase }], guard := none }) rfl (fun K hK => ?_) AllReady.nil
              go_simp
              refine hK _ _ ?_
              clear hK K
              try go_frame
              refine wpAny_done (by kernel_rfl) ?_ _
              go_wp2
              go_roundw
              case rel =>
                refine ⟨k + 1, R6, c6, by omega, by go_num, by go_num, (Hb05.out.alloc _).fr Hm6.out.fr (own_blk_ne Hr5.out Hb05.out (by decide)), (Hb15.out.alloc _).fr Hm6.out.fr (own_blk_ne Hr5.out Hb15.out (by decide)), ?_, (O5.out.skip (Fr.none_alloc _ _)).mv Hm6.out⟩
                have h := Ho6.out
                rw [take_snoc Hv.out]
                unfold ints at h ⊢
                rw [List.map_append]
                exact h
              case measure => simp [intOf]; omega
            exact AllReady.nil
          exact AllReady.nil
        exact AllReady.nil
      exact AllReady.nil
    · obtain rfl : k = n := by omega
      have hl : (basesV now lf fl ss lt).take k = basesV now lf fl ss lt := take_all (by unfold basesV; rw [List.length_zipWith, Hls.out, Hlt.out]; omega)
      rw [hl] at hrow
      have Hrow := Lib.hid hrow
      have Ho := Lib.hid ho
      clear hb0 hb1 hrow ho hl
      go_wp2_with fail
      go_ret
      obtain ⟨S2, cs2, e, hcs, _, hrs⟩ := own_slice Hrow.out
      injection e with ea _ ec
      subst ea ec
      exact ⟨⟨R, cs, rfl, hcs, hrs, fun j hj => Ho.out.new j (adF_row j hj)⟩, Ho.out.bel⟩
end Go.Proofs.YtbdhmoeadakipaaGreat
